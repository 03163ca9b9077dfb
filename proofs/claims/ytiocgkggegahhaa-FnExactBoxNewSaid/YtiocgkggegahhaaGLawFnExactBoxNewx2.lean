import Derived.Test.YtiocgkggegahhaaGLawFnExactBoxNewx1
import Derived.Lib.SliceRun
/- slices.Clone and slices.Clip at ends and rules, and what is built of them: a table's copy, a new box. -/
namespace Go.Proofs.Ytiocgkggegahhaa.P
open Go.RowKit Go.Proofs.YtiocgkggegahhaaUFnExactBoxNew.PrintWords Go.Proofs.YtiocgkggegahhaaUFnExactBoxNew.PrintLast Go.Proofs.YtiocgkggegahhaaUFnExactBoxNew.PrintMore
set_option linter.unusedVariables false
set_option linter.unusedSimpArgs false
theorem R_clip {α : Type} {d : Kd α} {e n c : Nat} {w : World} {base : Nat} {ok : Nat → Prop} {A : Option Addr} {xs : List α} (h : d.R e w base ok (.slice A n c) xs) : d.R e w base ok (.slice A n n) xs := by
  obtain ⟨h0, inner, ho, hr⟩ := h
  have hb : ∀ x y : Nat, (Value.slice A x x).ownBlock = (Value.slice A n c).ownBlock := by intro x y; cases A <;> rfl
  have hn : n = xs.length := by
    obtain ⟨A', c', he⟩ := own_slice ho
    injection he
  refine ⟨fun k hk => h0 k (by rw [← hb n n]; exact hk), inner, ?_, by rw [hb n n]; exact hr⟩
  obtain ⟨hl, h2⟩ := ho
  refine ⟨hl, ?_⟩
  rcases h2 with ⟨hv, hx⟩ | ⟨g, cap, cur, hv, hbg, hh, hnc, hcm, hcs, ht⟩
  · injection hv with h1 h2 h3
    subst h1; subst h2
    exact .inl ⟨rfl, hx⟩
  · injection hv with h1 h2 h3
    subst h1; subst h2; subst h3
    exact .inr ⟨g, xs.length, cur, rfl, hbg, hh, Nat.le_refl _, Nat.le_trans hnc hcm, Nat.le_trans (Nat.mul_le_mul_right _ hnc) hcs, ht⟩
set_option maxHeartbeats 8000000 in
set_option maxRecDepth 100000 in
theorem clip_end (A : Option Addr) (n c : Nat) (h : n ≤ c) (w : World) : Calls Try.prog 93 #[.slice A n c] w fun e w' => ∃ v, e = .returned v ∧ v = .slice A n n ∧ w' = w := by
  go_enter Try.func93, Try.ntmps93
  go_wp2
  go_ret
  exact ⟨_, rfl, rfl, rfl⟩
set_option maxHeartbeats 8000000 in
set_option maxRecDepth 100000 in
theorem clip_rule (A : Option Addr) (n c : Nat) (h : n ≤ c) (w : World) : Calls Try.prog 76 #[.slice A n c] w fun e w' => ∃ v, e = .returned v ∧ v = .slice A n n ∧ w' = w := by
  go_enter Try.func76, Try.ntmps76
  go_wp2
  go_ret
  exact ⟨_, rfl, rfl, rfl⟩
set_option maxHeartbeats 8000000 in
set_option maxRecDepth 100000 in
theorem clone_end (A : Option Addr) (c : Nat) (l : List S29) (w : World) (hr : Kd.C k29 w A l.length l) (hc : l.length ≤ c) (hl : l.length < 1000000000000) :
    Calls Try.prog 103 #[.slice A l.length c] w fun e w' => ∃ v, e = .returned v ∧ Kd.R k29 29 w' w.heap.size (fun _ => True) v l ∧ Below w.heap.size w w' := by
  have HR := Aside0.mk hr
  have HL := Aside0.mk hl
  clear hl
  have HB := Aside0.mk (Below.refl w.heap.size w)
  cases A with
  | none =>
    have h0 : l.length = 0 := by
      rcases Nat.eq_zero_or_pos l.length with h | h
      · exact h
      · obtain ⟨x, hx, _⟩ := hr.2.2 h
        cases hx
    have hnil := Aside0.mk (List.eq_nil_of_length_eq_zero h0)
    clear hr h0
    have hq := fun w' : World => Lib.run_eql_slice_nil (P := Try.prog) w' 43 29 none l.length c 0 0 Try.underlying43
    go_enter Try.func103, Try.ntmps103
    go_wp2
    go_ret
    exact ⟨_, rfl, by rw [hnil.out]; exact Kd.R_nil _ _ _ _ _, HB.out⟩
  | some ad =>
    clear hr
    have hq := fun w' : World => Lib.run_eql_slice_nil (P := Try.prog) w' 43 29 (some ad) l.length c 0 0 Try.underlying43
    go_enter Try.func103, Try.ntmps103
    go_wp2_with (first
      | ((with_reducible refine gate_dst (N := 5) rfl ?_)
         refine Kd.R_lit k29 _ 29 ?hg (N := 5) ?hd (xs := ([] : List (S29))) (inner := []) (ok := fun _ => True) (okp := fun _ => True) ?hr ?hp (fun _ hk => hk) trivial (Below.refl _ _) (Nat.le_refl _) (by simp) ?_
         (case hd => rfl)
         (case hg => rfl)
         (case hr => first | (go_simp; done) | (go_simp; rfl))
         (case hp => exact (Reps.none _ _))
         intro v5 w5 ho5 hb hg_ hnew_
         clear hg_ hnew_
         have HO := Aside0.mk (Kd.R_lower ho5 (below_size (bl HB)))
         have n3_ := Aside0.mk (below_step (bl HB) hb)
         clear HB
         have HB := n3_
         clear n3_ hb ho5)
      | ((with_reducible refine gate_builtin (b := .append) (xs := #[.tmp 5, .tmp 6]) rfl ?_)
         at_builtin
         refine Kd.R_append_rows k29 (w0 := w) w.heap.size rfl (.tmp 5) (.tmp 6) 43 29 (.agg #[(.int .i64 0), (.int .i64 0)]) 16 rfl Try.underlying43 info29 rfl (by decide) (by omega) v5 [] l _ _ _ (fun _ => True) (fun _ => False) rfl rfl ?aO ?aR (fun _ _ h => h) (fun _ h => h.elim) ?aF ?aB ?aS ?aL ?_
         (case aR => repeat (first | exact (Kd.C_below HR.out HB.out) | (with_reducible refine Kd.C_alloc ?_ _) | (with_reducible refine Kd.C_drewN ?_ _) | (with_reducible refine Kd.C_drew ?_)))
         (case aB => exact (bl HB))
         (case aF => exact (fun _ _ => trivial))
         (case aO => exact (rs HO))
         (case aS => exact (below_size (bl HB)))
         (case aL => have := HL.out; simp only [List.length_nil]; omega)
         intro v7 w7 ho hb hg hat
         have n2_ := Aside0.mk hb
         clear HB HO
         have HB := n2_
         have HO := Aside0.mk ho
         clear n2_ ho hb hg hat))
    go_ret
    exact ⟨_, rfl, HO.out, HB.out⟩
set_option maxHeartbeats 8000000 in
set_option maxRecDepth 100000 in
theorem clone_rule (A : Option Addr) (c : Nat) (l : List S24) (w : World) (hr : Kd.C k24 w A l.length l) (hc : l.length ≤ c) (hl : l.length < 1000000000000) :
    Calls Try.prog 77 #[.slice A l.length c] w fun e w' => ∃ v, e = .returned v ∧ Kd.R k24 24 w' w.heap.size (fun _ => True) v l ∧ Below w.heap.size w w' := by
  have HR := Aside0.mk hr
  have HL := Aside0.mk hl
  clear hl
  have HB := Aside0.mk (Below.refl w.heap.size w)
  cases A with
  | none =>
    have h0 : l.length = 0 := by
      rcases Nat.eq_zero_or_pos l.length with h | h
      · exact h
      · obtain ⟨x, hx, _⟩ := hr.2.2 h
        cases hx
    have hnil := Aside0.mk (List.eq_nil_of_length_eq_zero h0)
    clear hr h0
    have hq := fun w' : World => Lib.run_eql_slice_nil (P := Try.prog) w' 31 24 none l.length c 0 0 Try.underlying31
    go_enter Try.func77, Try.ntmps77
    go_wp2
    go_ret
    exact ⟨_, rfl, by rw [hnil.out]; exact Kd.R_nil _ _ _ _ _, HB.out⟩
  | some ad =>
    clear hr
    have hq := fun w' : World => Lib.run_eql_slice_nil (P := Try.prog) w' 31 24 (some ad) l.length c 0 0 Try.underlying31
    go_enter Try.func77, Try.ntmps77
    go_wp2_with (first
      | ((with_reducible refine gate_dst (N := 5) rfl ?_)
         refine Kd.R_lit k24 _ 24 ?hg (N := 5) ?hd (xs := ([] : List (S24))) (inner := []) (ok := fun _ => True) (okp := fun _ => True) ?hr ?hp (fun _ hk => hk) trivial (Below.refl _ _) (Nat.le_refl _) (by simp) ?_
         (case hd => rfl)
         (case hg => rfl)
         (case hr => first | (go_simp; done) | (go_simp; rfl))
         (case hp => exact (Reps.none _ _))
         intro v5 w5 ho5 hb hg_ hnew_
         clear hg_ hnew_
         have HO := Aside0.mk (Kd.R_lower ho5 (below_size (bl HB)))
         have n3_ := Aside0.mk (below_step (bl HB) hb)
         clear HB
         have HB := n3_
         clear n3_ hb ho5)
      | ((with_reducible refine gate_builtin (b := .append) (xs := #[.tmp 5, .tmp 6]) rfl ?_)
         at_builtin
         refine Kd.R_append_rows k24 (w0 := w) w.heap.size rfl (.tmp 5) (.tmp 6) 31 24 (.agg #[(.bool false), (.int .i64 0), (.int .i64 0), (.int .i64 0), (.int .i64 0), (.int .i64 0), (.int .i64 0)]) 56 rfl Try.underlying31 info24 rfl (by decide) (by omega) v5 [] l _ _ _ (fun _ => True) (fun _ => False) rfl rfl ?aO ?aR (fun _ _ h => h) (fun _ h => h.elim) ?aF ?aB ?aS ?aL ?_
         (case aR => repeat (first | exact (Kd.C_below HR.out HB.out) | (with_reducible refine Kd.C_alloc ?_ _) | (with_reducible refine Kd.C_drewN ?_ _) | (with_reducible refine Kd.C_drew ?_)))
         (case aB => exact (bl HB))
         (case aF => exact (fun _ _ => trivial))
         (case aO => exact (rs HO))
         (case aS => exact (below_size (bl HB)))
         (case aL => have := HL.out; simp only [List.length_nil]; omega)
         intro v7 w7 ho hb hg hat
         have n2_ := Aside0.mk hb
         clear HB HO
         have HB := n2_
         have HO := Aside0.mk ho
         clear n2_ ho hb hg hat))
    go_ret
    exact ⟨_, rfl, HO.out, HB.out⟩
def impl_EndPoint_103.f (l : List S29) : Option (List S29) := if l.length < 1000000000000 then some l else none
theorem impl_EndPoint_103.calls (A0 : Option Addr) (c0 : Nat) (l0 : List (S29)) (r : List (S29)) (w : World) (hr0 : Kd.C k29 w A0 l0.length l0) (hc0 : l0.length ≤ c0) (h : impl_EndPoint_103.f l0 = some r) :
    Calls Try.prog 103 #[.slice A0 l0.length c0] w fun e w' => ∃ v0_ : Value, e = .returned (v0_) ∧ Kd.R k29 29 w' w.heap.size (fun _ => True) v0_ r ∧ Below w.heap.size w w' := by
  unfold impl_EndPoint_103.f at h
  by_cases hl : l0.length < 1000000000000
  · rw [if_pos hl] at h
    obtain rfl := Option.some.inj h
    exact clone_end A0 c0 l0 w hr0 hc0 hl
  · rw [if_neg hl] at h
    cases h
/-- slices.Clip: the row that it returns, and nothing of the row that it got (which lies in the same block). -/
def impl_EndPoint_93.f (l : List S29) : Option (List S29 × List S29) := some (l, [])
def impl_RulRule_77.f (l : List S24) : Option (List S24) := if l.length < 1000000000000 then some l else none
theorem impl_RulRule_77.calls (A0 : Option Addr) (c0 : Nat) (l0 : List (S24)) (r : List (S24)) (w : World) (hr0 : Kd.C k24 w A0 l0.length l0) (hc0 : l0.length ≤ c0) (h : impl_RulRule_77.f l0 = some r) :
    Calls Try.prog 77 #[.slice A0 l0.length c0] w fun e w' => ∃ v0_ : Value, e = .returned (v0_) ∧ Kd.R k24 24 w' w.heap.size (fun _ => True) v0_ r ∧ Below w.heap.size w w' := by
  unfold impl_RulRule_77.f at h
  by_cases hl : l0.length < 1000000000000
  · rw [if_pos hl] at h
    obtain rfl := Option.some.inj h
    exact clone_rule A0 c0 l0 w hr0 hc0 hl
  · rw [if_neg hl] at h
    cases h
/-- slices.Clip: the row that it returns, and nothing of the row that it got (which lies in the same block). -/
def impl_RulRule_76.f (l : List S24) : Option (List S24 × List S24) := some (l, [])
theorem bkW {w W w' : World} {g : Nat} {o : Obj} (b : Aside0 (w.heap[g]? = some o)) (hw : w' = W) (s : w.heap[g]? = some o → W.heap[g]? = some o := by intro h; (with_reducible repeat refine bu ?_); exact h) : Aside0 (w'.heap[g]? = some o) := ⟨by rw [hw]; exact s b.out⟩
theorem blW {w W W' w' : World} {n : Nat} (b : Aside0 (Below n w W)) (hw : w' = W') (s : Below n w W → Below n w W' := by intro h; repeat (first | (with_reducible first | exact h | apply below_alloc | apply pw_below_drewN | apply below_drew1 | refine below_set ?_ (Aside0.out (by with_reducible assumption))) | exact h)) : Aside0 (Below n w w') := ⟨by rw [hw]; exact s b.out⟩
theorem clipNil {α : Type} {d : Kd α} {e : Nat} {w : World} {base : Nat} {ok : Nat → Prop} {u : Value} {xs r1 r2 : List α} (h : Aside0 (Kd.R d e w base ok u xs)) (w' : World) (hf : some (xs, ([] : List α)) = some (r1, r2)) : Aside0 (Kd.R d e w' base ok (.slice none 0 0) r2) := by
  injection hf with hf
  injection hf with _ h2
  subst h2
  exact ⟨Kd.R_nil _ _ _ _ _⟩
theorem clipR {α : Type} {d : Kd α} {e n c : Nat} {w W w' : World} {base : Nat} {ok ok' : Nat → Prop} {A : Option Addr} {v : Value} {xs r1 r2 : List α} (h : Aside0 (Kd.R d e w base ok (.slice A n c) xs)) (hv : v = .slice A n n) (hw : w' = W) (hf : some (xs, ([] : List α)) = some (r1, r2)) (hok : ∀ k, ok k → ok' k)
    (s : Kd.R d e w base ok (.slice A n c) xs → Kd.R d e W base ok (.slice A n c) xs := by intro h; (with_reducible repeat apply ru); exact h) : Aside0 (Kd.R d e w' base ok' v r1) := by
  injection hf with hf
  injection hf with h1 _
  subst h1
  subst hv
  subst hw
  exact ⟨Kd.R_mono (R_clip (s h.out)) hok⟩
end Go.Proofs.Ytiocgkggegahhaa.P

-- written by hw.py for this claim
namespace Go.Proofs.Ytiocgkggegahhaa.P
open Go.RowKit Go.Proofs.YtiocgkggegahhaaUFnExactBoxNew.PrintWords Go.Proofs.YtiocgkggegahhaaUFnExactBoxNew.PrintLast Go.Proofs.YtiocgkggegahhaaUFnExactBoxNew.PrintMore
attribute [local go_sem] max2_int min2_int max_two min_two max_three min_three max_four min_four
set_option linter.unusedVariables false
set_option linter.unusedSimpArgs false

/-! ### laws_szRulRuleS: function 16 -/
def laws_szRulRuleS.f (l0 : List (S80)) (a1 : Int) : Option (Int) := if (wrap64 (a1 - (l0.length : Int))) < 0 then (some (-1)) else (some (wrap64 (a1 - (l0.length : Int))))
set_option maxHeartbeats 8000000 in
set_option maxRecDepth 100000 in
theorem laws_szRulRuleS.calls (A0 : Option Addr) (c0 : Nat) (l0 : List (S80)) (a1 : Int) (r : Int) (w : World) (hr0 : Kd.C k80 w A0 l0.length l0) (hc0 : l0.length ≤ c0) (h : laws_szRulRuleS.f l0 a1 = some r) :
    Calls Try.prog 16 #[.slice A0 l0.length c0, .int .i64 a1] w fun e w' => e = .returned (.int .i64 r) ∧ Drawn0 w w' := by
  have HR0 := Aside0.mk hr0
  have HC0 := Aside0.mk hc0
  clear hr0 hc0
  have H : (if (wrap64 (a1 - (l0.length : Int))) < 0 then (some (-1)) else (some (wrap64 (a1 - (l0.length : Int))))) = some r := h
  clear h
  by_cases c3 : (wrap64 (a1 - (l0.length : Int))) < 0
  · rw [if_pos c3] at H
    have c3b0 : decide ((wrap64 (a1 - (l0.length : Int))) < 0) = true := decide_eq_true c3
    clear c3
    obtain rfl := Option.some.inj H
    go_enter Try.func16, Try.ntmps16
    go_wp2
    go_ret
    exact ⟨by first | rfl | (simp; done) | (simp [*]; done), by repeat (first | exact Drawn0.refl _ | apply Drawn0.step)⟩
  · rw [if_neg c3] at H
    have c3b0 : decide ((wrap64 (a1 - (l0.length : Int))) < 0) = false := decide_eq_false c3
    clear c3
    obtain rfl := Option.some.inj H
    go_enter Try.func16, Try.ntmps16
    go_wp2
    go_ret
    exact ⟨by first | rfl | (simp; done) | (simp [*]; done), by repeat (first | exact Drawn0.refl _ | apply Drawn0.step)⟩

end Go.Proofs.Ytiocgkggegahhaa.P

-- written by hw.py for this claim
namespace Go.Proofs.Ytiocgkggegahhaa.P
open Go.RowKit Go.Proofs.YtiocgkggegahhaaUFnExactBoxNew.PrintWords Go.Proofs.YtiocgkggegahhaaUFnExactBoxNew.PrintLast Go.Proofs.YtiocgkggegahhaaUFnExactBoxNew.PrintMore
attribute [local go_sem] max2_int min2_int max_two min_two max_three min_three max_four min_four
set_option linter.unusedVariables false
set_option linter.unusedSimpArgs false

/-! ### spec_BoxNew: function 38 -/
def spec_BoxNew.f (k : Nat) (l0 : List (S24)) : Option ((List (S24)) × (List (S29)) × (List (S119))) := (spec_l6Rules.f k l0).bind fun t828 => (if t828 = true then ((some (([] : List (S24)) : List (S24))).bind fun y829 => (if y829.length + l0.length < 2513169434916 then (some ((y829 ++ l0), ([] : List (S29)), ([] : List (S119)))) else (none))) else (some (([] : List (S24)), ([] : List (S29)), ([] : List (S119)))))
theorem spec_BoxNew.mono : ∀ a0 k, LeO (spec_BoxNew.f k a0) (spec_BoxNew.f (k + 1) a0) := by
  intro a0 k
  unfold spec_BoxNew.f
  repeat' first
      | (with_reducible exact spec_l6Rules.mono _ _)
      | (with_reducible exact LeO.refl _)
      | (with_reducible exact LeO.none _)
      | (with_reducible refine LeO.ite ?_ ?_)
      | (with_reducible refine LeO.bind ?_ (fun _ => ?_))
      | exact spec_l6Rules.mono _ _
      | exact LeO.none _
      | refine LeO.ite ?_ ?_
      | refine LeO.bind ?_ (fun _ => ?_)
set_option maxHeartbeats 8000000 in
set_option maxRecDepth 100000 in
theorem spec_BoxNew.calls (k : Nat) (A0 : Option Addr) (c0 : Nat) (l0 : List (S24)) (r1 : List (S24)) (r2 : List (S29)) (r3 : List (S119)) (w : World) (hr0 : Kd.C k24 w A0 l0.length l0) (hc0 : l0.length ≤ c0) (h : spec_BoxNew.f k l0 = some (r1, r2, r3)) :
    Calls Try.prog 38 #[.slice A0 l0.length c0] w fun e w' => ∃ v0_ v1_ v2_ : Value, e = .returned (.agg #[v0_, v1_, v2_]) ∧ Kd.R k24 24 w' w.heap.size (fun _ => True) v0_ r1 ∧ Kd.R k29 29 w' w.heap.size (fun _ => True) v1_ r2 ∧ Kd.R k119 119 w' w.heap.size (fun _ => True) v2_ r3 ∧ Below w.heap.size w w' := by
  have hu66 := Try.underlying66
  have HR0 := Aside0.mk hr0
  have HC0 := Aside0.mk hc0
  clear hr0 hc0
  have HB := Aside0.mk (Below.refl w.heap.size w)
  have H : ((spec_l6Rules.f k l0).bind fun t828 => (if t828 = true then ((some (([] : List (S24)) : List (S24))).bind fun y829 => (if y829.length + l0.length < 2513169434916 then (some ((y829 ++ l0), ([] : List (S29)), ([] : List (S119)))) else (none))) else (some (([] : List (S24)), ([] : List (S29)), ([] : List (S119)))))) = some (r1, r2, r3) := h
  clear h
  replace H := Option.bind_eq_some_iff.mp H
  obtain ⟨t828, A20, H⟩ := H
  replace H : (if t828 = true then ((some (([] : List (S24)) : List (S24))).bind fun y829 => (if y829.length + l0.length < 2513169434916 then (some ((y829 ++ l0), ([] : List (S29)), ([] : List (S119)))) else (none))) else (some (([] : List (S24)), ([] : List (S29)), ([] : List (S119))))) = some (r1, r2, r3) := H
  have A2 := Aside0.mk A20
  clear A20
  by_cases c3 : t828 = true
  · subst c3
    have H1 : ((some (([] : List (S24)) : List (S24))).bind fun y829 => (if y829.length + l0.length < 2513169434916 then (some ((y829 ++ l0), ([] : List (S29)), ([] : List (S119)))) else (none))) = some (r1, r2, r3) := by rw [if_pos rfl] at H; exact H
    clear H
    have H := H1
    clear H1
    obtain ⟨y829, hy829⟩ : ∃ y_ : List (S24), y_ = (([] : List (S24))) := ⟨_, rfl⟩
    replace H : (if y829.length + l0.length < 2513169434916 then (some ((y829 ++ l0), ([] : List (S29)), ([] : List (S119)))) else (none)) = some (r1, r2, r3) := by first | (rw [hy829]; with_reducible exact H) | (have H2_ := (Option.bind_some _ _).symm.trans H; rw [hy829]; with_reducible exact H2_) | (have H2_ := (Option.bind_some _ _).symm.trans H; with_reducible exact H2_) | with_reducible exact H | (rw [hy829]; exact H) | exact H
    have Ny829 := Aside0.mk hy829
    clear hy829
    by_cases c4 : y829.length + l0.length < 2513169434916
    · rw [if_pos c4] at H
      have LMc4 := Aside0.mk c4
      clear c4
      obtain ⟨y832, hy832⟩ : ∃ y_ : List (S24), y_ = (y829 ++ l0) := ⟨_, rfl⟩
      replace H : (some (y832, ([] : List (S29)), ([] : List (S119)))) = some (r1, r2, r3) := by first | (rw [hy832]; with_reducible exact H) | (have H2_ := (Option.bind_some _ _).symm.trans H; rw [hy832]; with_reducible exact H2_) | (have H2_ := (Option.bind_some _ _).symm.trans H; with_reducible exact H2_) | with_reducible exact H | (rw [hy832]; exact H) | exact H
      have Ny832 := Aside0.mk hy832
      clear hy832
      simp only [Option.some.injEq, Prod.mk.injEq] at H
      obtain ⟨rfl, rfl, rfl⟩ := H
      go_enter Try.func38, Try.ntmps38
      go_wp2_with (first | ((with_reducible refine gate_dst (N := 2) rfl ?_); refine box_event ?hg (N := 2) ?hd (cs := #[.slice none 0 0, .slice none 0 0, .slice none 0 0]) (t := 66) ?hr ?_; (case hd => rfl); (case hg => rfl); (case hr => first | (go_simp; done) | (go_simp; rfl)); intro gb827 hg w5 hbox hb; have n0_ := Aside0.mk (below_step (bl HB) hb); have n1_ := Aside0.mk (hbox); have n2_ := Aside0.mk ((by rw [hg]; exact (below_size (bl HB)) : w.heap.size ≤ gb827)); have n3_ := Aside0.mk ((by rw [hg]; exact (below_size (bl HB)) : w.heap.size ≤ gb827)); clear HB; have HB := n0_; have BK827 := n1_; have GW827 := n2_; have GE827 := n3_; clear n0_ n1_ n2_ n3_; clear hb hbox hg) | ((with_reducible refine gate_callee (f := 53) rfl ?_); refine goesL_ (some 4) rfl rfl Try.func53 (by kernel_rfl) rfl #[.slice A0 l0.length c0] rfl (by (try simp only [List.map_toArray, List.map_cons, List.map_nil]); first | done | rfl | (simp only [List.length_drop, List.length_take]; rfl)) ?_; (with_reducible refine (spec_l6Rules.calls k _ _ l0 true _ ?side1 ?side2 A2.out).mono ?_); (case side1 => repeat (first | exact (Kd.C_below HR0.out HB.out) | (with_reducible refine Kd.C_alloc ?_ _) | (with_reducible refine Kd.C_drewN ?_ _) | (with_reducible refine Kd.C_drew ?_))); (case side2 => exact HC0.out); rintro e w6 ⟨rfl, hb⟩; refine ⟨_, rfl, ?_⟩; have n0_ := bkB BK827 hb; have n1_ := Aside0.mk (below_step (bl HB) hb); clear BK827; clear HB; have BK827 := n0_; have HB := n1_; clear n0_ n1_; (try clear hb); (try clear hb2); (try clear hk); (try clear hi)) | ((with_reducible refine gate_dst (N := 7) rfl ?_); refine Kd.R_lit k24 _ 24 ?hg (N := 7) ?hd (xs := ([] : List (S24))) (inner := []) (ok := fun _ => True) (okp := fun _ => True) ?hr ?hp (fun _ hk => hk) trivial (Below.refl _ _) (Nat.le_refl _) (by simp) ?_; (case hd => rfl); (case hg => rfl); (case hr => first | (go_simp; done) | (go_simp; rfl)); (case hp => exact (Reps.none _ _)); intro v830 w7 ho8 hb hg_ hnew_; clear hg_ hnew_; (first | rw [← Ny829.out] at ho8 | (simp only [Int.reduceToNat] at ho8; rw [← Ny829.out] at ho8)); have n0_ := Aside0.mk (Kd.R_lower ho8 (below_size (bl HB))); have n1_ := bkB BK827 hb; have n2_ := Aside0.mk (below_step (bl HB) hb); clear BK827; clear HB; have HO831 := n0_; have BK827 := n1_; have HB := n2_; clear n0_ n1_ n2_; clear hb ho8) | ((with_reducible refine gate_builtin (b := .append) (xs := #[.tmp 7, .tmp 8]) rfl ?_); at_builtin; refine Kd.R_append_rows k24 (w0 := w) w.heap.size rfl (.tmp 7) (.tmp 8) 31 24 (.agg #[(.bool false), (.int .i64 0), (.int .i64 0), (.int .i64 0), (.int .i64 0), (.int .i64 0), (.int .i64 0)]) 56 rfl Try.underlying31 info24 rfl (by decide) (by omega) v830 y829 l0 _ _ _ (fun _ => True) (fun _ => False) rfl rfl ?aO ?aR (fun _ _ h => h) (fun _ h => h.elim) ?aF ?aB ?aS ?aL ?_; (case aR => repeat (first | exact (Kd.C_below HR0.out HB.out) | (with_reducible refine Kd.C_alloc ?_ _) | (with_reducible refine Kd.C_drewN ?_ _) | (with_reducible refine Kd.C_drew ?_))); (case aB => exact (bl HB)); (case aF => exact (fun _ _ => trivial)); (case aO => exact (rs HO831)); (case aS => exact (below_size (bl HB))); (case aL => have := LMc4.out; omega); intro v833 w9 ho hb hg hat; rw [← Ny832.out] at ho; have n0_ := Aside0.mk (blk_grown (g := gb827) (o := .cells #[.slice none 0 0, .slice none 0 0, .slice none 0 0] 66 (0, 0)) (bk BK827) hg (Kd.R_ne HO831.out BK827.out (by decide))); have n1_ := Aside0.mk (hb); have n2_ := Aside0.mk (ho); clear BK827; clear HB; clear HO831; have BK827 := n0_; have HB := n1_; have HO834 := n2_; clear n0_ n1_ n2_; clear ho hb hg hat; obtain ⟨Ao10, co10, eo10⟩ := Kd.R_slice HO834.out; subst eo10; have hcz11_0 : w9.cell? ⟨gb827, 0, none⟩ = some (.slice none 0 0) := (blk_cell BK827.out 0).trans rfl; have hcz11_1 : w9.cell? ⟨gb827, 1, none⟩ = some (.slice none 0 0) := (blk_cell BK827.out 1).trans rfl; have hcz11_2 : w9.cell? ⟨gb827, 2, none⟩ = some (.slice none 0 0) := (blk_cell BK827.out 2).trans rfl; have hfz11_0 := blk_frozen BK827.out 0; have hfz11_1 := blk_frozen BK827.out 1; have hfz11_2 := blk_frozen BK827.out 2))
      refine bodyPost_ret (results_cell_row rfl _ _ gb827 66 #[.slice Ao10 y832.length co10, .slice none 0 0, .slice none 0 0] (0, 0) _ rfl (by (with_reducible repeat refine bu ?_); refine blk_put (cs := #[.slice Ao10 y832.length co10, .slice none 0 0, .slice none 0 0]) ?_ 2 _ rfl; (with_reducible repeat refine bu ?_); refine blk_put (cs := #[.slice Ao10 y832.length co10, .slice none 0 0, .slice none 0 0]) ?_ 1 _ rfl; (with_reducible repeat refine bu ?_); refine blk_put (cs := #[.slice none 0 0, .slice none 0 0, .slice none 0 0]) ?_ 0 _ rfl; (with_reducible repeat refine bu ?_); exact BK827.out) Try.underlying66 rfl (by kernel_rfl)) rfl ?_
      exact ⟨_, _, _, by first | rfl | (simp [errW_none, errW_some] <;> rfl) | (simp [*, errW_none, errW_some] <;> rfl), by (with_reducible repeat apply ru); exact Kd.R_mono (Kd.R_far (p := ⟨gb827, 2, none⟩) (Kd.R_far (p := ⟨gb827, 1, none⟩) (Kd.R_far (p := ⟨gb827, 0, none⟩) (Kd.R_types HO834.out BK827.out (by decide)) (fun _ hk => hk.2) (.slice Ao10 y832.length co10)) (fun _ hk => hk.2) (.slice none 0 0)) (fun _ hk => hk.2) (.slice none 0 0)) (fun _ hk => trivial), by first | exact Kd.R_nil _ _ _ _ _ | exact Kd.N_nil _ _ _ _ _ | exact Kd.V_nil _ _ _ _ _ | exact Kd.Q_nil _ _ _ _ _ | exact Kd.S_nil _ _ _ _ _, by first | exact Kd.R_nil _ _ _ _ _ | exact Kd.N_nil _ _ _ _ _ | exact Kd.V_nil _ _ _ _ _ | exact Kd.Q_nil _ _ _ _ _ | exact Kd.S_nil _ _ _ _ _, by repeat (first | (with_reducible first | exact HB.out | apply below_alloc | apply pw_below_drewN | apply below_drew1 | refine below_set ?_ GE827.out) | exact HB.out)⟩
    · rw [if_neg c4] at H
      exact absurd H (by simp)
  · replace c3 := Bool.eq_false_iff.mpr c3
    subst c3
    have H1 : (some (([] : List (S24)), ([] : List (S29)), ([] : List (S119)))) = some (r1, r2, r3) := by rw [if_neg (show ¬ (false = true) by decide)] at H; exact H
    clear H
    have H := H1
    clear H1
    simp only [Option.some.injEq, Prod.mk.injEq] at H
    obtain ⟨rfl, rfl, rfl⟩ := H
    go_enter Try.func38, Try.ntmps38
    go_wp2_with (first | ((with_reducible refine gate_dst (N := 2) rfl ?_); refine box_event ?hg (N := 2) ?hd (cs := #[.slice none 0 0, .slice none 0 0, .slice none 0 0]) (t := 66) ?hr ?_; (case hd => rfl); (case hg => rfl); (case hr => first | (go_simp; done) | (go_simp; rfl)); intro gb827 hg w12 hbox hb; have n0_ := Aside0.mk (below_step (bl HB) hb); have n1_ := Aside0.mk (hbox); have n2_ := Aside0.mk ((by rw [hg]; exact (below_size (bl HB)) : w.heap.size ≤ gb827)); have n3_ := Aside0.mk ((by rw [hg]; exact (below_size (bl HB)) : w.heap.size ≤ gb827)); clear HB; have HB := n0_; have BK827 := n1_; have GW827 := n2_; have GE827 := n3_; clear n0_ n1_ n2_ n3_; clear hb hbox hg) | ((with_reducible refine gate_callee (f := 53) rfl ?_); refine goesL_ (some 4) rfl rfl Try.func53 (by kernel_rfl) rfl #[.slice A0 l0.length c0] rfl (by (try simp only [List.map_toArray, List.map_cons, List.map_nil]); first | done | rfl | (simp only [List.length_drop, List.length_take]; rfl)) ?_; (with_reducible refine (spec_l6Rules.calls k _ _ l0 false _ ?side1 ?side2 A2.out).mono ?_); (case side1 => repeat (first | exact (Kd.C_below HR0.out HB.out) | (with_reducible refine Kd.C_alloc ?_ _) | (with_reducible refine Kd.C_drewN ?_ _) | (with_reducible refine Kd.C_drew ?_))); (case side2 => exact HC0.out); rintro e w13 ⟨rfl, hb⟩; refine ⟨_, rfl, ?_⟩; have n0_ := bkB BK827 hb; have n1_ := Aside0.mk (below_step (bl HB) hb); clear BK827; clear HB; have BK827 := n0_; have HB := n1_; clear n0_ n1_; (try clear hb); (try clear hb2); (try clear hk); (try clear hi); have hcz14_0 : w13.cell? ⟨gb827, 0, none⟩ = some (.slice none 0 0) := (blk_cell BK827.out 0).trans rfl; have hcz14_1 : w13.cell? ⟨gb827, 1, none⟩ = some (.slice none 0 0) := (blk_cell BK827.out 1).trans rfl; have hcz14_2 : w13.cell? ⟨gb827, 2, none⟩ = some (.slice none 0 0) := (blk_cell BK827.out 2).trans rfl; have hfz14_0 := blk_frozen BK827.out 0; have hfz14_1 := blk_frozen BK827.out 1; have hfz14_2 := blk_frozen BK827.out 2))
    refine bodyPost_ret (results_cell_row rfl _ _ gb827 66 #[.slice none 0 0, .slice none 0 0, .slice none 0 0] (0, 0) _ rfl (by (with_reducible repeat refine bu ?_); refine blk_put (cs := #[.slice none 0 0, .slice none 0 0, .slice none 0 0]) ?_ 2 _ rfl; (with_reducible repeat refine bu ?_); refine blk_put (cs := #[.slice none 0 0, .slice none 0 0, .slice none 0 0]) ?_ 1 _ rfl; (with_reducible repeat refine bu ?_); refine blk_put (cs := #[.slice none 0 0, .slice none 0 0, .slice none 0 0]) ?_ 0 _ rfl; (with_reducible repeat refine bu ?_); exact BK827.out) Try.underlying66 rfl (by kernel_rfl)) rfl ?_
    exact ⟨_, _, _, by first | rfl | (simp [errW_none, errW_some] <;> rfl) | (simp [*, errW_none, errW_some] <;> rfl), by first | exact Kd.R_nil _ _ _ _ _ | exact Kd.N_nil _ _ _ _ _ | exact Kd.V_nil _ _ _ _ _ | exact Kd.Q_nil _ _ _ _ _ | exact Kd.S_nil _ _ _ _ _, by first | exact Kd.R_nil _ _ _ _ _ | exact Kd.N_nil _ _ _ _ _ | exact Kd.V_nil _ _ _ _ _ | exact Kd.Q_nil _ _ _ _ _ | exact Kd.S_nil _ _ _ _ _, by first | exact Kd.R_nil _ _ _ _ _ | exact Kd.N_nil _ _ _ _ _ | exact Kd.V_nil _ _ _ _ _ | exact Kd.Q_nil _ _ _ _ _ | exact Kd.S_nil _ _ _ _ _, by repeat (first | (with_reducible first | exact HB.out | apply below_alloc | apply pw_below_drewN | apply below_drew1 | refine below_set ?_ GE827.out) | exact HB.out)⟩

end Go.Proofs.Ytiocgkggegahhaa.P

-- written by hw.py for this claim
namespace Go.Proofs.Ytiocgkggegahhaa.P
open Go.RowKit Go.Proofs.YtiocgkggegahhaaUFnExactBoxNew.PrintWords Go.Proofs.YtiocgkggegahhaaUFnExactBoxNew.PrintLast Go.Proofs.YtiocgkggegahhaaUFnExactBoxNew.PrintMore
attribute [local go_sem] max2_int min2_int max_two min_two max_three min_three max_four min_four
set_option linter.unusedVariables false
set_option linter.unusedSimpArgs false

/-! ### impl_BoxNew: function 39 -/
def impl_BoxNew.f (l0 : List (S24)) : Option ((List (S24)) × (List (S29)) × (List (S119))) := (impl_rulesOk.f l0).bind fun t836 => (if t836 = true then ((impl_RulRule_77.f l0).bind fun t837 => ((impl_RulRule_76.f t837).bind fun bt840 => (some (bt840.1, ([] : List (S29)), ([] : List (S119)))))) else (some (([] : List (S24)), ([] : List (S29)), ([] : List (S119)))))
set_option maxHeartbeats 8000000 in
set_option maxRecDepth 100000 in
theorem impl_BoxNew.calls (A0 : Option Addr) (c0 : Nat) (l0 : List (S24)) (r1 : List (S24)) (r2 : List (S29)) (r3 : List (S119)) (w : World) (hr0 : Kd.C k24 w A0 l0.length l0) (hc0 : l0.length ≤ c0) (h : impl_BoxNew.f l0 = some (r1, r2, r3)) :
    Calls Try.prog 39 #[.slice A0 l0.length c0] w fun e w' => ∃ v0_ v1_ v2_ : Value, e = .returned (.agg #[v0_, v1_, v2_]) ∧ Kd.R k24 24 w' w.heap.size (fun _ => True) v0_ r1 ∧ Kd.R k29 29 w' w.heap.size (fun _ => True) v1_ r2 ∧ Kd.R k119 119 w' w.heap.size (fun _ => True) v2_ r3 ∧ Below w.heap.size w w' := by
  have hu66 := Try.underlying66
  have HR0 := Aside0.mk hr0
  have HC0 := Aside0.mk hc0
  clear hr0 hc0
  have HB := Aside0.mk (Below.refl w.heap.size w)
  have H : ((impl_rulesOk.f l0).bind fun t836 => (if t836 = true then ((impl_RulRule_77.f l0).bind fun t837 => ((impl_RulRule_76.f t837).bind fun bt840 => (some (bt840.1, ([] : List (S29)), ([] : List (S119)))))) else (some (([] : List (S24)), ([] : List (S29)), ([] : List (S119)))))) = some (r1, r2, r3) := h
  clear h
  replace H := Option.bind_eq_some_iff.mp H
  obtain ⟨t836, A20, H⟩ := H
  replace H : (if t836 = true then ((impl_RulRule_77.f l0).bind fun t837 => ((impl_RulRule_76.f t837).bind fun bt840 => (some (bt840.1, ([] : List (S29)), ([] : List (S119)))))) else (some (([] : List (S24)), ([] : List (S29)), ([] : List (S119))))) = some (r1, r2, r3) := H
  have A2 := Aside0.mk A20
  clear A20
  by_cases c3 : t836 = true
  · subst c3
    have H1 : ((impl_RulRule_77.f l0).bind fun t837 => ((impl_RulRule_76.f t837).bind fun bt840 => (some (bt840.1, ([] : List (S29)), ([] : List (S119)))))) = some (r1, r2, r3) := by rw [if_pos rfl] at H; exact H
    clear H
    have H := H1
    clear H1
    replace H := Option.bind_eq_some_iff.mp H
    obtain ⟨t837, A40, H⟩ := H
    replace H : ((impl_RulRule_76.f t837).bind fun bt840 => (some (bt840.1, ([] : List (S29)), ([] : List (S119))))) = some (r1, r2, r3) := H
    have A4 := Aside0.mk A40
    clear A40
    replace H := Option.bind_eq_some_iff.mp H
    obtain ⟨⟨t840, t843⟩, A50, H⟩ := H
    replace H : (some (t840, ([] : List (S29)), ([] : List (S119)))) = some (r1, r2, r3) := H
    have A5 := Aside0.mk A50
    clear A50
    simp only [Option.some.injEq, Prod.mk.injEq] at H
    obtain ⟨rfl, rfl, rfl⟩ := H
    go_enter Try.func39, Try.ntmps39
    go_wp2_with (first | ((with_reducible refine gate_dst (N := 2) rfl ?_); refine box_event ?hg (N := 2) ?hd (cs := #[.slice none 0 0, .slice none 0 0, .slice none 0 0]) (t := 66) ?hr ?_; (case hd => rfl); (case hg => rfl); (case hr => first | (go_simp; done) | (go_simp; rfl)); intro gb835 hg w6 hbox hb; have n0_ := Aside0.mk (below_step (bl HB) hb); have n1_ := Aside0.mk (hbox); have n2_ := Aside0.mk ((by rw [hg]; exact (below_size (bl HB)) : w.heap.size ≤ gb835)); have n3_ := Aside0.mk ((by rw [hg]; exact (below_size (bl HB)) : w.heap.size ≤ gb835)); clear HB; have HB := n0_; have BK835 := n1_; have GW835 := n2_; have GE835 := n3_; clear n0_ n1_ n2_ n3_; clear hb hbox hg) | ((with_reducible refine gate_callee (f := 51) rfl ?_); refine goesL_ (some 4) rfl rfl Try.func51 (by kernel_rfl) rfl #[.slice A0 l0.length c0] rfl (by (try simp only [List.map_toArray, List.map_cons, List.map_nil]); first | done | rfl | (simp only [List.length_drop, List.length_take]; rfl)) ?_; (with_reducible refine (impl_rulesOk.calls _ _ l0 true _ ?side1 ?side2 A2.out).mono ?_); (case side1 => repeat (first | exact (Kd.C_below HR0.out HB.out) | (with_reducible refine Kd.C_alloc ?_ _) | (with_reducible refine Kd.C_drewN ?_ _) | (with_reducible refine Kd.C_drew ?_))); (case side2 => exact HC0.out); rintro e w7 ⟨rfl, hb⟩; refine ⟨_, rfl, ?_⟩; have n0_ := bkB BK835 hb; have n1_ := Aside0.mk (below_step (bl HB) hb); clear BK835; clear HB; have BK835 := n0_; have HB := n1_; clear n0_ n1_; (try clear hb); (try clear hb2); (try clear hk); (try clear hi)) | ((with_reducible refine gate_callee (f := 77) rfl ?_); refine goesL_ (some 8) rfl rfl Try.func77 (by kernel_rfl) rfl #[.slice A0 l0.length c0] rfl (by (try simp only [List.map_toArray, List.map_cons, List.map_nil]); first | done | rfl | (simp only [List.length_drop, List.length_take]; rfl)) ?_; (with_reducible refine (impl_RulRule_77.calls _ _ l0 t837 _ ?side1 ?side2 A4.out).mono ?_); (case side1 => repeat (first | exact (Kd.C_below HR0.out HB.out) | (with_reducible refine Kd.C_alloc ?_ _) | (with_reducible refine Kd.C_drewN ?_ _) | (with_reducible refine Kd.C_drew ?_))); (case side2 => exact HC0.out); rintro e w8 ⟨v838, rfl, ho0, hb⟩; refine ⟨_, rfl, ?_⟩; have n0_ := Aside0.mk (Kd.R_lower ho0 (below_size (bl HB))); have n1_ := bkB BK835 hb; have n2_ := Aside0.mk (below_step (bl HB) hb); clear BK835; clear HB; have HO839 := n0_; have BK835 := n1_; have HB := n2_; clear n0_ n1_ n2_; (try clear hb); (try clear hb2); (try clear hk); (try clear hi); (try clear ho0); obtain ⟨Ao9, co9, eo9⟩ := Kd.R_slice HO839.out; subst eo9) | ((with_reducible refine gate_callee (f := 76) rfl ?_); refine goesL_ (some 9) rfl rfl Try.func76 (by kernel_rfl) rfl #[.slice Ao9 t837.length co9] rfl (by (try simp only [List.map_toArray, List.map_cons, List.map_nil]); first | done | rfl | (simp only [List.length_drop, List.length_take]; rfl)) ?_; (with_reducible refine (clip_rule Ao9 t837.length co9 (Kd.R_reads' HO839.out).2.1 _).mono ?_); rintro e w10 ⟨v841, rfl, hv_, hw_⟩; refine ⟨_, rfl, ?_⟩; have n0_ := bkW BK835 hw_; have n1_ := clipNil HO839 w10 A5.out; have n2_ := clipR (ok' := fun k_ => some k_ ≠ (.slice none 0 0 : Value).ownBlock) HO839 hv_ hw_ A5.out (fun k_ hk_ => by first | exact ⟨by simp [Value.ownBlock], hk_⟩ | (simp [Value.ownBlock]; done) | exact hk_); have n3_ := blW HB hw_; clear hv_ hw_; clear BK835; clear HO839; clear HB; have BK835 := n0_; have HO839 := n1_; have HO842 := n2_; have HB := n3_; clear n0_ n1_ n2_ n3_; (try clear hb); (try clear hkp); (try clear ho0); (try clear hy0); obtain ⟨Ao11, co11, eo11⟩ := Kd.R_slice HO842.out; subst eo11; have hcz12_0 : w10.cell? ⟨gb835, 0, none⟩ = some (.slice none 0 0) := (blk_cell BK835.out 0).trans rfl; have hcz12_1 : w10.cell? ⟨gb835, 1, none⟩ = some (.slice none 0 0) := (blk_cell BK835.out 1).trans rfl; have hcz12_2 : w10.cell? ⟨gb835, 2, none⟩ = some (.slice none 0 0) := (blk_cell BK835.out 2).trans rfl; have hfz12_0 := blk_frozen BK835.out 0; have hfz12_1 := blk_frozen BK835.out 1; have hfz12_2 := blk_frozen BK835.out 2))
    refine bodyPost_ret (results_cell_row rfl _ _ gb835 66 #[.slice Ao11 t840.length co11, .slice none 0 0, .slice none 0 0] (0, 0) _ rfl (by (with_reducible repeat refine bu ?_); refine blk_put (cs := #[.slice Ao11 t840.length co11, .slice none 0 0, .slice none 0 0]) ?_ 2 _ rfl; (with_reducible repeat refine bu ?_); refine blk_put (cs := #[.slice Ao11 t840.length co11, .slice none 0 0, .slice none 0 0]) ?_ 1 _ rfl; (with_reducible repeat refine bu ?_); refine blk_put (cs := #[.slice none 0 0, .slice none 0 0, .slice none 0 0]) ?_ 0 _ rfl; (with_reducible repeat refine bu ?_); exact BK835.out) Try.underlying66 rfl (by kernel_rfl)) rfl ?_
    exact ⟨_, _, _, by first | rfl | (simp [errW_none, errW_some] <;> rfl) | (simp [*, errW_none, errW_some] <;> rfl), by (with_reducible repeat apply ru); exact Kd.R_mono (Kd.R_far (p := ⟨gb835, 2, none⟩) (Kd.R_far (p := ⟨gb835, 1, none⟩) (Kd.R_far (p := ⟨gb835, 0, none⟩) (Kd.R_types HO842.out BK835.out (by decide)) (fun _ hk => hk.2) (.slice Ao11 t840.length co11)) (fun _ hk => hk.2) (.slice none 0 0)) (fun _ hk => hk.2) (.slice none 0 0)) (fun _ hk => trivial), by first | exact Kd.R_nil _ _ _ _ _ | exact Kd.N_nil _ _ _ _ _ | exact Kd.V_nil _ _ _ _ _ | exact Kd.Q_nil _ _ _ _ _ | exact Kd.S_nil _ _ _ _ _, by first | exact Kd.R_nil _ _ _ _ _ | exact Kd.N_nil _ _ _ _ _ | exact Kd.V_nil _ _ _ _ _ | exact Kd.Q_nil _ _ _ _ _ | exact Kd.S_nil _ _ _ _ _, by repeat (first | (with_reducible first | exact HB.out | apply below_alloc | apply pw_below_drewN | apply below_drew1 | refine below_set ?_ GE835.out) | exact HB.out)⟩
  · replace c3 := Bool.eq_false_iff.mpr c3
    subst c3
    have H1 : (some (([] : List (S24)), ([] : List (S29)), ([] : List (S119)))) = some (r1, r2, r3) := by rw [if_neg (show ¬ (false = true) by decide)] at H; exact H
    clear H
    have H := H1
    clear H1
    simp only [Option.some.injEq, Prod.mk.injEq] at H
    obtain ⟨rfl, rfl, rfl⟩ := H
    go_enter Try.func39, Try.ntmps39
    go_wp2_with (first | ((with_reducible refine gate_dst (N := 2) rfl ?_); refine box_event ?hg (N := 2) ?hd (cs := #[.slice none 0 0, .slice none 0 0, .slice none 0 0]) (t := 66) ?hr ?_; (case hd => rfl); (case hg => rfl); (case hr => first | (go_simp; done) | (go_simp; rfl)); intro gb835 hg w13 hbox hb; have n0_ := Aside0.mk (below_step (bl HB) hb); have n1_ := Aside0.mk (hbox); have n2_ := Aside0.mk ((by rw [hg]; exact (below_size (bl HB)) : w.heap.size ≤ gb835)); have n3_ := Aside0.mk ((by rw [hg]; exact (below_size (bl HB)) : w.heap.size ≤ gb835)); clear HB; have HB := n0_; have BK835 := n1_; have GW835 := n2_; have GE835 := n3_; clear n0_ n1_ n2_ n3_; clear hb hbox hg) | ((with_reducible refine gate_callee (f := 51) rfl ?_); refine goesL_ (some 4) rfl rfl Try.func51 (by kernel_rfl) rfl #[.slice A0 l0.length c0] rfl (by (try simp only [List.map_toArray, List.map_cons, List.map_nil]); first | done | rfl | (simp only [List.length_drop, List.length_take]; rfl)) ?_; (with_reducible refine (impl_rulesOk.calls _ _ l0 false _ ?side1 ?side2 A2.out).mono ?_); (case side1 => repeat (first | exact (Kd.C_below HR0.out HB.out) | (with_reducible refine Kd.C_alloc ?_ _) | (with_reducible refine Kd.C_drewN ?_ _) | (with_reducible refine Kd.C_drew ?_))); (case side2 => exact HC0.out); rintro e w14 ⟨rfl, hb⟩; refine ⟨_, rfl, ?_⟩; have n0_ := bkB BK835 hb; have n1_ := Aside0.mk (below_step (bl HB) hb); clear BK835; clear HB; have BK835 := n0_; have HB := n1_; clear n0_ n1_; (try clear hb); (try clear hb2); (try clear hk); (try clear hi); have hcz15_0 : w14.cell? ⟨gb835, 0, none⟩ = some (.slice none 0 0) := (blk_cell BK835.out 0).trans rfl; have hcz15_1 : w14.cell? ⟨gb835, 1, none⟩ = some (.slice none 0 0) := (blk_cell BK835.out 1).trans rfl; have hcz15_2 : w14.cell? ⟨gb835, 2, none⟩ = some (.slice none 0 0) := (blk_cell BK835.out 2).trans rfl; have hfz15_0 := blk_frozen BK835.out 0; have hfz15_1 := blk_frozen BK835.out 1; have hfz15_2 := blk_frozen BK835.out 2))
    refine bodyPost_ret (results_cell_row rfl _ _ gb835 66 #[.slice none 0 0, .slice none 0 0, .slice none 0 0] (0, 0) _ rfl (by (with_reducible repeat refine bu ?_); refine blk_put (cs := #[.slice none 0 0, .slice none 0 0, .slice none 0 0]) ?_ 2 _ rfl; (with_reducible repeat refine bu ?_); refine blk_put (cs := #[.slice none 0 0, .slice none 0 0, .slice none 0 0]) ?_ 1 _ rfl; (with_reducible repeat refine bu ?_); refine blk_put (cs := #[.slice none 0 0, .slice none 0 0, .slice none 0 0]) ?_ 0 _ rfl; (with_reducible repeat refine bu ?_); exact BK835.out) Try.underlying66 rfl (by kernel_rfl)) rfl ?_
    exact ⟨_, _, _, by first | rfl | (simp [errW_none, errW_some] <;> rfl) | (simp [*, errW_none, errW_some] <;> rfl), by first | exact Kd.R_nil _ _ _ _ _ | exact Kd.N_nil _ _ _ _ _ | exact Kd.V_nil _ _ _ _ _ | exact Kd.Q_nil _ _ _ _ _ | exact Kd.S_nil _ _ _ _ _, by first | exact Kd.R_nil _ _ _ _ _ | exact Kd.N_nil _ _ _ _ _ | exact Kd.V_nil _ _ _ _ _ | exact Kd.Q_nil _ _ _ _ _ | exact Kd.S_nil _ _ _ _ _, by first | exact Kd.R_nil _ _ _ _ _ | exact Kd.N_nil _ _ _ _ _ | exact Kd.V_nil _ _ _ _ _ | exact Kd.Q_nil _ _ _ _ _ | exact Kd.S_nil _ _ _ _ _, by repeat (first | (with_reducible first | exact HB.out | apply below_alloc | apply pw_below_drewN | apply below_drew1 | refine below_set ?_ GE835.out) | exact HB.out)⟩

end Go.Proofs.Ytiocgkggegahhaa.P

-- written by hw.py for this claim
namespace Go.Proofs.Ytiocgkggegahhaa.P
open Go.RowKit Go.Proofs.YtiocgkggegahhaaUFnExactBoxNew.PrintWords Go.Proofs.YtiocgkggegahhaaUFnExactBoxNew.PrintLast Go.Proofs.YtiocgkggegahhaaUFnExactBoxNew.PrintMore
attribute [local go_sem] max2_int min2_int max_two min_two max_three min_three max_four min_four
set_option linter.unusedVariables false
set_option linter.unusedSimpArgs false

/-! ### laws_eqEndPoint: function 96 -/
def laws_eqEndPoint.f (a0_0 : Int) (a0_1 : Int) (a1_0 : Int) (a1_1 : Int) : Option (Bool) := if a0_0 = a1_0 then (if a0_1 = a1_1 then (some true) else (some false)) else (some false)
set_option maxHeartbeats 8000000 in
set_option maxRecDepth 100000 in
theorem laws_eqEndPoint.calls (a0_0 : Int) (a0_1 : Int) (a1_0 : Int) (a1_1 : Int) (r : Bool) (w : World) (h : laws_eqEndPoint.f a0_0 a0_1 a1_0 a1_1 = some r) :
    Calls Try.prog 96 #[.agg #[.int .i64 a0_0, .int .i64 a0_1], .agg #[.int .i64 a1_0, .int .i64 a1_1]] w fun e w' => e = .returned (.bool r) ∧ Below w.heap.size w w' := by
  have hu29 := Try.underlying29
  have HB := Aside0.mk (Below.refl w.heap.size w)
  have H : (if a0_0 = a1_0 then (if a0_1 = a1_1 then (some true) else (some false)) else (some false)) = some r := h
  clear h
  by_cases c3 : a0_0 = a1_0
  · rw [if_pos c3] at H
    have c3b0 : (a0_0 == a1_0) = true := beq_iff_eq.mpr c3
    have c3b1 : (a0_0 != a1_0) = false := bne_eq_false_iff_eq.mpr c3
    clear c3
    by_cases c4 : a0_1 = a1_1
    · rw [if_pos c4] at H
      have c4b0 : (a0_1 == a1_1) = true := beq_iff_eq.mpr c4
      have c4b1 : (a0_1 != a1_1) = false := bne_eq_false_iff_eq.mpr c4
      clear c4
      obtain rfl := Option.some.inj H
      go_enter Try.func96, Try.ntmps96
      go_wp2_with (first | ((with_reducible refine gate_dst (N := 2) rfl ?_); refine box_event ?hg (N := 2) ?hd (cs := #[.int .i64 a0_0, .int .i64 a0_1]) (t := 29) ?hr ?_; (case hd => rfl); (case hg => rfl); (case hr => first | (go_simp; done) | (go_simp; rfl)); intro gb720 hg w5 hbox hb; have n0_ := Aside0.mk (below_step (bl HB) hb); have n1_ := Aside0.mk (hbox); have n2_ := Aside0.mk ((by rw [hg]; exact (below_size (bl HB)) : w.heap.size ≤ gb720)); have n3_ := Aside0.mk ((by rw [hg]; exact (below_size (bl HB)) : w.heap.size ≤ gb720)); clear HB; have HB := n0_; have BK720 := n1_; have GW720 := n2_; have GE720 := n3_; clear n0_ n1_ n2_ n3_; clear hb hbox hg) | ((with_reducible refine gate_dst (N := 3) rfl ?_); refine box_event ?hg (N := 3) ?hd (cs := #[.int .i64 a1_0, .int .i64 a1_1]) (t := 29) ?hr ?_; (case hd => rfl); (case hg => rfl); (case hr => first | (go_simp; done) | (go_simp; rfl)); intro gb721 hg w6 hbox hb; have n0_ := bkB BK720 hb; have n1_ := Aside0.mk (below_step (bl HB) hb); have n2_ := Aside0.mk (hbox); have n3_ := Aside0.mk ((by rw [hg]; exact (below_size (bl HB)) : w.heap.size ≤ gb721)); have n4_ := Aside0.mk ((by rw [hg]; exact (below_size (bl HB)) : w.heap.size ≤ gb721)); have n5_ := Aside0.mk ((by rw [hg]; exact Nat.ne_of_lt (bkL BK720) : gb720 ≠ gb721)); have n6_ := Aside0.mk ((by rw [hg]; exact Nat.ne_of_gt (bkL BK720) : gb721 ≠ gb720)); clear BK720; clear HB; have BK720 := n0_; have HB := n1_; have BK721 := n2_; have GW721 := n3_; have GE721 := n4_; have NB720_721 := n5_; have NB721_720 := n6_; clear n0_ n1_ n2_ n3_ n4_ n5_ n6_; clear hb hbox hg; have hnb7 := NB720_721.out; have hnc7 := NB721_720.out; have hcz8_0 : w6.cell? ⟨gb720, 0, none⟩ = some (.int .i64 a0_0) := (blk_cell BK720.out 0).trans rfl; have hcz8_1 : w6.cell? ⟨gb720, 1, none⟩ = some (.int .i64 a0_1) := (blk_cell BK720.out 1).trans rfl; have hfz8_0 := blk_frozen BK720.out 0; have hfz8_1 := blk_frozen BK720.out 1; have hcz9_0 : w6.cell? ⟨gb721, 0, none⟩ = some (.int .i64 a1_0) := (blk_cell BK721.out 0).trans rfl; have hcz9_1 : w6.cell? ⟨gb721, 1, none⟩ = some (.int .i64 a1_1) := (blk_cell BK721.out 1).trans rfl; have hfz9_0 := blk_frozen BK721.out 0; have hfz9_1 := blk_frozen BK721.out 1))
      go_ret
      exact ⟨by first | rfl | (simp [errW_none, errW_some] <;> rfl) | (simp [*, errW_none, errW_some] <;> rfl), by repeat (first | (with_reducible first | exact HB.out | apply below_alloc | apply pw_below_drewN | apply below_drew1 | refine below_set ?_ GE720.out | refine below_set ?_ GE721.out) | exact HB.out)⟩
    · rw [if_neg c4] at H
      have c4b0 : (a0_1 == a1_1) = false := beq_eq_false_iff_ne.mpr c4
      have c4b1 : (a0_1 != a1_1) = true := bne_iff_ne.mpr c4
      obtain rfl := Option.some.inj H
      go_enter Try.func96, Try.ntmps96
      go_wp2_with (first | ((with_reducible refine gate_dst (N := 2) rfl ?_); refine box_event ?hg (N := 2) ?hd (cs := #[.int .i64 a0_0, .int .i64 a0_1]) (t := 29) ?hr ?_; (case hd => rfl); (case hg => rfl); (case hr => first | (go_simp; done) | (go_simp; rfl)); intro gb720 hg w10 hbox hb; have n0_ := Aside0.mk (below_step (bl HB) hb); have n1_ := Aside0.mk (hbox); have n2_ := Aside0.mk ((by rw [hg]; exact (below_size (bl HB)) : w.heap.size ≤ gb720)); have n3_ := Aside0.mk ((by rw [hg]; exact (below_size (bl HB)) : w.heap.size ≤ gb720)); clear HB; have HB := n0_; have BK720 := n1_; have GW720 := n2_; have GE720 := n3_; clear n0_ n1_ n2_ n3_; clear hb hbox hg) | ((with_reducible refine gate_dst (N := 3) rfl ?_); refine box_event ?hg (N := 3) ?hd (cs := #[.int .i64 a1_0, .int .i64 a1_1]) (t := 29) ?hr ?_; (case hd => rfl); (case hg => rfl); (case hr => first | (go_simp; done) | (go_simp; rfl)); intro gb721 hg w11 hbox hb; have n0_ := bkB BK720 hb; have n1_ := Aside0.mk (below_step (bl HB) hb); have n2_ := Aside0.mk (hbox); have n3_ := Aside0.mk ((by rw [hg]; exact (below_size (bl HB)) : w.heap.size ≤ gb721)); have n4_ := Aside0.mk ((by rw [hg]; exact (below_size (bl HB)) : w.heap.size ≤ gb721)); have n5_ := Aside0.mk ((by rw [hg]; exact Nat.ne_of_lt (bkL BK720) : gb720 ≠ gb721)); have n6_ := Aside0.mk ((by rw [hg]; exact Nat.ne_of_gt (bkL BK720) : gb721 ≠ gb720)); clear BK720; clear HB; have BK720 := n0_; have HB := n1_; have BK721 := n2_; have GW721 := n3_; have GE721 := n4_; have NB720_721 := n5_; have NB721_720 := n6_; clear n0_ n1_ n2_ n3_ n4_ n5_ n6_; clear hb hbox hg; have hnb12 := NB720_721.out; have hnc12 := NB721_720.out; have hcz13_0 : w11.cell? ⟨gb720, 0, none⟩ = some (.int .i64 a0_0) := (blk_cell BK720.out 0).trans rfl; have hcz13_1 : w11.cell? ⟨gb720, 1, none⟩ = some (.int .i64 a0_1) := (blk_cell BK720.out 1).trans rfl; have hfz13_0 := blk_frozen BK720.out 0; have hfz13_1 := blk_frozen BK720.out 1; have hcz14_0 : w11.cell? ⟨gb721, 0, none⟩ = some (.int .i64 a1_0) := (blk_cell BK721.out 0).trans rfl; have hcz14_1 : w11.cell? ⟨gb721, 1, none⟩ = some (.int .i64 a1_1) := (blk_cell BK721.out 1).trans rfl; have hfz14_0 := blk_frozen BK721.out 0; have hfz14_1 := blk_frozen BK721.out 1))
      go_ret
      exact ⟨by first | rfl | (simp [errW_none, errW_some] <;> rfl) | (simp [*, errW_none, errW_some] <;> rfl), by repeat (first | (with_reducible first | exact HB.out | apply below_alloc | apply pw_below_drewN | apply below_drew1 | refine below_set ?_ GE720.out | refine below_set ?_ GE721.out) | exact HB.out)⟩
  · rw [if_neg c3] at H
    have c3b0 : (a0_0 == a1_0) = false := beq_eq_false_iff_ne.mpr c3
    have c3b1 : (a0_0 != a1_0) = true := bne_iff_ne.mpr c3
    obtain rfl := Option.some.inj H
    go_enter Try.func96, Try.ntmps96
    go_wp2_with (first | ((with_reducible refine gate_dst (N := 2) rfl ?_); refine box_event ?hg (N := 2) ?hd (cs := #[.int .i64 a0_0, .int .i64 a0_1]) (t := 29) ?hr ?_; (case hd => rfl); (case hg => rfl); (case hr => first | (go_simp; done) | (go_simp; rfl)); intro gb720 hg w15 hbox hb; have n0_ := Aside0.mk (below_step (bl HB) hb); have n1_ := Aside0.mk (hbox); have n2_ := Aside0.mk ((by rw [hg]; exact (below_size (bl HB)) : w.heap.size ≤ gb720)); have n3_ := Aside0.mk ((by rw [hg]; exact (below_size (bl HB)) : w.heap.size ≤ gb720)); clear HB; have HB := n0_; have BK720 := n1_; have GW720 := n2_; have GE720 := n3_; clear n0_ n1_ n2_ n3_; clear hb hbox hg) | ((with_reducible refine gate_dst (N := 3) rfl ?_); refine box_event ?hg (N := 3) ?hd (cs := #[.int .i64 a1_0, .int .i64 a1_1]) (t := 29) ?hr ?_; (case hd => rfl); (case hg => rfl); (case hr => first | (go_simp; done) | (go_simp; rfl)); intro gb721 hg w16 hbox hb; have n0_ := bkB BK720 hb; have n1_ := Aside0.mk (below_step (bl HB) hb); have n2_ := Aside0.mk (hbox); have n3_ := Aside0.mk ((by rw [hg]; exact (below_size (bl HB)) : w.heap.size ≤ gb721)); have n4_ := Aside0.mk ((by rw [hg]; exact (below_size (bl HB)) : w.heap.size ≤ gb721)); have n5_ := Aside0.mk ((by rw [hg]; exact Nat.ne_of_lt (bkL BK720) : gb720 ≠ gb721)); have n6_ := Aside0.mk ((by rw [hg]; exact Nat.ne_of_gt (bkL BK720) : gb721 ≠ gb720)); clear BK720; clear HB; have BK720 := n0_; have HB := n1_; have BK721 := n2_; have GW721 := n3_; have GE721 := n4_; have NB720_721 := n5_; have NB721_720 := n6_; clear n0_ n1_ n2_ n3_ n4_ n5_ n6_; clear hb hbox hg; have hnb17 := NB720_721.out; have hnc17 := NB721_720.out; have hcz18_0 : w16.cell? ⟨gb720, 0, none⟩ = some (.int .i64 a0_0) := (blk_cell BK720.out 0).trans rfl; have hcz18_1 : w16.cell? ⟨gb720, 1, none⟩ = some (.int .i64 a0_1) := (blk_cell BK720.out 1).trans rfl; have hfz18_0 := blk_frozen BK720.out 0; have hfz18_1 := blk_frozen BK720.out 1; have hcz19_0 : w16.cell? ⟨gb721, 0, none⟩ = some (.int .i64 a1_0) := (blk_cell BK721.out 0).trans rfl; have hcz19_1 : w16.cell? ⟨gb721, 1, none⟩ = some (.int .i64 a1_1) := (blk_cell BK721.out 1).trans rfl; have hfz19_0 := blk_frozen BK721.out 0; have hfz19_1 := blk_frozen BK721.out 1))
    go_ret
    exact ⟨by first | rfl | (simp [errW_none, errW_some] <;> rfl) | (simp [*, errW_none, errW_some] <;> rfl), by repeat (first | (with_reducible first | exact HB.out | apply below_alloc | apply pw_below_drewN | apply below_drew1 | refine below_set ?_ GE720.out | refine below_set ?_ GE721.out) | exact HB.out)⟩

end Go.Proofs.Ytiocgkggegahhaa.P

-- written by hw.py for this claim
namespace Go.Proofs.Ytiocgkggegahhaa.P
open Go.RowKit Go.Proofs.YtiocgkggegahhaaUFnExactBoxNew.PrintWords Go.Proofs.YtiocgkggegahhaaUFnExactBoxNew.PrintLast Go.Proofs.YtiocgkggegahhaaUFnExactBoxNew.PrintMore
attribute [local go_sem] max2_int min2_int max_two min_two max_three min_three max_four min_four
set_option linter.unusedVariables false
set_option linter.unusedSimpArgs false

/-! ### laws_eqEndPointS: function 72 -/
def laws_eqEndPointS.l0 : Nat → List (S29) → List (S29) → Int → Option (Bool)
  | 0, _, _, _ => none
  | k + 1, x0, x1, x5 => if x5 < (x0.length : Int) then (if 0 ≤ x5 then (if x5 < (x1.length : Int) then ((laws_eqEndPoint.f ((rd_T29 x0 x5).f0) ((rd_T29 x0 x5).f1) ((rd_T29 x1 x5).f0) ((rd_T29 x1 x5).f1)).bind fun t724 => (if t724 = true then (laws_eqEndPointS.l0 k x0 x1 (wrap64 (x5 + 1))) else (some false))) else (none)) else (none)) else (some true)
def laws_eqEndPointS.f (k : Nat) (l0 : List (S29)) (l1 : List (S29)) : Option (Bool) := if (l0.length : Int) = (l1.length : Int) then (laws_eqEndPointS.l0 k l0 l1 0) else (some false)
theorem laws_eqEndPointS.mono_l : ∀ k, (∀ y0 y1 y2, LeO (laws_eqEndPointS.l0 k y0 y1 y2) (laws_eqEndPointS.l0 (k + 1) y0 y1 y2))
  | 0 => fun _ _ _ r h => by simp [laws_eqEndPointS.l0] at h
  | k + 1 => by
    have ih0 := laws_eqEndPointS.mono_l k
    · intro y0 y1 y2
      unfold laws_eqEndPointS.l0
      repeat' first
      | (with_reducible exact ih0 _ _ _)
      | (with_reducible exact LeO.refl _)
      | (with_reducible exact LeO.none _)
      | (with_reducible refine LeO.ite ?_ ?_)
      | (with_reducible refine LeO.bind ?_ (fun _ => ?_))
      | exact ih0 _ _ _
      | exact LeO.none _
      | refine LeO.ite ?_ ?_
      | refine LeO.bind ?_ (fun _ => ?_)
theorem laws_eqEndPointS.mono : ∀ a0 a1 k, LeO (laws_eqEndPointS.f k a0 a1) (laws_eqEndPointS.f (k + 1) a0 a1) := by
  intro a0 a1 k
  have ih0 := laws_eqEndPointS.mono_l k
  unfold laws_eqEndPointS.f
  repeat' first
      | (with_reducible exact ih0 _ _ _)
      | (with_reducible exact LeO.refl _)
      | (with_reducible exact LeO.none _)
      | (with_reducible refine LeO.ite ?_ ?_)
      | (with_reducible refine LeO.bind ?_ (fun _ => ?_))
      | exact ih0 _ _ _
      | exact LeO.none _
      | refine LeO.ite ?_ ?_
      | refine LeO.bind ?_ (fun _ => ?_)
def laws_eqEndPointS.T6 : Bool × List (List Nat × List Nat) := (true, [([], []), ([], []), ([0, 1], [0, 1]), ([2], [2]), ([], []), ([], []), ([4, 5], [4, 5]), ([6], [6]), ([3, 7], [3, 7]), ([8], [8])])
def laws_eqEndPointS.B6 : List Nat := [0, 0, 3, 7, 0, 0, 48, 112, 255, 511]
theorem laws_eqEndPointS.tab6 : rtab .any (opsOf Try.f72 6) = laws_eqEndPointS.T6 := by kernel_rfl
theorem laws_eqEndPointS.bits6 : waitsOk laws_eqEndPointS.T6.2 laws_eqEndPointS.B6 = true := by kernel_rfl
set_option maxHeartbeats 8000000 in
set_option maxRecDepth 100000 in
theorem laws_eqEndPointS.calls (k : Nat) (A0 : Option Addr) (c0 : Nat) (l0 : List (S29)) (A1 : Option Addr) (c1 : Nat) (l1 : List (S29)) (r : Bool) (w : World) (hr0 : Kd.C k29 w A0 l0.length l0) (hc0 : l0.length ≤ c0) (hr1 : Kd.C k29 w A1 l1.length l1) (hc1 : l1.length ≤ c1) (h : laws_eqEndPointS.f k l0 l1 = some r) :
    Calls Try.prog 72 #[.slice A0 l0.length c0, .slice A1 l1.length c1] w fun e w' => e = .returned (.bool r) ∧ Below w.heap.size w w' := by
  have hu29 := Try.underlying29
  have HR0 := Aside0.mk hr0
  have HC0 := Aside0.mk hc0
  clear hr0 hc0
  have HR1 := Aside0.mk hr1
  have HC1 := Aside0.mk hc1
  clear hr1 hc1
  have HB := Aside0.mk (Below.refl w.heap.size w)
  have H : (if (l0.length : Int) = (l1.length : Int) then (laws_eqEndPointS.l0 k l0 l1 0) else (some false)) = some r := h
  clear h
  by_cases c3 : (l0.length : Int) = (l1.length : Int)
  · rw [if_pos c3] at H
    have c3b0 : ((l0.length : Int) == (l1.length : Int)) = true := beq_iff_eq.mpr c3
    have c3b1 : ((l0.length : Int) != (l1.length : Int)) = false := bne_eq_false_iff_eq.mpr c3
    have c3b2 : (l0.length == l1.length) = true := by first | simpa using c3 | (simp at c3 ⊢; omega)
    clear c3
    have H' := Aside0.mk H
    clear H
    go_enter Try.func72, Try.ntmps72
    go_wp2
    go_loopg [5] k (fun kq v5 w' => ∃ (x5_1 : Int), v5 = .int .i64 x5_1 ∧ Aside0 (laws_eqEndPointS.l0 kq l0 l1 x5_1 = some r) ∧ Aside0 (kq ≤ k) ∧ Aside0 (Below w.heap.size w w'))
    case atStart => exact ⟨(0), (by first | rfl | (simp; done) | (simp [*]; done)), H', ⟨Nat.le_refl _⟩, ⟨by repeat (first | (with_reducible first | exact HB.out | apply below_alloc | apply pw_below_drewN | apply below_drew1) | exact HB.out)⟩⟩
    case round =>
      clear H'
      try clear c1
      try clear p2
      try clear c3
      try clear c3b0
      try clear c3b1
      try clear c3b2
      obtain ⟨x5_1, rfl, HA, HK1, HB⟩ := hrel
      cases gk with
      | zero => exact absurd HA.out (by simp [laws_eqEndPointS.l0])
      | succ k1 =>
        have H := HA.out
        clear HA
        simp only [laws_eqEndPointS.l0] at H
        by_cases c4 : x5_1 < (l0.length : Int)
        · rw [if_pos c4] at H
          have c4b0 : decide (x5_1 < (l0.length : Int)) = true := decide_eq_true c4
          clear c4
          by_cases c5 : 0 ≤ x5_1
          · rw [if_pos c5] at H
            have c5b0 : decide (0 ≤ x5_1) = true := decide_eq_true c5
            clear c5
            by_cases c6 : x5_1 < (l1.length : Int)
            · rw [if_pos c6] at H
              have c6b0 : decide (x5_1 < (l1.length : Int)) = true := decide_eq_true c6
              clear c6
              replace H := Option.bind_eq_some_iff.mp H
              obtain ⟨t724, A70, H⟩ := H
              replace H : (if t724 = true then (laws_eqEndPointS.l0 k1 l0 l1 (wrap64 (x5_1 + 1))) else (some false)) = some r := H
              have A7 := Aside0.mk A70
              clear A70
              by_cases c8 : t724 = true
              · subst c8
                have H1 : (laws_eqEndPointS.l0 k1 l0 l1 (wrap64 (x5_1 + 1))) = some r := by rw [if_pos rfl] at H; exact H
                clear H
                have H := H1
                clear H1
                have H' := Aside0.mk H
                clear H
                try go_wp2
                have n0_ := Aside0.mk (below_drew1 HB.out)
                clear HB
                have HB := n0_
                clear n0_
                have p722 : 0 ≤ (x5_1 : Int) := of_decide_eq_true (by first | (with_reducible assumption) | assumption)
                have q722 : x5_1 < (l0.length : Int) := of_decide_eq_true (by first | (with_reducible assumption) | assumption)
                obtain ⟨ad722, e722, hx722_0, hx722_1⟩ := at_T29 HR0.out x5_1 p722 q722
                have hw722_1 := hx722_1
                have hw722_0 := hx722_0
                cases e722
                replace hx722_0 := (HB.out.cell (World.block_lt_of_cell? w _ hx722_0)).trans hx722_0
                replace hx722_1 := (HB.out.cell (World.block_lt_of_cell? w _ hx722_1)).trans hx722_1
                replace p722 := eq_true p722
                replace q722 := eq_true q722
                have p723 : 0 ≤ (x5_1 : Int) := of_decide_eq_true (by first | (with_reducible assumption) | assumption)
                have q723 : x5_1 < (l1.length : Int) := of_decide_eq_true (by first | (with_reducible assumption) | assumption)
                obtain ⟨ad723, e723, hx723_0, hx723_1⟩ := at_T29 HR1.out x5_1 p723 q723
                have hw723_1 := hx723_1
                have hw723_0 := hx723_0
                cases e723
                replace hx723_0 := (HB.out.cell (World.block_lt_of_cell? w _ hx723_0)).trans hx723_0
                replace hx723_1 := (HB.out.cell (World.block_lt_of_cell? w _ hx723_1)).trans hx723_1
                replace p723 := eq_true p723
                replace q723 := eq_true q723
                refine start_ (n := 10) (S := fun w' => w'.cell? (ad722.add ((x5_1).toNat * 2)) = some (.int .i64 ((rd_T29 l0 x5_1).f0)) ∧ w'.cell? ⟨(ad722.add ((x5_1).toNat * 2)).block, (ad722.add ((x5_1).toNat * 2)).off + 1, none⟩ = some (.int .i64 ((rd_T29 l0 x5_1).f1)) ∧ w'.cell? (ad723.add ((x5_1).toNat * 2)) = some (.int .i64 ((rd_T29 l1 x5_1).f0)) ∧ w'.cell? ⟨(ad723.add ((x5_1).toNat * 2)).block, (ad723.add ((x5_1).toNat * 2)).off + 1, none⟩ = some (.int .i64 ((rd_T29 l1 x5_1).f1))) (ds := []) #[false, false, false, false, false, false, false, false, false, false] (by kernel_rfl) rfl rfl ⟨((HB.out.cell (World.block_lt_of_cell? w _ hw722_0)).trans hw722_0), ((HB.out.cell (World.block_lt_of_cell? w _ hw722_1)).trans hw722_1), ((HB.out.cell (World.block_lt_of_cell? w _ hw723_0)).trans hw723_0), ((HB.out.cell (World.block_lt_of_cell? w _ hw723_1)).trans hw723_1)⟩ (fun hHeld => ?_); refine with_tabW laws_eqEndPointS.tab6 laws_eqEndPointS.bits6 (fun HT_ HW_ => ?_)
                generalize wr.drew = w9 at HB hx722_0 hx722_1 hx723_0 hx723_1 hHeld ⊢
                refine pure_ (i := 0) (N := some 17) (v := ?_) (a' := ?_) #[true, false, false, false, false, false, false, false, false, false] rfl rfl (any_of HT_.out (by kernel_rfl)) (fun _ _ _ h => h) (Or.inl ⟨by rfl, ?_⟩) ?_ ?_
                rotate_left
                · intro w'
                  go_simp
                  with_reducible rfl
                rotate_left
                · simp only [Act.put, List.setIfInBounds_toArray, List.set_cons_zero, List.set_cons_succ, i64_w, i32_w]
                  rfl
                refine pure_ (i := 1) (N := some 18) (v := ?_) (a' := ?_) #[true, true, false, false, false, false, false, false, false, false] rfl rfl (any_of HT_.out (by kernel_rfl)) (fun _ _ _ h => h) (Or.inl ⟨by rfl, ?_⟩) ?_ ?_
                rotate_left
                · intro w'
                  go_simp
                  with_reducible rfl
                rotate_left
                · simp only [Act.put, List.setIfInBounds_toArray, List.set_cons_zero, List.set_cons_succ, i64_w, i32_w]
                  rfl
                refine pure_ (i := 2) (N := some 19) (v := ?_) (a' := ?_) #[true, true, true, false, false, false, false, false, false, false] rfl rfl (any_of HT_.out (by kernel_rfl)) (fun _ _ _ h => h) (Or.inl ⟨by rfl, ?_⟩) ?_ ?_
                rotate_left
                · intro w'
                  go_simp
                  with_reducible rfl
                rotate_left
                · simp only [Act.put, List.setIfInBounds_toArray, List.set_cons_zero, List.set_cons_succ, i64_w, i32_w]
                  rfl
                refine pure_ (i := 4) (N := some 21) (v := ?_) (a' := ?_) #[true, true, true, false, true, false, false, false, false, false] rfl rfl (any_of HT_.out (by kernel_rfl)) (fun _ _ _ h => h) (Or.inl ⟨by rfl, ?_⟩) ?_ ?_
                rotate_left
                · intro w'
                  go_simp
                  with_reducible rfl
                rotate_left
                · simp only [Act.put, List.setIfInBounds_toArray, List.set_cons_zero, List.set_cons_succ, i64_w, i32_w]
                  rfl
                refine pure_ (i := 5) (N := some 22) (v := ?_) (a' := ?_) #[true, true, true, false, true, true, false, false, false, false] rfl rfl (any_of HT_.out (by kernel_rfl)) (fun _ _ _ h => h) (Or.inl ⟨by rfl, ?_⟩) ?_ ?_
                rotate_left
                · intro w'
                  go_simp
                  with_reducible rfl
                rotate_left
                · simp only [Act.put, List.setIfInBounds_toArray, List.set_cons_zero, List.set_cons_succ, i64_w, i32_w]
                  rfl
                refine pure_ (i := 6) (N := some 23) (v := ?_) (a' := ?_) #[true, true, true, false, true, true, true, false, false, false] rfl rfl (any_of HT_.out (by kernel_rfl)) (fun _ _ _ h => h) (Or.inl ⟨by rfl, ?_⟩) ?_ ?_
                rotate_left
                · intro w'
                  go_simp
                  with_reducible rfl
                rotate_left
                · simp only [Act.put, List.setIfInBounds_toArray, List.set_cons_zero, List.set_cons_succ, i64_w, i32_w]
                  rfl
                refine take_ (i := 3) (N := some 20) (v := ?_) (a' := ?_) #[true, true, true, true, true, true, true, false, false, false] rfl rfl (take_ofW HT_.out HW_.out (by kernel_rfl)) (fun _ _ _ h => h) (Or.inl ⟨by rfl, ?_⟩) hHeld ?_ ?_
                rotate_left
                · rintro w' ⟨s0, s1, s2, s3⟩
                  go_simp
                  with_reducible rfl
                rotate_left
                · simp only [Act.put, List.setIfInBounds_toArray, List.set_cons_zero, List.set_cons_succ, i64_w, i32_w]
                  rfl
                refine take_ (i := 7) (N := some 24) (v := ?_) (a' := ?_) #[true, true, true, true, true, true, true, true, false, false] rfl rfl (take_ofW HT_.out HW_.out (by kernel_rfl)) (fun _ _ _ h => h) (Or.inl ⟨by rfl, ?_⟩) hHeld ?_ ?_
                rotate_left
                · rintro w' ⟨s0, s1, s2, s3⟩
                  go_simp
                  with_reducible rfl
                rotate_left
                · simp only [Act.put, List.setIfInBounds_toArray, List.set_cons_zero, List.set_cons_succ, i64_w, i32_w]
                  rfl
                refine one_ (i := 8) (N := some 25) #[true, true, true, true, true, true, true, true, true, false] rfl rfl (one_of HT_.out (by kernel_rfl)) (by decide) (fun K hK => ?_)
                refine goes_ Try.func96 (by kernel_rfl) rfl #[.agg #[.int .i64 ((rd_T29 l0 x5_1).f0), .int .i64 ((rd_T29 l0 x5_1).f1)], .agg #[.int .i64 ((rd_T29 l1 x5_1).f0), .int .i64 ((rd_T29 l1 x5_1).f1)]] (by rfl) rfl rfl (by (try simp only [List.map_toArray, List.map_cons, List.map_nil]); first | done | rfl | (simp only [List.length_drop, List.length_take]; rfl)) ?_
                with_reducible refine (laws_eqEndPoint.calls ((rd_T29 l0 x5_1).f0) ((rd_T29 l0 x5_1).f1) ((rd_T29 l1 x5_1).f0) ((rd_T29 l1 x5_1).f1) true _ A7.out).mono ?_
                rintro e w10 ⟨rfl, hb⟩
                refine ⟨_, rfl, ?_⟩
                have n0_ := Aside0.mk (below_step (bl HB) hb)
                clear HB
                have HB := n0_
                clear n0_
                (try clear hb)
                (try clear hb2)
                (try clear hk)
                (try clear hi)
                refine hK.out _ _ ⟨((HB.out.cell (World.block_lt_of_cell? w _ hw722_0)).trans hw722_0), ((HB.out.cell (World.block_lt_of_cell? w _ hw722_1)).trans hw722_1), ((HB.out.cell (World.block_lt_of_cell? w _ hw723_0)).trans hw723_0), ((HB.out.cell (World.block_lt_of_cell? w _ hw723_1)).trans hw723_1)⟩ (fun hHeld => ?_)
                clear hK K
                refine norm_ (a' := ?_) ?_ ?_
                rotate_left
                · show Act.put _ (some 25) _ = _
                  simp only [Act.put, List.setIfInBounds_toArray, List.set_cons_zero, List.set_cons_succ, i64_w, i32_w]
                  rfl
                refine pure_ (i := 9) (N := some 26) (v := ?_) (a' := ?_) #[true, true, true, true, true, true, true, true, true, true] rfl rfl (any_of HT_.out (by kernel_rfl)) (fun _ _ _ h => h) (Or.inl ⟨by rfl, ?_⟩) ?_ ?_
                rotate_left
                · intro w'
                  go_simp
                  with_reducible rfl
                rotate_left
                · simp only [Act.put, List.setIfInBounds_toArray, List.set_cons_zero, List.set_cons_succ, i64_w, i32_w]
                  rfl
                refine done_ (done_of HT_.out (by kernel_rfl)) ?_
                try go_wp2
                go_roundg k1
                case measure => have := HK1.out; omega
                case rel => exact ⟨(wrap64 (x5_1 + 1)), (by first | rfl | (simp; done) | (simp [*]; done)), H', ⟨by have := HK1.out; omega⟩, ⟨by repeat (first | (with_reducible first | exact HB.out | apply below_alloc | apply pw_below_drewN | apply below_drew1) | exact HB.out)⟩⟩
              · replace c8 := Bool.eq_false_iff.mpr c8
                subst c8
                have H1 : (some false) = some r := by rw [if_neg (show ¬ (false = true) by decide)] at H; exact H
                clear H
                have H := H1
                clear H1
                obtain rfl := Option.some.inj H
                try go_wp2
                have n0_ := Aside0.mk (below_drew1 HB.out)
                clear HB
                have HB := n0_
                clear n0_
                have p722 : 0 ≤ (x5_1 : Int) := of_decide_eq_true (by first | (with_reducible assumption) | assumption)
                have q722 : x5_1 < (l0.length : Int) := of_decide_eq_true (by first | (with_reducible assumption) | assumption)
                obtain ⟨ad722, e722, hx722_0, hx722_1⟩ := at_T29 HR0.out x5_1 p722 q722
                have hw722_1 := hx722_1
                have hw722_0 := hx722_0
                cases e722
                replace hx722_0 := (HB.out.cell (World.block_lt_of_cell? w _ hx722_0)).trans hx722_0
                replace hx722_1 := (HB.out.cell (World.block_lt_of_cell? w _ hx722_1)).trans hx722_1
                replace p722 := eq_true p722
                replace q722 := eq_true q722
                have p723 : 0 ≤ (x5_1 : Int) := of_decide_eq_true (by first | (with_reducible assumption) | assumption)
                have q723 : x5_1 < (l1.length : Int) := of_decide_eq_true (by first | (with_reducible assumption) | assumption)
                obtain ⟨ad723, e723, hx723_0, hx723_1⟩ := at_T29 HR1.out x5_1 p723 q723
                have hw723_1 := hx723_1
                have hw723_0 := hx723_0
                cases e723
                replace hx723_0 := (HB.out.cell (World.block_lt_of_cell? w _ hx723_0)).trans hx723_0
                replace hx723_1 := (HB.out.cell (World.block_lt_of_cell? w _ hx723_1)).trans hx723_1
                replace p723 := eq_true p723
                replace q723 := eq_true q723
                refine start_ (n := 10) (S := fun w' => w'.cell? (ad722.add ((x5_1).toNat * 2)) = some (.int .i64 ((rd_T29 l0 x5_1).f0)) ∧ w'.cell? ⟨(ad722.add ((x5_1).toNat * 2)).block, (ad722.add ((x5_1).toNat * 2)).off + 1, none⟩ = some (.int .i64 ((rd_T29 l0 x5_1).f1)) ∧ w'.cell? (ad723.add ((x5_1).toNat * 2)) = some (.int .i64 ((rd_T29 l1 x5_1).f0)) ∧ w'.cell? ⟨(ad723.add ((x5_1).toNat * 2)).block, (ad723.add ((x5_1).toNat * 2)).off + 1, none⟩ = some (.int .i64 ((rd_T29 l1 x5_1).f1))) (ds := []) #[false, false, false, false, false, false, false, false, false, false] (by kernel_rfl) rfl rfl ⟨((HB.out.cell (World.block_lt_of_cell? w _ hw722_0)).trans hw722_0), ((HB.out.cell (World.block_lt_of_cell? w _ hw722_1)).trans hw722_1), ((HB.out.cell (World.block_lt_of_cell? w _ hw723_0)).trans hw723_0), ((HB.out.cell (World.block_lt_of_cell? w _ hw723_1)).trans hw723_1)⟩ (fun hHeld => ?_); refine with_tabW laws_eqEndPointS.tab6 laws_eqEndPointS.bits6 (fun HT_ HW_ => ?_)
                generalize wr.drew = w11 at HB hx722_0 hx722_1 hx723_0 hx723_1 hHeld ⊢
                refine pure_ (i := 0) (N := some 17) (v := ?_) (a' := ?_) #[true, false, false, false, false, false, false, false, false, false] rfl rfl (any_of HT_.out (by kernel_rfl)) (fun _ _ _ h => h) (Or.inl ⟨by rfl, ?_⟩) ?_ ?_
                rotate_left
                · intro w'
                  go_simp
                  with_reducible rfl
                rotate_left
                · simp only [Act.put, List.setIfInBounds_toArray, List.set_cons_zero, List.set_cons_succ, i64_w, i32_w]
                  rfl
                refine pure_ (i := 1) (N := some 18) (v := ?_) (a' := ?_) #[true, true, false, false, false, false, false, false, false, false] rfl rfl (any_of HT_.out (by kernel_rfl)) (fun _ _ _ h => h) (Or.inl ⟨by rfl, ?_⟩) ?_ ?_
                rotate_left
                · intro w'
                  go_simp
                  with_reducible rfl
                rotate_left
                · simp only [Act.put, List.setIfInBounds_toArray, List.set_cons_zero, List.set_cons_succ, i64_w, i32_w]
                  rfl
                refine pure_ (i := 2) (N := some 19) (v := ?_) (a' := ?_) #[true, true, true, false, false, false, false, false, false, false] rfl rfl (any_of HT_.out (by kernel_rfl)) (fun _ _ _ h => h) (Or.inl ⟨by rfl, ?_⟩) ?_ ?_
                rotate_left
                · intro w'
                  go_simp
                  with_reducible rfl
                rotate_left
                · simp only [Act.put, List.setIfInBounds_toArray, List.set_cons_zero, List.set_cons_succ, i64_w, i32_w]
                  rfl
                refine pure_ (i := 4) (N := some 21) (v := ?_) (a' := ?_) #[true, true, true, false, true, false, false, false, false, false] rfl rfl (any_of HT_.out (by kernel_rfl)) (fun _ _ _ h => h) (Or.inl ⟨by rfl, ?_⟩) ?_ ?_
                rotate_left
                · intro w'
                  go_simp
                  with_reducible rfl
                rotate_left
                · simp only [Act.put, List.setIfInBounds_toArray, List.set_cons_zero, List.set_cons_succ, i64_w, i32_w]
                  rfl
                refine pure_ (i := 5) (N := some 22) (v := ?_) (a' := ?_) #[true, true, true, false, true, true, false, false, false, false] rfl rfl (any_of HT_.out (by kernel_rfl)) (fun _ _ _ h => h) (Or.inl ⟨by rfl, ?_⟩) ?_ ?_
                rotate_left
                · intro w'
                  go_simp
                  with_reducible rfl
                rotate_left
                · simp only [Act.put, List.setIfInBounds_toArray, List.set_cons_zero, List.set_cons_succ, i64_w, i32_w]
                  rfl
                refine pure_ (i := 6) (N := some 23) (v := ?_) (a' := ?_) #[true, true, true, false, true, true, true, false, false, false] rfl rfl (any_of HT_.out (by kernel_rfl)) (fun _ _ _ h => h) (Or.inl ⟨by rfl, ?_⟩) ?_ ?_
                rotate_left
                · intro w'
                  go_simp
                  with_reducible rfl
                rotate_left
                · simp only [Act.put, List.setIfInBounds_toArray, List.set_cons_zero, List.set_cons_succ, i64_w, i32_w]
                  rfl
                refine take_ (i := 3) (N := some 20) (v := ?_) (a' := ?_) #[true, true, true, true, true, true, true, false, false, false] rfl rfl (take_ofW HT_.out HW_.out (by kernel_rfl)) (fun _ _ _ h => h) (Or.inl ⟨by rfl, ?_⟩) hHeld ?_ ?_
                rotate_left
                · rintro w' ⟨s0, s1, s2, s3⟩
                  go_simp
                  with_reducible rfl
                rotate_left
                · simp only [Act.put, List.setIfInBounds_toArray, List.set_cons_zero, List.set_cons_succ, i64_w, i32_w]
                  rfl
                refine take_ (i := 7) (N := some 24) (v := ?_) (a' := ?_) #[true, true, true, true, true, true, true, true, false, false] rfl rfl (take_ofW HT_.out HW_.out (by kernel_rfl)) (fun _ _ _ h => h) (Or.inl ⟨by rfl, ?_⟩) hHeld ?_ ?_
                rotate_left
                · rintro w' ⟨s0, s1, s2, s3⟩
                  go_simp
                  with_reducible rfl
                rotate_left
                · simp only [Act.put, List.setIfInBounds_toArray, List.set_cons_zero, List.set_cons_succ, i64_w, i32_w]
                  rfl
                refine one_ (i := 8) (N := some 25) #[true, true, true, true, true, true, true, true, true, false] rfl rfl (one_of HT_.out (by kernel_rfl)) (by decide) (fun K hK => ?_)
                refine goes_ Try.func96 (by kernel_rfl) rfl #[.agg #[.int .i64 ((rd_T29 l0 x5_1).f0), .int .i64 ((rd_T29 l0 x5_1).f1)], .agg #[.int .i64 ((rd_T29 l1 x5_1).f0), .int .i64 ((rd_T29 l1 x5_1).f1)]] (by rfl) rfl rfl (by (try simp only [List.map_toArray, List.map_cons, List.map_nil]); first | done | rfl | (simp only [List.length_drop, List.length_take]; rfl)) ?_
                with_reducible refine (laws_eqEndPoint.calls ((rd_T29 l0 x5_1).f0) ((rd_T29 l0 x5_1).f1) ((rd_T29 l1 x5_1).f0) ((rd_T29 l1 x5_1).f1) false _ A7.out).mono ?_
                rintro e w12 ⟨rfl, hb⟩
                refine ⟨_, rfl, ?_⟩
                have n0_ := Aside0.mk (below_step (bl HB) hb)
                clear HB
                have HB := n0_
                clear n0_
                (try clear hb)
                (try clear hb2)
                (try clear hk)
                (try clear hi)
                refine hK.out _ _ ⟨((HB.out.cell (World.block_lt_of_cell? w _ hw722_0)).trans hw722_0), ((HB.out.cell (World.block_lt_of_cell? w _ hw722_1)).trans hw722_1), ((HB.out.cell (World.block_lt_of_cell? w _ hw723_0)).trans hw723_0), ((HB.out.cell (World.block_lt_of_cell? w _ hw723_1)).trans hw723_1)⟩ (fun hHeld => ?_)
                clear hK K
                refine norm_ (a' := ?_) ?_ ?_
                rotate_left
                · show Act.put _ (some 25) _ = _
                  simp only [Act.put, List.setIfInBounds_toArray, List.set_cons_zero, List.set_cons_succ, i64_w, i32_w]
                  rfl
                refine pure_ (i := 9) (N := some 26) (v := ?_) (a' := ?_) #[true, true, true, true, true, true, true, true, true, true] rfl rfl (any_of HT_.out (by kernel_rfl)) (fun _ _ _ h => h) (Or.inl ⟨by rfl, ?_⟩) ?_ ?_
                rotate_left
                · intro w'
                  go_simp
                  with_reducible rfl
                rotate_left
                · simp only [Act.put, List.setIfInBounds_toArray, List.set_cons_zero, List.set_cons_succ, i64_w, i32_w]
                  rfl
                refine done_ (done_of HT_.out (by kernel_rfl)) ?_
                try go_wp2
                go_ret
                exact ⟨by first | rfl | (simp [errW_none, errW_some] <;> rfl) | (simp [*, errW_none, errW_some] <;> rfl), by repeat (first | (with_reducible first | exact HB.out | apply below_alloc | apply pw_below_drewN | apply below_drew1) | exact HB.out)⟩
            · rw [if_neg c6] at H
              exact absurd H (by simp)
          · rw [if_neg c5] at H
            exact absurd H (by simp)
        · rw [if_neg c4] at H
          have c4b0 : decide (x5_1 < (l0.length : Int)) = false := decide_eq_false c4
          clear c4
          obtain rfl := Option.some.inj H
          go_wp2
          go_ret
          exact ⟨by first | rfl | (simp [errW_none, errW_some] <;> rfl) | (simp [*, errW_none, errW_some] <;> rfl), by repeat (first | (with_reducible first | exact HB.out | apply below_alloc | apply pw_below_drewN | apply below_drew1) | exact HB.out)⟩
  · rw [if_neg c3] at H
    have c3b0 : ((l0.length : Int) == (l1.length : Int)) = false := beq_eq_false_iff_ne.mpr c3
    have c3b1 : ((l0.length : Int) != (l1.length : Int)) = true := bne_iff_ne.mpr c3
    have c3b2 : (l0.length == l1.length) = false := by first | simpa using c3 | (simp at c3 ⊢; omega)
    obtain rfl := Option.some.inj H
    go_enter Try.func72, Try.ntmps72
    go_wp2
    go_ret
    exact ⟨by first | rfl | (simp [errW_none, errW_some] <;> rfl) | (simp [*, errW_none, errW_some] <;> rfl), by repeat (first | (with_reducible first | exact HB.out | apply below_alloc | apply pw_below_drewN | apply below_drew1) | exact HB.out)⟩

end Go.Proofs.Ytiocgkggegahhaa.P

-- written by hw.py for this claim
namespace Go.Proofs.Ytiocgkggegahhaa.P
open Go.RowKit Go.Proofs.YtiocgkggegahhaaUFnExactBoxNew.PrintWords Go.Proofs.YtiocgkggegahhaaUFnExactBoxNew.PrintLast Go.Proofs.YtiocgkggegahhaaUFnExactBoxNew.PrintMore
attribute [local go_sem] max2_int min2_int max_two min_two max_three min_three max_four min_four
set_option linter.unusedVariables false
set_option linter.unusedSimpArgs false

/-! ### laws_eqMapTab: function 31 -/
def laws_eqMapTab.f (k : Nat) (l0_0 : List (S29)) (l1_0 : List (S29)) : Option (Bool) := (laws_eqEndPointS.f k l0_0 l1_0).bind fun t727 => (if t727 = true then (some true) else (some false))
theorem laws_eqMapTab.mono : ∀ a0 a1 k, LeO (laws_eqMapTab.f k a0 a1) (laws_eqMapTab.f (k + 1) a0 a1) := by
  intro a0 a1 k
  unfold laws_eqMapTab.f
  repeat' first
      | (with_reducible exact laws_eqEndPointS.mono _ _ _)
      | (with_reducible exact LeO.refl _)
      | (with_reducible exact LeO.none _)
      | (with_reducible refine LeO.ite ?_ ?_)
      | (with_reducible refine LeO.bind ?_ (fun _ => ?_))
      | exact laws_eqEndPointS.mono _ _ _
      | exact LeO.none _
      | refine LeO.ite ?_ ?_
      | refine LeO.bind ?_ (fun _ => ?_)
set_option maxHeartbeats 8000000 in
set_option maxRecDepth 100000 in
theorem laws_eqMapTab.calls (k : Nat) (A0_0 : Option Addr) (c0_0 : Nat) (l0_0 : List (S29)) (A1_0 : Option Addr) (c1_0 : Nat) (l1_0 : List (S29)) (r : Bool) (w : World) (hr0_0 : Kd.C k29 w A0_0 l0_0.length l0_0) (hc0_0 : l0_0.length ≤ c0_0) (hr1_0 : Kd.C k29 w A1_0 l1_0.length l1_0) (hc1_0 : l1_0.length ≤ c1_0) (h : laws_eqMapTab.f k l0_0 l1_0 = some r) :
    Calls Try.prog 31 #[.agg #[.slice A0_0 l0_0.length c0_0], .agg #[.slice A1_0 l1_0.length c1_0]] w fun e w' => e = .returned (.bool r) ∧ Below w.heap.size w w' := by
  have hu45 := Try.underlying45
  have HR0_0 := Aside0.mk hr0_0
  have HC0_0 := Aside0.mk hc0_0
  clear hr0_0 hc0_0
  have HR1_0 := Aside0.mk hr1_0
  have HC1_0 := Aside0.mk hc1_0
  clear hr1_0 hc1_0
  have HB := Aside0.mk (Below.refl w.heap.size w)
  have H : ((laws_eqEndPointS.f k l0_0 l1_0).bind fun t727 => (if t727 = true then (some true) else (some false))) = some r := h
  clear h
  replace H := Option.bind_eq_some_iff.mp H
  obtain ⟨t727, A30, H⟩ := H
  replace H : (if t727 = true then (some true) else (some false)) = some r := H
  have A3 := Aside0.mk A30
  clear A30
  by_cases c4 : t727 = true
  · subst c4
    have H1 : (some true) = some r := by rw [if_pos rfl] at H; exact H
    clear H
    have H := H1
    clear H1
    obtain rfl := Option.some.inj H
    go_enter Try.func31, Try.ntmps31
    go_wp2_with (first | ((with_reducible refine gate_dst (N := 2) rfl ?_); refine box_event ?hg (N := 2) ?hd (cs := #[.slice A0_0 l0_0.length c0_0]) (t := 45) ?hr ?_; (case hd => rfl); (case hg => rfl); (case hr => first | (go_simp; done) | (go_simp; rfl)); intro gb725 hg w5 hbox hb; have n0_ := Aside0.mk (below_step (bl HB) hb); have n1_ := Aside0.mk (hbox); have n2_ := Aside0.mk ((by rw [hg]; exact (below_size (bl HB)) : w.heap.size ≤ gb725)); have n3_ := Aside0.mk ((by rw [hg]; exact (below_size (bl HB)) : w.heap.size ≤ gb725)); clear HB; have HB := n0_; have BK725 := n1_; have GW725 := n2_; have GE725 := n3_; clear n0_ n1_ n2_ n3_; clear hb hbox hg) | ((with_reducible refine gate_dst (N := 3) rfl ?_); refine box_event ?hg (N := 3) ?hd (cs := #[.slice A1_0 l1_0.length c1_0]) (t := 45) ?hr ?_; (case hd => rfl); (case hg => rfl); (case hr => first | (go_simp; done) | (go_simp; rfl)); intro gb726 hg w6 hbox hb; have n0_ := bkB BK725 hb; have n1_ := Aside0.mk (below_step (bl HB) hb); have n2_ := Aside0.mk (hbox); have n3_ := Aside0.mk ((by rw [hg]; exact (below_size (bl HB)) : w.heap.size ≤ gb726)); have n4_ := Aside0.mk ((by rw [hg]; exact (below_size (bl HB)) : w.heap.size ≤ gb726)); have n5_ := Aside0.mk ((by rw [hg]; exact Nat.ne_of_lt (bkL BK725) : gb725 ≠ gb726)); have n6_ := Aside0.mk ((by rw [hg]; exact Nat.ne_of_gt (bkL BK725) : gb726 ≠ gb725)); clear BK725; clear HB; have BK725 := n0_; have HB := n1_; have BK726 := n2_; have GW726 := n3_; have GE726 := n4_; have NB725_726 := n5_; have NB726_725 := n6_; clear n0_ n1_ n2_ n3_ n4_ n5_ n6_; clear hb hbox hg; have hnb7 := NB725_726.out; have hnc7 := NB726_725.out; have hcz8_0 : w6.cell? ⟨gb725, 0, none⟩ = some (.slice A0_0 l0_0.length c0_0) := (blk_cell BK725.out 0).trans rfl; have hfz8_0 := blk_frozen BK725.out 0; have hcz9_0 : w6.cell? ⟨gb726, 0, none⟩ = some (.slice A1_0 l1_0.length c1_0) := (blk_cell BK726.out 0).trans rfl; have hfz9_0 := blk_frozen BK726.out 0) | ((with_reducible refine gate_callee (f := 72) rfl ?_); refine goesL_ (some 9) rfl rfl Try.func72 (by kernel_rfl) rfl #[.slice A0_0 l0_0.length c0_0, .slice A1_0 l1_0.length c1_0] rfl (by (try simp only [List.map_toArray, List.map_cons, List.map_nil]); first | done | rfl | (simp only [List.length_drop, List.length_take]; rfl)) ?_; (with_reducible refine (laws_eqEndPointS.calls k _ _ l0_0 _ _ l1_0 true _ ?side1 ?side2 ?side3 ?side4 A3.out).mono ?_); (case side1 => repeat (first | exact (Kd.C_below HR0_0.out HB.out) | (with_reducible refine Kd.C_alloc ?_ _) | (with_reducible refine Kd.C_drewN ?_ _) | (with_reducible refine Kd.C_drew ?_))); (case side2 => exact HC0_0.out); (case side3 => repeat (first | exact (Kd.C_below HR1_0.out HB.out) | (with_reducible refine Kd.C_alloc ?_ _) | (with_reducible refine Kd.C_drewN ?_ _) | (with_reducible refine Kd.C_drew ?_))); (case side4 => exact HC1_0.out); rintro e w10 ⟨rfl, hb⟩; refine ⟨_, rfl, ?_⟩; have n0_ := bkB BK725 hb; have n1_ := bkB BK726 hb; have n2_ := Aside0.mk (below_step (bl HB) hb); clear BK725; clear BK726; clear HB; have BK725 := n0_; have BK726 := n1_; have HB := n2_; clear n0_ n1_ n2_; (try clear hb); (try clear hb2); (try clear hk); (try clear hi)))
    go_ret
    exact ⟨by first | rfl | (simp [errW_none, errW_some] <;> rfl) | (simp [*, errW_none, errW_some] <;> rfl), by repeat (first | (with_reducible first | exact HB.out | apply below_alloc | apply pw_below_drewN | apply below_drew1 | refine below_set ?_ GE725.out | refine below_set ?_ GE726.out) | exact HB.out)⟩
  · replace c4 := Bool.eq_false_iff.mpr c4
    subst c4
    have H1 : (some false) = some r := by rw [if_neg (show ¬ (false = true) by decide)] at H; exact H
    clear H
    have H := H1
    clear H1
    obtain rfl := Option.some.inj H
    go_enter Try.func31, Try.ntmps31
    go_wp2_with (first | ((with_reducible refine gate_dst (N := 2) rfl ?_); refine box_event ?hg (N := 2) ?hd (cs := #[.slice A0_0 l0_0.length c0_0]) (t := 45) ?hr ?_; (case hd => rfl); (case hg => rfl); (case hr => first | (go_simp; done) | (go_simp; rfl)); intro gb725 hg w11 hbox hb; have n0_ := Aside0.mk (below_step (bl HB) hb); have n1_ := Aside0.mk (hbox); have n2_ := Aside0.mk ((by rw [hg]; exact (below_size (bl HB)) : w.heap.size ≤ gb725)); have n3_ := Aside0.mk ((by rw [hg]; exact (below_size (bl HB)) : w.heap.size ≤ gb725)); clear HB; have HB := n0_; have BK725 := n1_; have GW725 := n2_; have GE725 := n3_; clear n0_ n1_ n2_ n3_; clear hb hbox hg) | ((with_reducible refine gate_dst (N := 3) rfl ?_); refine box_event ?hg (N := 3) ?hd (cs := #[.slice A1_0 l1_0.length c1_0]) (t := 45) ?hr ?_; (case hd => rfl); (case hg => rfl); (case hr => first | (go_simp; done) | (go_simp; rfl)); intro gb726 hg w12 hbox hb; have n0_ := bkB BK725 hb; have n1_ := Aside0.mk (below_step (bl HB) hb); have n2_ := Aside0.mk (hbox); have n3_ := Aside0.mk ((by rw [hg]; exact (below_size (bl HB)) : w.heap.size ≤ gb726)); have n4_ := Aside0.mk ((by rw [hg]; exact (below_size (bl HB)) : w.heap.size ≤ gb726)); have n5_ := Aside0.mk ((by rw [hg]; exact Nat.ne_of_lt (bkL BK725) : gb725 ≠ gb726)); have n6_ := Aside0.mk ((by rw [hg]; exact Nat.ne_of_gt (bkL BK725) : gb726 ≠ gb725)); clear BK725; clear HB; have BK725 := n0_; have HB := n1_; have BK726 := n2_; have GW726 := n3_; have GE726 := n4_; have NB725_726 := n5_; have NB726_725 := n6_; clear n0_ n1_ n2_ n3_ n4_ n5_ n6_; clear hb hbox hg; have hnb13 := NB725_726.out; have hnc13 := NB726_725.out; have hcz14_0 : w12.cell? ⟨gb725, 0, none⟩ = some (.slice A0_0 l0_0.length c0_0) := (blk_cell BK725.out 0).trans rfl; have hfz14_0 := blk_frozen BK725.out 0; have hcz15_0 : w12.cell? ⟨gb726, 0, none⟩ = some (.slice A1_0 l1_0.length c1_0) := (blk_cell BK726.out 0).trans rfl; have hfz15_0 := blk_frozen BK726.out 0) | ((with_reducible refine gate_callee (f := 72) rfl ?_); refine goesL_ (some 9) rfl rfl Try.func72 (by kernel_rfl) rfl #[.slice A0_0 l0_0.length c0_0, .slice A1_0 l1_0.length c1_0] rfl (by (try simp only [List.map_toArray, List.map_cons, List.map_nil]); first | done | rfl | (simp only [List.length_drop, List.length_take]; rfl)) ?_; (with_reducible refine (laws_eqEndPointS.calls k _ _ l0_0 _ _ l1_0 false _ ?side1 ?side2 ?side3 ?side4 A3.out).mono ?_); (case side1 => repeat (first | exact (Kd.C_below HR0_0.out HB.out) | (with_reducible refine Kd.C_alloc ?_ _) | (with_reducible refine Kd.C_drewN ?_ _) | (with_reducible refine Kd.C_drew ?_))); (case side2 => exact HC0_0.out); (case side3 => repeat (first | exact (Kd.C_below HR1_0.out HB.out) | (with_reducible refine Kd.C_alloc ?_ _) | (with_reducible refine Kd.C_drewN ?_ _) | (with_reducible refine Kd.C_drew ?_))); (case side4 => exact HC1_0.out); rintro e w16 ⟨rfl, hb⟩; refine ⟨_, rfl, ?_⟩; have n0_ := bkB BK725 hb; have n1_ := bkB BK726 hb; have n2_ := Aside0.mk (below_step (bl HB) hb); clear BK725; clear BK726; clear HB; have BK725 := n0_; have BK726 := n1_; have HB := n2_; clear n0_ n1_ n2_; (try clear hb); (try clear hb2); (try clear hk); (try clear hi)))
    go_ret
    exact ⟨by first | rfl | (simp [errW_none, errW_some] <;> rfl) | (simp [*, errW_none, errW_some] <;> rfl), by repeat (first | (with_reducible first | exact HB.out | apply below_alloc | apply pw_below_drewN | apply below_drew1 | refine below_set ?_ GE725.out | refine below_set ?_ GE726.out) | exact HB.out)⟩

end Go.Proofs.Ytiocgkggegahhaa.P

-- written by hw.py for this claim
namespace Go.Proofs.Ytiocgkggegahhaa.P
open Go.RowKit Go.Proofs.YtiocgkggegahhaaUFnExactBoxNew.PrintWords Go.Proofs.YtiocgkggegahhaaUFnExactBoxNew.PrintLast Go.Proofs.YtiocgkggegahhaaUFnExactBoxNew.PrintMore
attribute [local go_sem] max2_int min2_int max_two min_two max_three min_three max_four min_four
set_option linter.unusedVariables false
set_option linter.unusedSimpArgs false

/-! ### laws_eqBoxConn: function 98 -/
def laws_eqBoxConn.f (a0_0 : Int) (a0_1 : Int) (a0_2 : Int) (a0_3 : Int) (a0_4 : ByteArray) (a0_5 : ByteArray) (a0_6 : ByteArray) (a1_0 : Int) (a1_1 : Int) (a1_2 : Int) (a1_3 : Int) (a1_4 : ByteArray) (a1_5 : ByteArray) (a1_6 : ByteArray) : Option (Bool) := (laws_eqEndPoint.f a0_0 a0_1 a1_0 a1_1).bind fun t846 => (if t846 = true then ((laws_eqEndPoint.f a0_2 a0_3 a1_2 a1_3).bind fun t847 => (if t847 = true then (if a0_4.toList = a1_4.toList then (if a0_5.toList = a1_5.toList then (if a0_6.toList = a1_6.toList then (some true) else (some false)) else (some false)) else (some false)) else (some false))) else (some false))
set_option maxHeartbeats 8000000 in
set_option maxRecDepth 100000 in
theorem laws_eqBoxConn.calls (a0_0 : Int) (a0_1 : Int) (a0_2 : Int) (a0_3 : Int) (a0_4 : ByteArray) (a0_5 : ByteArray) (a0_6 : ByteArray) (a1_0 : Int) (a1_1 : Int) (a1_2 : Int) (a1_3 : Int) (a1_4 : ByteArray) (a1_5 : ByteArray) (a1_6 : ByteArray) (r : Bool) (w : World) (h : laws_eqBoxConn.f a0_0 a0_1 a0_2 a0_3 a0_4 a0_5 a0_6 a1_0 a1_1 a1_2 a1_3 a1_4 a1_5 a1_6 = some r) :
    Calls Try.prog 98 #[.agg #[.int .i64 a0_0, .int .i64 a0_1, .int .i64 a0_2, .int .i64 a0_3, .string a0_4, .string a0_5, .string a0_6], .agg #[.int .i64 a1_0, .int .i64 a1_1, .int .i64 a1_2, .int .i64 a1_3, .string a1_4, .string a1_5, .string a1_6]] w fun e w' => e = .returned (.bool r) ∧ Below w.heap.size w w' := by
  have hu119 := Try.underlying119
  have hu29 := Try.underlying29
  have HB := Aside0.mk (Below.refl w.heap.size w)
  have H : ((laws_eqEndPoint.f a0_0 a0_1 a1_0 a1_1).bind fun t846 => (if t846 = true then ((laws_eqEndPoint.f a0_2 a0_3 a1_2 a1_3).bind fun t847 => (if t847 = true then (if a0_4.toList = a1_4.toList then (if a0_5.toList = a1_5.toList then (if a0_6.toList = a1_6.toList then (some true) else (some false)) else (some false)) else (some false)) else (some false))) else (some false))) = some r := h
  clear h
  replace H := Option.bind_eq_some_iff.mp H
  obtain ⟨t846, A30, H⟩ := H
  replace H : (if t846 = true then ((laws_eqEndPoint.f a0_2 a0_3 a1_2 a1_3).bind fun t847 => (if t847 = true then (if a0_4.toList = a1_4.toList then (if a0_5.toList = a1_5.toList then (if a0_6.toList = a1_6.toList then (some true) else (some false)) else (some false)) else (some false)) else (some false))) else (some false)) = some r := H
  have A3 := Aside0.mk A30
  clear A30
  by_cases c4 : t846 = true
  · subst c4
    have H1 : ((laws_eqEndPoint.f a0_2 a0_3 a1_2 a1_3).bind fun t847 => (if t847 = true then (if a0_4.toList = a1_4.toList then (if a0_5.toList = a1_5.toList then (if a0_6.toList = a1_6.toList then (some true) else (some false)) else (some false)) else (some false)) else (some false))) = some r := by rw [if_pos rfl] at H; exact H
    clear H
    have H := H1
    clear H1
    replace H := Option.bind_eq_some_iff.mp H
    obtain ⟨t847, A50, H⟩ := H
    replace H : (if t847 = true then (if a0_4.toList = a1_4.toList then (if a0_5.toList = a1_5.toList then (if a0_6.toList = a1_6.toList then (some true) else (some false)) else (some false)) else (some false)) else (some false)) = some r := H
    have A5 := Aside0.mk A50
    clear A50
    by_cases c6 : t847 = true
    · subst c6
      have H1 : (if a0_4.toList = a1_4.toList then (if a0_5.toList = a1_5.toList then (if a0_6.toList = a1_6.toList then (some true) else (some false)) else (some false)) else (some false)) = some r := by rw [if_pos rfl] at H; exact H
      clear H
      have H := H1
      clear H1
      by_cases c7 : a0_4.toList = a1_4.toList
      · rw [if_pos c7] at H
        have c7b0 : (a0_4.toList == a1_4.toList) = true := beq_iff_eq.mpr c7
        have c7b1 : (a0_4.toList != a1_4.toList) = false := bne_eq_false_iff_eq.mpr c7
        clear c7
        by_cases c8 : a0_5.toList = a1_5.toList
        · rw [if_pos c8] at H
          have c8b0 : (a0_5.toList == a1_5.toList) = true := beq_iff_eq.mpr c8
          have c8b1 : (a0_5.toList != a1_5.toList) = false := bne_eq_false_iff_eq.mpr c8
          clear c8
          by_cases c9 : a0_6.toList = a1_6.toList
          · rw [if_pos c9] at H
            have c9b0 : (a0_6.toList == a1_6.toList) = true := beq_iff_eq.mpr c9
            have c9b1 : (a0_6.toList != a1_6.toList) = false := bne_eq_false_iff_eq.mpr c9
            clear c9
            obtain rfl := Option.some.inj H
            go_enter Try.func98, Try.ntmps98
            go_wp2_with (first | ((with_reducible refine gate_dst (N := 2) rfl ?_); refine box_event ?hg (N := 2) ?hd (cs := #[.int .i64 a0_0, .int .i64 a0_1, .int .i64 a0_2, .int .i64 a0_3, .string a0_4, .string a0_5, .string a0_6]) (t := 119) ?hr ?_; (case hd => rfl); (case hg => rfl); (case hr => first | (go_simp; done) | (go_simp; rfl)); intro gb844 hg w10 hbox hb; have n0_ := Aside0.mk (below_step (bl HB) hb); have n1_ := Aside0.mk (hbox); have n2_ := Aside0.mk ((by rw [hg]; exact (below_size (bl HB)) : w.heap.size ≤ gb844)); have n3_ := Aside0.mk ((by rw [hg]; exact (below_size (bl HB)) : w.heap.size ≤ gb844)); clear HB; have HB := n0_; have BK844 := n1_; have GW844 := n2_; have GE844 := n3_; clear n0_ n1_ n2_ n3_; clear hb hbox hg) | ((with_reducible refine gate_dst (N := 3) rfl ?_); refine box_event ?hg (N := 3) ?hd (cs := #[.int .i64 a1_0, .int .i64 a1_1, .int .i64 a1_2, .int .i64 a1_3, .string a1_4, .string a1_5, .string a1_6]) (t := 119) ?hr ?_; (case hd => rfl); (case hg => rfl); (case hr => first | (go_simp; done) | (go_simp; rfl)); intro gb845 hg w11 hbox hb; have n0_ := bkB BK844 hb; have n1_ := Aside0.mk (below_step (bl HB) hb); have n2_ := Aside0.mk (hbox); have n3_ := Aside0.mk ((by rw [hg]; exact (below_size (bl HB)) : w.heap.size ≤ gb845)); have n4_ := Aside0.mk ((by rw [hg]; exact (below_size (bl HB)) : w.heap.size ≤ gb845)); have n5_ := Aside0.mk ((by rw [hg]; exact Nat.ne_of_lt (bkL BK844) : gb844 ≠ gb845)); have n6_ := Aside0.mk ((by rw [hg]; exact Nat.ne_of_gt (bkL BK844) : gb845 ≠ gb844)); clear BK844; clear HB; have BK844 := n0_; have HB := n1_; have BK845 := n2_; have GW845 := n3_; have GE845 := n4_; have NB844_845 := n5_; have NB845_844 := n6_; clear n0_ n1_ n2_ n3_ n4_ n5_ n6_; clear hb hbox hg; have hnb12 := NB844_845.out; have hnc12 := NB845_844.out; have hcz13_0 : w11.cell? ⟨gb844, 0, none⟩ = some (.int .i64 a0_0) := (blk_cell BK844.out 0).trans rfl; have hcz13_1 : w11.cell? ⟨gb844, 1, none⟩ = some (.int .i64 a0_1) := (blk_cell BK844.out 1).trans rfl; have hcz13_2 : w11.cell? ⟨gb844, 2, none⟩ = some (.int .i64 a0_2) := (blk_cell BK844.out 2).trans rfl; have hcz13_3 : w11.cell? ⟨gb844, 3, none⟩ = some (.int .i64 a0_3) := (blk_cell BK844.out 3).trans rfl; have hcz13_4 : w11.cell? ⟨gb844, 4, none⟩ = some (.string a0_4) := (blk_cell BK844.out 4).trans rfl; have hcz13_5 : w11.cell? ⟨gb844, 5, none⟩ = some (.string a0_5) := (blk_cell BK844.out 5).trans rfl; have hcz13_6 : w11.cell? ⟨gb844, 6, none⟩ = some (.string a0_6) := (blk_cell BK844.out 6).trans rfl; have hfz13_0 := blk_frozen BK844.out 0; have hfz13_1 := blk_frozen BK844.out 1; have hfz13_2 := blk_frozen BK844.out 2; have hfz13_3 := blk_frozen BK844.out 3; have hfz13_4 := blk_frozen BK844.out 4; have hfz13_5 := blk_frozen BK844.out 5; have hfz13_6 := blk_frozen BK844.out 6; have hcz14_0 : w11.cell? ⟨gb845, 0, none⟩ = some (.int .i64 a1_0) := (blk_cell BK845.out 0).trans rfl; have hcz14_1 : w11.cell? ⟨gb845, 1, none⟩ = some (.int .i64 a1_1) := (blk_cell BK845.out 1).trans rfl; have hcz14_2 : w11.cell? ⟨gb845, 2, none⟩ = some (.int .i64 a1_2) := (blk_cell BK845.out 2).trans rfl; have hcz14_3 : w11.cell? ⟨gb845, 3, none⟩ = some (.int .i64 a1_3) := (blk_cell BK845.out 3).trans rfl; have hcz14_4 : w11.cell? ⟨gb845, 4, none⟩ = some (.string a1_4) := (blk_cell BK845.out 4).trans rfl; have hcz14_5 : w11.cell? ⟨gb845, 5, none⟩ = some (.string a1_5) := (blk_cell BK845.out 5).trans rfl; have hcz14_6 : w11.cell? ⟨gb845, 6, none⟩ = some (.string a1_6) := (blk_cell BK845.out 6).trans rfl; have hfz14_0 := blk_frozen BK845.out 0; have hfz14_1 := blk_frozen BK845.out 1; have hfz14_2 := blk_frozen BK845.out 2; have hfz14_3 := blk_frozen BK845.out 3; have hfz14_4 := blk_frozen BK845.out 4; have hfz14_5 := blk_frozen BK845.out 5; have hfz14_6 := blk_frozen BK845.out 6) | ((with_reducible refine gate_callee (f := 96) rfl ?_); refine goesL_ (some 9) rfl rfl Try.func96 (by kernel_rfl) rfl #[.agg #[.int .i64 a0_0, .int .i64 a0_1], .agg #[.int .i64 a1_0, .int .i64 a1_1]] rfl (by (try simp only [List.map_toArray, List.map_cons, List.map_nil]); first | done | rfl | (simp only [List.length_drop, List.length_take]; rfl)) ?_; (with_reducible refine (laws_eqEndPoint.calls a0_0 a0_1 a1_0 a1_1 true _ A3.out).mono ?_); rintro e w15 ⟨rfl, hb⟩; refine ⟨_, rfl, ?_⟩; have n0_ := bkB BK844 hb; have n1_ := bkB BK845 hb; have n2_ := Aside0.mk (below_step (bl HB) hb); clear BK844; clear BK845; clear HB; have BK844 := n0_; have BK845 := n1_; have HB := n2_; clear n0_ n1_ n2_; (try clear hb); (try clear hb2); (try clear hk); (try clear hi); have hcz16_0 : w15.cell? ⟨gb844, 0, none⟩ = some (.int .i64 a0_0) := (blk_cell BK844.out 0).trans rfl; have hcz16_1 : w15.cell? ⟨gb844, 1, none⟩ = some (.int .i64 a0_1) := (blk_cell BK844.out 1).trans rfl; have hcz16_2 : w15.cell? ⟨gb844, 2, none⟩ = some (.int .i64 a0_2) := (blk_cell BK844.out 2).trans rfl; have hcz16_3 : w15.cell? ⟨gb844, 3, none⟩ = some (.int .i64 a0_3) := (blk_cell BK844.out 3).trans rfl; have hcz16_4 : w15.cell? ⟨gb844, 4, none⟩ = some (.string a0_4) := (blk_cell BK844.out 4).trans rfl; have hcz16_5 : w15.cell? ⟨gb844, 5, none⟩ = some (.string a0_5) := (blk_cell BK844.out 5).trans rfl; have hcz16_6 : w15.cell? ⟨gb844, 6, none⟩ = some (.string a0_6) := (blk_cell BK844.out 6).trans rfl; have hfz16_0 := blk_frozen BK844.out 0; have hfz16_1 := blk_frozen BK844.out 1; have hfz16_2 := blk_frozen BK844.out 2; have hfz16_3 := blk_frozen BK844.out 3; have hfz16_4 := blk_frozen BK844.out 4; have hfz16_5 := blk_frozen BK844.out 5; have hfz16_6 := blk_frozen BK844.out 6; have hcz17_0 : w15.cell? ⟨gb845, 0, none⟩ = some (.int .i64 a1_0) := (blk_cell BK845.out 0).trans rfl; have hcz17_1 : w15.cell? ⟨gb845, 1, none⟩ = some (.int .i64 a1_1) := (blk_cell BK845.out 1).trans rfl; have hcz17_2 : w15.cell? ⟨gb845, 2, none⟩ = some (.int .i64 a1_2) := (blk_cell BK845.out 2).trans rfl; have hcz17_3 : w15.cell? ⟨gb845, 3, none⟩ = some (.int .i64 a1_3) := (blk_cell BK845.out 3).trans rfl; have hcz17_4 : w15.cell? ⟨gb845, 4, none⟩ = some (.string a1_4) := (blk_cell BK845.out 4).trans rfl; have hcz17_5 : w15.cell? ⟨gb845, 5, none⟩ = some (.string a1_5) := (blk_cell BK845.out 5).trans rfl; have hcz17_6 : w15.cell? ⟨gb845, 6, none⟩ = some (.string a1_6) := (blk_cell BK845.out 6).trans rfl; have hfz17_0 := blk_frozen BK845.out 0; have hfz17_1 := blk_frozen BK845.out 1; have hfz17_2 := blk_frozen BK845.out 2; have hfz17_3 := blk_frozen BK845.out 3; have hfz17_4 := blk_frozen BK845.out 4; have hfz17_5 := blk_frozen BK845.out 5; have hfz17_6 := blk_frozen BK845.out 6) | ((with_reducible refine gate_callee (f := 96) rfl ?_); refine goesL_ (some 15) rfl rfl Try.func96 (by kernel_rfl) rfl #[.agg #[.int .i64 a0_2, .int .i64 a0_3], .agg #[.int .i64 a1_2, .int .i64 a1_3]] rfl (by (try simp only [List.map_toArray, List.map_cons, List.map_nil]); first | done | rfl | (simp only [List.length_drop, List.length_take]; rfl)) ?_; (with_reducible refine (laws_eqEndPoint.calls a0_2 a0_3 a1_2 a1_3 true _ A5.out).mono ?_); rintro e w18 ⟨rfl, hb⟩; refine ⟨_, rfl, ?_⟩; have n0_ := bkB BK844 hb; have n1_ := bkB BK845 hb; have n2_ := Aside0.mk (below_step (bl HB) hb); clear BK844; clear BK845; clear HB; have BK844 := n0_; have BK845 := n1_; have HB := n2_; clear n0_ n1_ n2_; (try clear hb); (try clear hb2); (try clear hk); (try clear hi); have hcz19_0 : w18.cell? ⟨gb844, 0, none⟩ = some (.int .i64 a0_0) := (blk_cell BK844.out 0).trans rfl; have hcz19_1 : w18.cell? ⟨gb844, 1, none⟩ = some (.int .i64 a0_1) := (blk_cell BK844.out 1).trans rfl; have hcz19_2 : w18.cell? ⟨gb844, 2, none⟩ = some (.int .i64 a0_2) := (blk_cell BK844.out 2).trans rfl; have hcz19_3 : w18.cell? ⟨gb844, 3, none⟩ = some (.int .i64 a0_3) := (blk_cell BK844.out 3).trans rfl; have hcz19_4 : w18.cell? ⟨gb844, 4, none⟩ = some (.string a0_4) := (blk_cell BK844.out 4).trans rfl; have hcz19_5 : w18.cell? ⟨gb844, 5, none⟩ = some (.string a0_5) := (blk_cell BK844.out 5).trans rfl; have hcz19_6 : w18.cell? ⟨gb844, 6, none⟩ = some (.string a0_6) := (blk_cell BK844.out 6).trans rfl; have hfz19_0 := blk_frozen BK844.out 0; have hfz19_1 := blk_frozen BK844.out 1; have hfz19_2 := blk_frozen BK844.out 2; have hfz19_3 := blk_frozen BK844.out 3; have hfz19_4 := blk_frozen BK844.out 4; have hfz19_5 := blk_frozen BK844.out 5; have hfz19_6 := blk_frozen BK844.out 6; have hcz20_0 : w18.cell? ⟨gb845, 0, none⟩ = some (.int .i64 a1_0) := (blk_cell BK845.out 0).trans rfl; have hcz20_1 : w18.cell? ⟨gb845, 1, none⟩ = some (.int .i64 a1_1) := (blk_cell BK845.out 1).trans rfl; have hcz20_2 : w18.cell? ⟨gb845, 2, none⟩ = some (.int .i64 a1_2) := (blk_cell BK845.out 2).trans rfl; have hcz20_3 : w18.cell? ⟨gb845, 3, none⟩ = some (.int .i64 a1_3) := (blk_cell BK845.out 3).trans rfl; have hcz20_4 : w18.cell? ⟨gb845, 4, none⟩ = some (.string a1_4) := (blk_cell BK845.out 4).trans rfl; have hcz20_5 : w18.cell? ⟨gb845, 5, none⟩ = some (.string a1_5) := (blk_cell BK845.out 5).trans rfl; have hcz20_6 : w18.cell? ⟨gb845, 6, none⟩ = some (.string a1_6) := (blk_cell BK845.out 6).trans rfl; have hfz20_0 := blk_frozen BK845.out 0; have hfz20_1 := blk_frozen BK845.out 1; have hfz20_2 := blk_frozen BK845.out 2; have hfz20_3 := blk_frozen BK845.out 3; have hfz20_4 := blk_frozen BK845.out 4; have hfz20_5 := blk_frozen BK845.out 5; have hfz20_6 := blk_frozen BK845.out 6))
            go_ret
            exact ⟨by first | rfl | (simp [errW_none, errW_some] <;> rfl) | (simp [*, errW_none, errW_some] <;> rfl), by repeat (first | (with_reducible first | exact HB.out | apply below_alloc | apply pw_below_drewN | apply below_drew1 | refine below_set ?_ GE844.out | refine below_set ?_ GE845.out) | exact HB.out)⟩
          · rw [if_neg c9] at H
            have c9b0 : (a0_6.toList == a1_6.toList) = false := beq_eq_false_iff_ne.mpr c9
            have c9b1 : (a0_6.toList != a1_6.toList) = true := bne_iff_ne.mpr c9
            obtain rfl := Option.some.inj H
            go_enter Try.func98, Try.ntmps98
            go_wp2_with (first | ((with_reducible refine gate_dst (N := 2) rfl ?_); refine box_event ?hg (N := 2) ?hd (cs := #[.int .i64 a0_0, .int .i64 a0_1, .int .i64 a0_2, .int .i64 a0_3, .string a0_4, .string a0_5, .string a0_6]) (t := 119) ?hr ?_; (case hd => rfl); (case hg => rfl); (case hr => first | (go_simp; done) | (go_simp; rfl)); intro gb844 hg w21 hbox hb; have n0_ := Aside0.mk (below_step (bl HB) hb); have n1_ := Aside0.mk (hbox); have n2_ := Aside0.mk ((by rw [hg]; exact (below_size (bl HB)) : w.heap.size ≤ gb844)); have n3_ := Aside0.mk ((by rw [hg]; exact (below_size (bl HB)) : w.heap.size ≤ gb844)); clear HB; have HB := n0_; have BK844 := n1_; have GW844 := n2_; have GE844 := n3_; clear n0_ n1_ n2_ n3_; clear hb hbox hg) | ((with_reducible refine gate_dst (N := 3) rfl ?_); refine box_event ?hg (N := 3) ?hd (cs := #[.int .i64 a1_0, .int .i64 a1_1, .int .i64 a1_2, .int .i64 a1_3, .string a1_4, .string a1_5, .string a1_6]) (t := 119) ?hr ?_; (case hd => rfl); (case hg => rfl); (case hr => first | (go_simp; done) | (go_simp; rfl)); intro gb845 hg w22 hbox hb; have n0_ := bkB BK844 hb; have n1_ := Aside0.mk (below_step (bl HB) hb); have n2_ := Aside0.mk (hbox); have n3_ := Aside0.mk ((by rw [hg]; exact (below_size (bl HB)) : w.heap.size ≤ gb845)); have n4_ := Aside0.mk ((by rw [hg]; exact (below_size (bl HB)) : w.heap.size ≤ gb845)); have n5_ := Aside0.mk ((by rw [hg]; exact Nat.ne_of_lt (bkL BK844) : gb844 ≠ gb845)); have n6_ := Aside0.mk ((by rw [hg]; exact Nat.ne_of_gt (bkL BK844) : gb845 ≠ gb844)); clear BK844; clear HB; have BK844 := n0_; have HB := n1_; have BK845 := n2_; have GW845 := n3_; have GE845 := n4_; have NB844_845 := n5_; have NB845_844 := n6_; clear n0_ n1_ n2_ n3_ n4_ n5_ n6_; clear hb hbox hg; have hnb23 := NB844_845.out; have hnc23 := NB845_844.out; have hcz24_0 : w22.cell? ⟨gb844, 0, none⟩ = some (.int .i64 a0_0) := (blk_cell BK844.out 0).trans rfl; have hcz24_1 : w22.cell? ⟨gb844, 1, none⟩ = some (.int .i64 a0_1) := (blk_cell BK844.out 1).trans rfl; have hcz24_2 : w22.cell? ⟨gb844, 2, none⟩ = some (.int .i64 a0_2) := (blk_cell BK844.out 2).trans rfl; have hcz24_3 : w22.cell? ⟨gb844, 3, none⟩ = some (.int .i64 a0_3) := (blk_cell BK844.out 3).trans rfl; have hcz24_4 : w22.cell? ⟨gb844, 4, none⟩ = some (.string a0_4) := (blk_cell BK844.out 4).trans rfl; have hcz24_5 : w22.cell? ⟨gb844, 5, none⟩ = some (.string a0_5) := (blk_cell BK844.out 5).trans rfl; have hcz24_6 : w22.cell? ⟨gb844, 6, none⟩ = some (.string a0_6) := (blk_cell BK844.out 6).trans rfl; have hfz24_0 := blk_frozen BK844.out 0; have hfz24_1 := blk_frozen BK844.out 1; have hfz24_2 := blk_frozen BK844.out 2; have hfz24_3 := blk_frozen BK844.out 3; have hfz24_4 := blk_frozen BK844.out 4; have hfz24_5 := blk_frozen BK844.out 5; have hfz24_6 := blk_frozen BK844.out 6; have hcz25_0 : w22.cell? ⟨gb845, 0, none⟩ = some (.int .i64 a1_0) := (blk_cell BK845.out 0).trans rfl; have hcz25_1 : w22.cell? ⟨gb845, 1, none⟩ = some (.int .i64 a1_1) := (blk_cell BK845.out 1).trans rfl; have hcz25_2 : w22.cell? ⟨gb845, 2, none⟩ = some (.int .i64 a1_2) := (blk_cell BK845.out 2).trans rfl; have hcz25_3 : w22.cell? ⟨gb845, 3, none⟩ = some (.int .i64 a1_3) := (blk_cell BK845.out 3).trans rfl; have hcz25_4 : w22.cell? ⟨gb845, 4, none⟩ = some (.string a1_4) := (blk_cell BK845.out 4).trans rfl; have hcz25_5 : w22.cell? ⟨gb845, 5, none⟩ = some (.string a1_5) := (blk_cell BK845.out 5).trans rfl; have hcz25_6 : w22.cell? ⟨gb845, 6, none⟩ = some (.string a1_6) := (blk_cell BK845.out 6).trans rfl; have hfz25_0 := blk_frozen BK845.out 0; have hfz25_1 := blk_frozen BK845.out 1; have hfz25_2 := blk_frozen BK845.out 2; have hfz25_3 := blk_frozen BK845.out 3; have hfz25_4 := blk_frozen BK845.out 4; have hfz25_5 := blk_frozen BK845.out 5; have hfz25_6 := blk_frozen BK845.out 6) | ((with_reducible refine gate_callee (f := 96) rfl ?_); refine goesL_ (some 9) rfl rfl Try.func96 (by kernel_rfl) rfl #[.agg #[.int .i64 a0_0, .int .i64 a0_1], .agg #[.int .i64 a1_0, .int .i64 a1_1]] rfl (by (try simp only [List.map_toArray, List.map_cons, List.map_nil]); first | done | rfl | (simp only [List.length_drop, List.length_take]; rfl)) ?_; (with_reducible refine (laws_eqEndPoint.calls a0_0 a0_1 a1_0 a1_1 true _ A3.out).mono ?_); rintro e w26 ⟨rfl, hb⟩; refine ⟨_, rfl, ?_⟩; have n0_ := bkB BK844 hb; have n1_ := bkB BK845 hb; have n2_ := Aside0.mk (below_step (bl HB) hb); clear BK844; clear BK845; clear HB; have BK844 := n0_; have BK845 := n1_; have HB := n2_; clear n0_ n1_ n2_; (try clear hb); (try clear hb2); (try clear hk); (try clear hi); have hcz27_0 : w26.cell? ⟨gb844, 0, none⟩ = some (.int .i64 a0_0) := (blk_cell BK844.out 0).trans rfl; have hcz27_1 : w26.cell? ⟨gb844, 1, none⟩ = some (.int .i64 a0_1) := (blk_cell BK844.out 1).trans rfl; have hcz27_2 : w26.cell? ⟨gb844, 2, none⟩ = some (.int .i64 a0_2) := (blk_cell BK844.out 2).trans rfl; have hcz27_3 : w26.cell? ⟨gb844, 3, none⟩ = some (.int .i64 a0_3) := (blk_cell BK844.out 3).trans rfl; have hcz27_4 : w26.cell? ⟨gb844, 4, none⟩ = some (.string a0_4) := (blk_cell BK844.out 4).trans rfl; have hcz27_5 : w26.cell? ⟨gb844, 5, none⟩ = some (.string a0_5) := (blk_cell BK844.out 5).trans rfl; have hcz27_6 : w26.cell? ⟨gb844, 6, none⟩ = some (.string a0_6) := (blk_cell BK844.out 6).trans rfl; have hfz27_0 := blk_frozen BK844.out 0; have hfz27_1 := blk_frozen BK844.out 1; have hfz27_2 := blk_frozen BK844.out 2; have hfz27_3 := blk_frozen BK844.out 3; have hfz27_4 := blk_frozen BK844.out 4; have hfz27_5 := blk_frozen BK844.out 5; have hfz27_6 := blk_frozen BK844.out 6; have hcz28_0 : w26.cell? ⟨gb845, 0, none⟩ = some (.int .i64 a1_0) := (blk_cell BK845.out 0).trans rfl; have hcz28_1 : w26.cell? ⟨gb845, 1, none⟩ = some (.int .i64 a1_1) := (blk_cell BK845.out 1).trans rfl; have hcz28_2 : w26.cell? ⟨gb845, 2, none⟩ = some (.int .i64 a1_2) := (blk_cell BK845.out 2).trans rfl; have hcz28_3 : w26.cell? ⟨gb845, 3, none⟩ = some (.int .i64 a1_3) := (blk_cell BK845.out 3).trans rfl; have hcz28_4 : w26.cell? ⟨gb845, 4, none⟩ = some (.string a1_4) := (blk_cell BK845.out 4).trans rfl; have hcz28_5 : w26.cell? ⟨gb845, 5, none⟩ = some (.string a1_5) := (blk_cell BK845.out 5).trans rfl; have hcz28_6 : w26.cell? ⟨gb845, 6, none⟩ = some (.string a1_6) := (blk_cell BK845.out 6).trans rfl; have hfz28_0 := blk_frozen BK845.out 0; have hfz28_1 := blk_frozen BK845.out 1; have hfz28_2 := blk_frozen BK845.out 2; have hfz28_3 := blk_frozen BK845.out 3; have hfz28_4 := blk_frozen BK845.out 4; have hfz28_5 := blk_frozen BK845.out 5; have hfz28_6 := blk_frozen BK845.out 6) | ((with_reducible refine gate_callee (f := 96) rfl ?_); refine goesL_ (some 15) rfl rfl Try.func96 (by kernel_rfl) rfl #[.agg #[.int .i64 a0_2, .int .i64 a0_3], .agg #[.int .i64 a1_2, .int .i64 a1_3]] rfl (by (try simp only [List.map_toArray, List.map_cons, List.map_nil]); first | done | rfl | (simp only [List.length_drop, List.length_take]; rfl)) ?_; (with_reducible refine (laws_eqEndPoint.calls a0_2 a0_3 a1_2 a1_3 true _ A5.out).mono ?_); rintro e w29 ⟨rfl, hb⟩; refine ⟨_, rfl, ?_⟩; have n0_ := bkB BK844 hb; have n1_ := bkB BK845 hb; have n2_ := Aside0.mk (below_step (bl HB) hb); clear BK844; clear BK845; clear HB; have BK844 := n0_; have BK845 := n1_; have HB := n2_; clear n0_ n1_ n2_; (try clear hb); (try clear hb2); (try clear hk); (try clear hi); have hcz30_0 : w29.cell? ⟨gb844, 0, none⟩ = some (.int .i64 a0_0) := (blk_cell BK844.out 0).trans rfl; have hcz30_1 : w29.cell? ⟨gb844, 1, none⟩ = some (.int .i64 a0_1) := (blk_cell BK844.out 1).trans rfl; have hcz30_2 : w29.cell? ⟨gb844, 2, none⟩ = some (.int .i64 a0_2) := (blk_cell BK844.out 2).trans rfl; have hcz30_3 : w29.cell? ⟨gb844, 3, none⟩ = some (.int .i64 a0_3) := (blk_cell BK844.out 3).trans rfl; have hcz30_4 : w29.cell? ⟨gb844, 4, none⟩ = some (.string a0_4) := (blk_cell BK844.out 4).trans rfl; have hcz30_5 : w29.cell? ⟨gb844, 5, none⟩ = some (.string a0_5) := (blk_cell BK844.out 5).trans rfl; have hcz30_6 : w29.cell? ⟨gb844, 6, none⟩ = some (.string a0_6) := (blk_cell BK844.out 6).trans rfl; have hfz30_0 := blk_frozen BK844.out 0; have hfz30_1 := blk_frozen BK844.out 1; have hfz30_2 := blk_frozen BK844.out 2; have hfz30_3 := blk_frozen BK844.out 3; have hfz30_4 := blk_frozen BK844.out 4; have hfz30_5 := blk_frozen BK844.out 5; have hfz30_6 := blk_frozen BK844.out 6; have hcz31_0 : w29.cell? ⟨gb845, 0, none⟩ = some (.int .i64 a1_0) := (blk_cell BK845.out 0).trans rfl; have hcz31_1 : w29.cell? ⟨gb845, 1, none⟩ = some (.int .i64 a1_1) := (blk_cell BK845.out 1).trans rfl; have hcz31_2 : w29.cell? ⟨gb845, 2, none⟩ = some (.int .i64 a1_2) := (blk_cell BK845.out 2).trans rfl; have hcz31_3 : w29.cell? ⟨gb845, 3, none⟩ = some (.int .i64 a1_3) := (blk_cell BK845.out 3).trans rfl; have hcz31_4 : w29.cell? ⟨gb845, 4, none⟩ = some (.string a1_4) := (blk_cell BK845.out 4).trans rfl; have hcz31_5 : w29.cell? ⟨gb845, 5, none⟩ = some (.string a1_5) := (blk_cell BK845.out 5).trans rfl; have hcz31_6 : w29.cell? ⟨gb845, 6, none⟩ = some (.string a1_6) := (blk_cell BK845.out 6).trans rfl; have hfz31_0 := blk_frozen BK845.out 0; have hfz31_1 := blk_frozen BK845.out 1; have hfz31_2 := blk_frozen BK845.out 2; have hfz31_3 := blk_frozen BK845.out 3; have hfz31_4 := blk_frozen BK845.out 4; have hfz31_5 := blk_frozen BK845.out 5; have hfz31_6 := blk_frozen BK845.out 6))
            go_ret
            exact ⟨by first | rfl | (simp [errW_none, errW_some] <;> rfl) | (simp [*, errW_none, errW_some] <;> rfl), by repeat (first | (with_reducible first | exact HB.out | apply below_alloc | apply pw_below_drewN | apply below_drew1 | refine below_set ?_ GE844.out | refine below_set ?_ GE845.out) | exact HB.out)⟩
        · rw [if_neg c8] at H
          have c8b0 : (a0_5.toList == a1_5.toList) = false := beq_eq_false_iff_ne.mpr c8
          have c8b1 : (a0_5.toList != a1_5.toList) = true := bne_iff_ne.mpr c8
          obtain rfl := Option.some.inj H
          go_enter Try.func98, Try.ntmps98
          go_wp2_with (first | ((with_reducible refine gate_dst (N := 2) rfl ?_); refine box_event ?hg (N := 2) ?hd (cs := #[.int .i64 a0_0, .int .i64 a0_1, .int .i64 a0_2, .int .i64 a0_3, .string a0_4, .string a0_5, .string a0_6]) (t := 119) ?hr ?_; (case hd => rfl); (case hg => rfl); (case hr => first | (go_simp; done) | (go_simp; rfl)); intro gb844 hg w32 hbox hb; have n0_ := Aside0.mk (below_step (bl HB) hb); have n1_ := Aside0.mk (hbox); have n2_ := Aside0.mk ((by rw [hg]; exact (below_size (bl HB)) : w.heap.size ≤ gb844)); have n3_ := Aside0.mk ((by rw [hg]; exact (below_size (bl HB)) : w.heap.size ≤ gb844)); clear HB; have HB := n0_; have BK844 := n1_; have GW844 := n2_; have GE844 := n3_; clear n0_ n1_ n2_ n3_; clear hb hbox hg) | ((with_reducible refine gate_dst (N := 3) rfl ?_); refine box_event ?hg (N := 3) ?hd (cs := #[.int .i64 a1_0, .int .i64 a1_1, .int .i64 a1_2, .int .i64 a1_3, .string a1_4, .string a1_5, .string a1_6]) (t := 119) ?hr ?_; (case hd => rfl); (case hg => rfl); (case hr => first | (go_simp; done) | (go_simp; rfl)); intro gb845 hg w33 hbox hb; have n0_ := bkB BK844 hb; have n1_ := Aside0.mk (below_step (bl HB) hb); have n2_ := Aside0.mk (hbox); have n3_ := Aside0.mk ((by rw [hg]; exact (below_size (bl HB)) : w.heap.size ≤ gb845)); have n4_ := Aside0.mk ((by rw [hg]; exact (below_size (bl HB)) : w.heap.size ≤ gb845)); have n5_ := Aside0.mk ((by rw [hg]; exact Nat.ne_of_lt (bkL BK844) : gb844 ≠ gb845)); have n6_ := Aside0.mk ((by rw [hg]; exact Nat.ne_of_gt (bkL BK844) : gb845 ≠ gb844)); clear BK844; clear HB; have BK844 := n0_; have HB := n1_; have BK845 := n2_; have GW845 := n3_; have GE845 := n4_; have NB844_845 := n5_; have NB845_844 := n6_; clear n0_ n1_ n2_ n3_ n4_ n5_ n6_; clear hb hbox hg; have hnb34 := NB844_845.out; have hnc34 := NB845_844.out; have hcz35_0 : w33.cell? ⟨gb844, 0, none⟩ = some (.int .i64 a0_0) := (blk_cell BK844.out 0).trans rfl; have hcz35_1 : w33.cell? ⟨gb844, 1, none⟩ = some (.int .i64 a0_1) := (blk_cell BK844.out 1).trans rfl; have hcz35_2 : w33.cell? ⟨gb844, 2, none⟩ = some (.int .i64 a0_2) := (blk_cell BK844.out 2).trans rfl; have hcz35_3 : w33.cell? ⟨gb844, 3, none⟩ = some (.int .i64 a0_3) := (blk_cell BK844.out 3).trans rfl; have hcz35_4 : w33.cell? ⟨gb844, 4, none⟩ = some (.string a0_4) := (blk_cell BK844.out 4).trans rfl; have hcz35_5 : w33.cell? ⟨gb844, 5, none⟩ = some (.string a0_5) := (blk_cell BK844.out 5).trans rfl; have hcz35_6 : w33.cell? ⟨gb844, 6, none⟩ = some (.string a0_6) := (blk_cell BK844.out 6).trans rfl; have hfz35_0 := blk_frozen BK844.out 0; have hfz35_1 := blk_frozen BK844.out 1; have hfz35_2 := blk_frozen BK844.out 2; have hfz35_3 := blk_frozen BK844.out 3; have hfz35_4 := blk_frozen BK844.out 4; have hfz35_5 := blk_frozen BK844.out 5; have hfz35_6 := blk_frozen BK844.out 6; have hcz36_0 : w33.cell? ⟨gb845, 0, none⟩ = some (.int .i64 a1_0) := (blk_cell BK845.out 0).trans rfl; have hcz36_1 : w33.cell? ⟨gb845, 1, none⟩ = some (.int .i64 a1_1) := (blk_cell BK845.out 1).trans rfl; have hcz36_2 : w33.cell? ⟨gb845, 2, none⟩ = some (.int .i64 a1_2) := (blk_cell BK845.out 2).trans rfl; have hcz36_3 : w33.cell? ⟨gb845, 3, none⟩ = some (.int .i64 a1_3) := (blk_cell BK845.out 3).trans rfl; have hcz36_4 : w33.cell? ⟨gb845, 4, none⟩ = some (.string a1_4) := (blk_cell BK845.out 4).trans rfl; have hcz36_5 : w33.cell? ⟨gb845, 5, none⟩ = some (.string a1_5) := (blk_cell BK845.out 5).trans rfl; have hcz36_6 : w33.cell? ⟨gb845, 6, none⟩ = some (.string a1_6) := (blk_cell BK845.out 6).trans rfl; have hfz36_0 := blk_frozen BK845.out 0; have hfz36_1 := blk_frozen BK845.out 1; have hfz36_2 := blk_frozen BK845.out 2; have hfz36_3 := blk_frozen BK845.out 3; have hfz36_4 := blk_frozen BK845.out 4; have hfz36_5 := blk_frozen BK845.out 5; have hfz36_6 := blk_frozen BK845.out 6) | ((with_reducible refine gate_callee (f := 96) rfl ?_); refine goesL_ (some 9) rfl rfl Try.func96 (by kernel_rfl) rfl #[.agg #[.int .i64 a0_0, .int .i64 a0_1], .agg #[.int .i64 a1_0, .int .i64 a1_1]] rfl (by (try simp only [List.map_toArray, List.map_cons, List.map_nil]); first | done | rfl | (simp only [List.length_drop, List.length_take]; rfl)) ?_; (with_reducible refine (laws_eqEndPoint.calls a0_0 a0_1 a1_0 a1_1 true _ A3.out).mono ?_); rintro e w37 ⟨rfl, hb⟩; refine ⟨_, rfl, ?_⟩; have n0_ := bkB BK844 hb; have n1_ := bkB BK845 hb; have n2_ := Aside0.mk (below_step (bl HB) hb); clear BK844; clear BK845; clear HB; have BK844 := n0_; have BK845 := n1_; have HB := n2_; clear n0_ n1_ n2_; (try clear hb); (try clear hb2); (try clear hk); (try clear hi); have hcz38_0 : w37.cell? ⟨gb844, 0, none⟩ = some (.int .i64 a0_0) := (blk_cell BK844.out 0).trans rfl; have hcz38_1 : w37.cell? ⟨gb844, 1, none⟩ = some (.int .i64 a0_1) := (blk_cell BK844.out 1).trans rfl; have hcz38_2 : w37.cell? ⟨gb844, 2, none⟩ = some (.int .i64 a0_2) := (blk_cell BK844.out 2).trans rfl; have hcz38_3 : w37.cell? ⟨gb844, 3, none⟩ = some (.int .i64 a0_3) := (blk_cell BK844.out 3).trans rfl; have hcz38_4 : w37.cell? ⟨gb844, 4, none⟩ = some (.string a0_4) := (blk_cell BK844.out 4).trans rfl; have hcz38_5 : w37.cell? ⟨gb844, 5, none⟩ = some (.string a0_5) := (blk_cell BK844.out 5).trans rfl; have hcz38_6 : w37.cell? ⟨gb844, 6, none⟩ = some (.string a0_6) := (blk_cell BK844.out 6).trans rfl; have hfz38_0 := blk_frozen BK844.out 0; have hfz38_1 := blk_frozen BK844.out 1; have hfz38_2 := blk_frozen BK844.out 2; have hfz38_3 := blk_frozen BK844.out 3; have hfz38_4 := blk_frozen BK844.out 4; have hfz38_5 := blk_frozen BK844.out 5; have hfz38_6 := blk_frozen BK844.out 6; have hcz39_0 : w37.cell? ⟨gb845, 0, none⟩ = some (.int .i64 a1_0) := (blk_cell BK845.out 0).trans rfl; have hcz39_1 : w37.cell? ⟨gb845, 1, none⟩ = some (.int .i64 a1_1) := (blk_cell BK845.out 1).trans rfl; have hcz39_2 : w37.cell? ⟨gb845, 2, none⟩ = some (.int .i64 a1_2) := (blk_cell BK845.out 2).trans rfl; have hcz39_3 : w37.cell? ⟨gb845, 3, none⟩ = some (.int .i64 a1_3) := (blk_cell BK845.out 3).trans rfl; have hcz39_4 : w37.cell? ⟨gb845, 4, none⟩ = some (.string a1_4) := (blk_cell BK845.out 4).trans rfl; have hcz39_5 : w37.cell? ⟨gb845, 5, none⟩ = some (.string a1_5) := (blk_cell BK845.out 5).trans rfl; have hcz39_6 : w37.cell? ⟨gb845, 6, none⟩ = some (.string a1_6) := (blk_cell BK845.out 6).trans rfl; have hfz39_0 := blk_frozen BK845.out 0; have hfz39_1 := blk_frozen BK845.out 1; have hfz39_2 := blk_frozen BK845.out 2; have hfz39_3 := blk_frozen BK845.out 3; have hfz39_4 := blk_frozen BK845.out 4; have hfz39_5 := blk_frozen BK845.out 5; have hfz39_6 := blk_frozen BK845.out 6) | ((with_reducible refine gate_callee (f := 96) rfl ?_); refine goesL_ (some 15) rfl rfl Try.func96 (by kernel_rfl) rfl #[.agg #[.int .i64 a0_2, .int .i64 a0_3], .agg #[.int .i64 a1_2, .int .i64 a1_3]] rfl (by (try simp only [List.map_toArray, List.map_cons, List.map_nil]); first | done | rfl | (simp only [List.length_drop, List.length_take]; rfl)) ?_; (with_reducible refine (laws_eqEndPoint.calls a0_2 a0_3 a1_2 a1_3 true _ A5.out).mono ?_); rintro e w40 ⟨rfl, hb⟩; refine ⟨_, rfl, ?_⟩; have n0_ := bkB BK844 hb; have n1_ := bkB BK845 hb; have n2_ := Aside0.mk (below_step (bl HB) hb); clear BK844; clear BK845; clear HB; have BK844 := n0_; have BK845 := n1_; have HB := n2_; clear n0_ n1_ n2_; (try clear hb); (try clear hb2); (try clear hk); (try clear hi); have hcz41_0 : w40.cell? ⟨gb844, 0, none⟩ = some (.int .i64 a0_0) := (blk_cell BK844.out 0).trans rfl; have hcz41_1 : w40.cell? ⟨gb844, 1, none⟩ = some (.int .i64 a0_1) := (blk_cell BK844.out 1).trans rfl; have hcz41_2 : w40.cell? ⟨gb844, 2, none⟩ = some (.int .i64 a0_2) := (blk_cell BK844.out 2).trans rfl; have hcz41_3 : w40.cell? ⟨gb844, 3, none⟩ = some (.int .i64 a0_3) := (blk_cell BK844.out 3).trans rfl; have hcz41_4 : w40.cell? ⟨gb844, 4, none⟩ = some (.string a0_4) := (blk_cell BK844.out 4).trans rfl; have hcz41_5 : w40.cell? ⟨gb844, 5, none⟩ = some (.string a0_5) := (blk_cell BK844.out 5).trans rfl; have hcz41_6 : w40.cell? ⟨gb844, 6, none⟩ = some (.string a0_6) := (blk_cell BK844.out 6).trans rfl; have hfz41_0 := blk_frozen BK844.out 0; have hfz41_1 := blk_frozen BK844.out 1; have hfz41_2 := blk_frozen BK844.out 2; have hfz41_3 := blk_frozen BK844.out 3; have hfz41_4 := blk_frozen BK844.out 4; have hfz41_5 := blk_frozen BK844.out 5; have hfz41_6 := blk_frozen BK844.out 6; have hcz42_0 : w40.cell? ⟨gb845, 0, none⟩ = some (.int .i64 a1_0) := (blk_cell BK845.out 0).trans rfl; have hcz42_1 : w40.cell? ⟨gb845, 1, none⟩ = some (.int .i64 a1_1) := (blk_cell BK845.out 1).trans rfl; have hcz42_2 : w40.cell? ⟨gb845, 2, none⟩ = some (.int .i64 a1_2) := (blk_cell BK845.out 2).trans rfl; have hcz42_3 : w40.cell? ⟨gb845, 3, none⟩ = some (.int .i64 a1_3) := (blk_cell BK845.out 3).trans rfl; have hcz42_4 : w40.cell? ⟨gb845, 4, none⟩ = some (.string a1_4) := (blk_cell BK845.out 4).trans rfl; have hcz42_5 : w40.cell? ⟨gb845, 5, none⟩ = some (.string a1_5) := (blk_cell BK845.out 5).trans rfl; have hcz42_6 : w40.cell? ⟨gb845, 6, none⟩ = some (.string a1_6) := (blk_cell BK845.out 6).trans rfl; have hfz42_0 := blk_frozen BK845.out 0; have hfz42_1 := blk_frozen BK845.out 1; have hfz42_2 := blk_frozen BK845.out 2; have hfz42_3 := blk_frozen BK845.out 3; have hfz42_4 := blk_frozen BK845.out 4; have hfz42_5 := blk_frozen BK845.out 5; have hfz42_6 := blk_frozen BK845.out 6))
          go_ret
          exact ⟨by first | rfl | (simp [errW_none, errW_some] <;> rfl) | (simp [*, errW_none, errW_some] <;> rfl), by repeat (first | (with_reducible first | exact HB.out | apply below_alloc | apply pw_below_drewN | apply below_drew1 | refine below_set ?_ GE844.out | refine below_set ?_ GE845.out) | exact HB.out)⟩
      · rw [if_neg c7] at H
        have c7b0 : (a0_4.toList == a1_4.toList) = false := beq_eq_false_iff_ne.mpr c7
        have c7b1 : (a0_4.toList != a1_4.toList) = true := bne_iff_ne.mpr c7
        obtain rfl := Option.some.inj H
        go_enter Try.func98, Try.ntmps98
        go_wp2_with (first | ((with_reducible refine gate_dst (N := 2) rfl ?_); refine box_event ?hg (N := 2) ?hd (cs := #[.int .i64 a0_0, .int .i64 a0_1, .int .i64 a0_2, .int .i64 a0_3, .string a0_4, .string a0_5, .string a0_6]) (t := 119) ?hr ?_; (case hd => rfl); (case hg => rfl); (case hr => first | (go_simp; done) | (go_simp; rfl)); intro gb844 hg w43 hbox hb; have n0_ := Aside0.mk (below_step (bl HB) hb); have n1_ := Aside0.mk (hbox); have n2_ := Aside0.mk ((by rw [hg]; exact (below_size (bl HB)) : w.heap.size ≤ gb844)); have n3_ := Aside0.mk ((by rw [hg]; exact (below_size (bl HB)) : w.heap.size ≤ gb844)); clear HB; have HB := n0_; have BK844 := n1_; have GW844 := n2_; have GE844 := n3_; clear n0_ n1_ n2_ n3_; clear hb hbox hg) | ((with_reducible refine gate_dst (N := 3) rfl ?_); refine box_event ?hg (N := 3) ?hd (cs := #[.int .i64 a1_0, .int .i64 a1_1, .int .i64 a1_2, .int .i64 a1_3, .string a1_4, .string a1_5, .string a1_6]) (t := 119) ?hr ?_; (case hd => rfl); (case hg => rfl); (case hr => first | (go_simp; done) | (go_simp; rfl)); intro gb845 hg w44 hbox hb; have n0_ := bkB BK844 hb; have n1_ := Aside0.mk (below_step (bl HB) hb); have n2_ := Aside0.mk (hbox); have n3_ := Aside0.mk ((by rw [hg]; exact (below_size (bl HB)) : w.heap.size ≤ gb845)); have n4_ := Aside0.mk ((by rw [hg]; exact (below_size (bl HB)) : w.heap.size ≤ gb845)); have n5_ := Aside0.mk ((by rw [hg]; exact Nat.ne_of_lt (bkL BK844) : gb844 ≠ gb845)); have n6_ := Aside0.mk ((by rw [hg]; exact Nat.ne_of_gt (bkL BK844) : gb845 ≠ gb844)); clear BK844; clear HB; have BK844 := n0_; have HB := n1_; have BK845 := n2_; have GW845 := n3_; have GE845 := n4_; have NB844_845 := n5_; have NB845_844 := n6_; clear n0_ n1_ n2_ n3_ n4_ n5_ n6_; clear hb hbox hg; have hnb45 := NB844_845.out; have hnc45 := NB845_844.out; have hcz46_0 : w44.cell? ⟨gb844, 0, none⟩ = some (.int .i64 a0_0) := (blk_cell BK844.out 0).trans rfl; have hcz46_1 : w44.cell? ⟨gb844, 1, none⟩ = some (.int .i64 a0_1) := (blk_cell BK844.out 1).trans rfl; have hcz46_2 : w44.cell? ⟨gb844, 2, none⟩ = some (.int .i64 a0_2) := (blk_cell BK844.out 2).trans rfl; have hcz46_3 : w44.cell? ⟨gb844, 3, none⟩ = some (.int .i64 a0_3) := (blk_cell BK844.out 3).trans rfl; have hcz46_4 : w44.cell? ⟨gb844, 4, none⟩ = some (.string a0_4) := (blk_cell BK844.out 4).trans rfl; have hcz46_5 : w44.cell? ⟨gb844, 5, none⟩ = some (.string a0_5) := (blk_cell BK844.out 5).trans rfl; have hcz46_6 : w44.cell? ⟨gb844, 6, none⟩ = some (.string a0_6) := (blk_cell BK844.out 6).trans rfl; have hfz46_0 := blk_frozen BK844.out 0; have hfz46_1 := blk_frozen BK844.out 1; have hfz46_2 := blk_frozen BK844.out 2; have hfz46_3 := blk_frozen BK844.out 3; have hfz46_4 := blk_frozen BK844.out 4; have hfz46_5 := blk_frozen BK844.out 5; have hfz46_6 := blk_frozen BK844.out 6; have hcz47_0 : w44.cell? ⟨gb845, 0, none⟩ = some (.int .i64 a1_0) := (blk_cell BK845.out 0).trans rfl; have hcz47_1 : w44.cell? ⟨gb845, 1, none⟩ = some (.int .i64 a1_1) := (blk_cell BK845.out 1).trans rfl; have hcz47_2 : w44.cell? ⟨gb845, 2, none⟩ = some (.int .i64 a1_2) := (blk_cell BK845.out 2).trans rfl; have hcz47_3 : w44.cell? ⟨gb845, 3, none⟩ = some (.int .i64 a1_3) := (blk_cell BK845.out 3).trans rfl; have hcz47_4 : w44.cell? ⟨gb845, 4, none⟩ = some (.string a1_4) := (blk_cell BK845.out 4).trans rfl; have hcz47_5 : w44.cell? ⟨gb845, 5, none⟩ = some (.string a1_5) := (blk_cell BK845.out 5).trans rfl; have hcz47_6 : w44.cell? ⟨gb845, 6, none⟩ = some (.string a1_6) := (blk_cell BK845.out 6).trans rfl; have hfz47_0 := blk_frozen BK845.out 0; have hfz47_1 := blk_frozen BK845.out 1; have hfz47_2 := blk_frozen BK845.out 2; have hfz47_3 := blk_frozen BK845.out 3; have hfz47_4 := blk_frozen BK845.out 4; have hfz47_5 := blk_frozen BK845.out 5; have hfz47_6 := blk_frozen BK845.out 6) | ((with_reducible refine gate_callee (f := 96) rfl ?_); refine goesL_ (some 9) rfl rfl Try.func96 (by kernel_rfl) rfl #[.agg #[.int .i64 a0_0, .int .i64 a0_1], .agg #[.int .i64 a1_0, .int .i64 a1_1]] rfl (by (try simp only [List.map_toArray, List.map_cons, List.map_nil]); first | done | rfl | (simp only [List.length_drop, List.length_take]; rfl)) ?_; (with_reducible refine (laws_eqEndPoint.calls a0_0 a0_1 a1_0 a1_1 true _ A3.out).mono ?_); rintro e w48 ⟨rfl, hb⟩; refine ⟨_, rfl, ?_⟩; have n0_ := bkB BK844 hb; have n1_ := bkB BK845 hb; have n2_ := Aside0.mk (below_step (bl HB) hb); clear BK844; clear BK845; clear HB; have BK844 := n0_; have BK845 := n1_; have HB := n2_; clear n0_ n1_ n2_; (try clear hb); (try clear hb2); (try clear hk); (try clear hi); have hcz49_0 : w48.cell? ⟨gb844, 0, none⟩ = some (.int .i64 a0_0) := (blk_cell BK844.out 0).trans rfl; have hcz49_1 : w48.cell? ⟨gb844, 1, none⟩ = some (.int .i64 a0_1) := (blk_cell BK844.out 1).trans rfl; have hcz49_2 : w48.cell? ⟨gb844, 2, none⟩ = some (.int .i64 a0_2) := (blk_cell BK844.out 2).trans rfl; have hcz49_3 : w48.cell? ⟨gb844, 3, none⟩ = some (.int .i64 a0_3) := (blk_cell BK844.out 3).trans rfl; have hcz49_4 : w48.cell? ⟨gb844, 4, none⟩ = some (.string a0_4) := (blk_cell BK844.out 4).trans rfl; have hcz49_5 : w48.cell? ⟨gb844, 5, none⟩ = some (.string a0_5) := (blk_cell BK844.out 5).trans rfl; have hcz49_6 : w48.cell? ⟨gb844, 6, none⟩ = some (.string a0_6) := (blk_cell BK844.out 6).trans rfl; have hfz49_0 := blk_frozen BK844.out 0; have hfz49_1 := blk_frozen BK844.out 1; have hfz49_2 := blk_frozen BK844.out 2; have hfz49_3 := blk_frozen BK844.out 3; have hfz49_4 := blk_frozen BK844.out 4; have hfz49_5 := blk_frozen BK844.out 5; have hfz49_6 := blk_frozen BK844.out 6; have hcz50_0 : w48.cell? ⟨gb845, 0, none⟩ = some (.int .i64 a1_0) := (blk_cell BK845.out 0).trans rfl; have hcz50_1 : w48.cell? ⟨gb845, 1, none⟩ = some (.int .i64 a1_1) := (blk_cell BK845.out 1).trans rfl; have hcz50_2 : w48.cell? ⟨gb845, 2, none⟩ = some (.int .i64 a1_2) := (blk_cell BK845.out 2).trans rfl; have hcz50_3 : w48.cell? ⟨gb845, 3, none⟩ = some (.int .i64 a1_3) := (blk_cell BK845.out 3).trans rfl; have hcz50_4 : w48.cell? ⟨gb845, 4, none⟩ = some (.string a1_4) := (blk_cell BK845.out 4).trans rfl; have hcz50_5 : w48.cell? ⟨gb845, 5, none⟩ = some (.string a1_5) := (blk_cell BK845.out 5).trans rfl; have hcz50_6 : w48.cell? ⟨gb845, 6, none⟩ = some (.string a1_6) := (blk_cell BK845.out 6).trans rfl; have hfz50_0 := blk_frozen BK845.out 0; have hfz50_1 := blk_frozen BK845.out 1; have hfz50_2 := blk_frozen BK845.out 2; have hfz50_3 := blk_frozen BK845.out 3; have hfz50_4 := blk_frozen BK845.out 4; have hfz50_5 := blk_frozen BK845.out 5; have hfz50_6 := blk_frozen BK845.out 6) | ((with_reducible refine gate_callee (f := 96) rfl ?_); refine goesL_ (some 15) rfl rfl Try.func96 (by kernel_rfl) rfl #[.agg #[.int .i64 a0_2, .int .i64 a0_3], .agg #[.int .i64 a1_2, .int .i64 a1_3]] rfl (by (try simp only [List.map_toArray, List.map_cons, List.map_nil]); first | done | rfl | (simp only [List.length_drop, List.length_take]; rfl)) ?_; (with_reducible refine (laws_eqEndPoint.calls a0_2 a0_3 a1_2 a1_3 true _ A5.out).mono ?_); rintro e w51 ⟨rfl, hb⟩; refine ⟨_, rfl, ?_⟩; have n0_ := bkB BK844 hb; have n1_ := bkB BK845 hb; have n2_ := Aside0.mk (below_step (bl HB) hb); clear BK844; clear BK845; clear HB; have BK844 := n0_; have BK845 := n1_; have HB := n2_; clear n0_ n1_ n2_; (try clear hb); (try clear hb2); (try clear hk); (try clear hi); have hcz52_0 : w51.cell? ⟨gb844, 0, none⟩ = some (.int .i64 a0_0) := (blk_cell BK844.out 0).trans rfl; have hcz52_1 : w51.cell? ⟨gb844, 1, none⟩ = some (.int .i64 a0_1) := (blk_cell BK844.out 1).trans rfl; have hcz52_2 : w51.cell? ⟨gb844, 2, none⟩ = some (.int .i64 a0_2) := (blk_cell BK844.out 2).trans rfl; have hcz52_3 : w51.cell? ⟨gb844, 3, none⟩ = some (.int .i64 a0_3) := (blk_cell BK844.out 3).trans rfl; have hcz52_4 : w51.cell? ⟨gb844, 4, none⟩ = some (.string a0_4) := (blk_cell BK844.out 4).trans rfl; have hcz52_5 : w51.cell? ⟨gb844, 5, none⟩ = some (.string a0_5) := (blk_cell BK844.out 5).trans rfl; have hcz52_6 : w51.cell? ⟨gb844, 6, none⟩ = some (.string a0_6) := (blk_cell BK844.out 6).trans rfl; have hfz52_0 := blk_frozen BK844.out 0; have hfz52_1 := blk_frozen BK844.out 1; have hfz52_2 := blk_frozen BK844.out 2; have hfz52_3 := blk_frozen BK844.out 3; have hfz52_4 := blk_frozen BK844.out 4; have hfz52_5 := blk_frozen BK844.out 5; have hfz52_6 := blk_frozen BK844.out 6; have hcz53_0 : w51.cell? ⟨gb845, 0, none⟩ = some (.int .i64 a1_0) := (blk_cell BK845.out 0).trans rfl; have hcz53_1 : w51.cell? ⟨gb845, 1, none⟩ = some (.int .i64 a1_1) := (blk_cell BK845.out 1).trans rfl; have hcz53_2 : w51.cell? ⟨gb845, 2, none⟩ = some (.int .i64 a1_2) := (blk_cell BK845.out 2).trans rfl; have hcz53_3 : w51.cell? ⟨gb845, 3, none⟩ = some (.int .i64 a1_3) := (blk_cell BK845.out 3).trans rfl; have hcz53_4 : w51.cell? ⟨gb845, 4, none⟩ = some (.string a1_4) := (blk_cell BK845.out 4).trans rfl; have hcz53_5 : w51.cell? ⟨gb845, 5, none⟩ = some (.string a1_5) := (blk_cell BK845.out 5).trans rfl; have hcz53_6 : w51.cell? ⟨gb845, 6, none⟩ = some (.string a1_6) := (blk_cell BK845.out 6).trans rfl; have hfz53_0 := blk_frozen BK845.out 0; have hfz53_1 := blk_frozen BK845.out 1; have hfz53_2 := blk_frozen BK845.out 2; have hfz53_3 := blk_frozen BK845.out 3; have hfz53_4 := blk_frozen BK845.out 4; have hfz53_5 := blk_frozen BK845.out 5; have hfz53_6 := blk_frozen BK845.out 6))
        go_ret
        exact ⟨by first | rfl | (simp [errW_none, errW_some] <;> rfl) | (simp [*, errW_none, errW_some] <;> rfl), by repeat (first | (with_reducible first | exact HB.out | apply below_alloc | apply pw_below_drewN | apply below_drew1 | refine below_set ?_ GE844.out | refine below_set ?_ GE845.out) | exact HB.out)⟩
    · replace c6 := Bool.eq_false_iff.mpr c6
      subst c6
      have H1 : (some false) = some r := by rw [if_neg (show ¬ (false = true) by decide)] at H; exact H
      clear H
      have H := H1
      clear H1
      obtain rfl := Option.some.inj H
      go_enter Try.func98, Try.ntmps98
      go_wp2_with (first | ((with_reducible refine gate_dst (N := 2) rfl ?_); refine box_event ?hg (N := 2) ?hd (cs := #[.int .i64 a0_0, .int .i64 a0_1, .int .i64 a0_2, .int .i64 a0_3, .string a0_4, .string a0_5, .string a0_6]) (t := 119) ?hr ?_; (case hd => rfl); (case hg => rfl); (case hr => first | (go_simp; done) | (go_simp; rfl)); intro gb844 hg w54 hbox hb; have n0_ := Aside0.mk (below_step (bl HB) hb); have n1_ := Aside0.mk (hbox); have n2_ := Aside0.mk ((by rw [hg]; exact (below_size (bl HB)) : w.heap.size ≤ gb844)); have n3_ := Aside0.mk ((by rw [hg]; exact (below_size (bl HB)) : w.heap.size ≤ gb844)); clear HB; have HB := n0_; have BK844 := n1_; have GW844 := n2_; have GE844 := n3_; clear n0_ n1_ n2_ n3_; clear hb hbox hg) | ((with_reducible refine gate_dst (N := 3) rfl ?_); refine box_event ?hg (N := 3) ?hd (cs := #[.int .i64 a1_0, .int .i64 a1_1, .int .i64 a1_2, .int .i64 a1_3, .string a1_4, .string a1_5, .string a1_6]) (t := 119) ?hr ?_; (case hd => rfl); (case hg => rfl); (case hr => first | (go_simp; done) | (go_simp; rfl)); intro gb845 hg w55 hbox hb; have n0_ := bkB BK844 hb; have n1_ := Aside0.mk (below_step (bl HB) hb); have n2_ := Aside0.mk (hbox); have n3_ := Aside0.mk ((by rw [hg]; exact (below_size (bl HB)) : w.heap.size ≤ gb845)); have n4_ := Aside0.mk ((by rw [hg]; exact (below_size (bl HB)) : w.heap.size ≤ gb845)); have n5_ := Aside0.mk ((by rw [hg]; exact Nat.ne_of_lt (bkL BK844) : gb844 ≠ gb845)); have n6_ := Aside0.mk ((by rw [hg]; exact Nat.ne_of_gt (bkL BK844) : gb845 ≠ gb844)); clear BK844; clear HB; have BK844 := n0_; have HB := n1_; have BK845 := n2_; have GW845 := n3_; have GE845 := n4_; have NB844_845 := n5_; have NB845_844 := n6_; clear n0_ n1_ n2_ n3_ n4_ n5_ n6_; clear hb hbox hg; have hnb56 := NB844_845.out; have hnc56 := NB845_844.out; have hcz57_0 : w55.cell? ⟨gb844, 0, none⟩ = some (.int .i64 a0_0) := (blk_cell BK844.out 0).trans rfl; have hcz57_1 : w55.cell? ⟨gb844, 1, none⟩ = some (.int .i64 a0_1) := (blk_cell BK844.out 1).trans rfl; have hcz57_2 : w55.cell? ⟨gb844, 2, none⟩ = some (.int .i64 a0_2) := (blk_cell BK844.out 2).trans rfl; have hcz57_3 : w55.cell? ⟨gb844, 3, none⟩ = some (.int .i64 a0_3) := (blk_cell BK844.out 3).trans rfl; have hcz57_4 : w55.cell? ⟨gb844, 4, none⟩ = some (.string a0_4) := (blk_cell BK844.out 4).trans rfl; have hcz57_5 : w55.cell? ⟨gb844, 5, none⟩ = some (.string a0_5) := (blk_cell BK844.out 5).trans rfl; have hcz57_6 : w55.cell? ⟨gb844, 6, none⟩ = some (.string a0_6) := (blk_cell BK844.out 6).trans rfl; have hfz57_0 := blk_frozen BK844.out 0; have hfz57_1 := blk_frozen BK844.out 1; have hfz57_2 := blk_frozen BK844.out 2; have hfz57_3 := blk_frozen BK844.out 3; have hfz57_4 := blk_frozen BK844.out 4; have hfz57_5 := blk_frozen BK844.out 5; have hfz57_6 := blk_frozen BK844.out 6; have hcz58_0 : w55.cell? ⟨gb845, 0, none⟩ = some (.int .i64 a1_0) := (blk_cell BK845.out 0).trans rfl; have hcz58_1 : w55.cell? ⟨gb845, 1, none⟩ = some (.int .i64 a1_1) := (blk_cell BK845.out 1).trans rfl; have hcz58_2 : w55.cell? ⟨gb845, 2, none⟩ = some (.int .i64 a1_2) := (blk_cell BK845.out 2).trans rfl; have hcz58_3 : w55.cell? ⟨gb845, 3, none⟩ = some (.int .i64 a1_3) := (blk_cell BK845.out 3).trans rfl; have hcz58_4 : w55.cell? ⟨gb845, 4, none⟩ = some (.string a1_4) := (blk_cell BK845.out 4).trans rfl; have hcz58_5 : w55.cell? ⟨gb845, 5, none⟩ = some (.string a1_5) := (blk_cell BK845.out 5).trans rfl; have hcz58_6 : w55.cell? ⟨gb845, 6, none⟩ = some (.string a1_6) := (blk_cell BK845.out 6).trans rfl; have hfz58_0 := blk_frozen BK845.out 0; have hfz58_1 := blk_frozen BK845.out 1; have hfz58_2 := blk_frozen BK845.out 2; have hfz58_3 := blk_frozen BK845.out 3; have hfz58_4 := blk_frozen BK845.out 4; have hfz58_5 := blk_frozen BK845.out 5; have hfz58_6 := blk_frozen BK845.out 6) | ((with_reducible refine gate_callee (f := 96) rfl ?_); refine goesL_ (some 9) rfl rfl Try.func96 (by kernel_rfl) rfl #[.agg #[.int .i64 a0_0, .int .i64 a0_1], .agg #[.int .i64 a1_0, .int .i64 a1_1]] rfl (by (try simp only [List.map_toArray, List.map_cons, List.map_nil]); first | done | rfl | (simp only [List.length_drop, List.length_take]; rfl)) ?_; (with_reducible refine (laws_eqEndPoint.calls a0_0 a0_1 a1_0 a1_1 true _ A3.out).mono ?_); rintro e w59 ⟨rfl, hb⟩; refine ⟨_, rfl, ?_⟩; have n0_ := bkB BK844 hb; have n1_ := bkB BK845 hb; have n2_ := Aside0.mk (below_step (bl HB) hb); clear BK844; clear BK845; clear HB; have BK844 := n0_; have BK845 := n1_; have HB := n2_; clear n0_ n1_ n2_; (try clear hb); (try clear hb2); (try clear hk); (try clear hi); have hcz60_0 : w59.cell? ⟨gb844, 0, none⟩ = some (.int .i64 a0_0) := (blk_cell BK844.out 0).trans rfl; have hcz60_1 : w59.cell? ⟨gb844, 1, none⟩ = some (.int .i64 a0_1) := (blk_cell BK844.out 1).trans rfl; have hcz60_2 : w59.cell? ⟨gb844, 2, none⟩ = some (.int .i64 a0_2) := (blk_cell BK844.out 2).trans rfl; have hcz60_3 : w59.cell? ⟨gb844, 3, none⟩ = some (.int .i64 a0_3) := (blk_cell BK844.out 3).trans rfl; have hcz60_4 : w59.cell? ⟨gb844, 4, none⟩ = some (.string a0_4) := (blk_cell BK844.out 4).trans rfl; have hcz60_5 : w59.cell? ⟨gb844, 5, none⟩ = some (.string a0_5) := (blk_cell BK844.out 5).trans rfl; have hcz60_6 : w59.cell? ⟨gb844, 6, none⟩ = some (.string a0_6) := (blk_cell BK844.out 6).trans rfl; have hfz60_0 := blk_frozen BK844.out 0; have hfz60_1 := blk_frozen BK844.out 1; have hfz60_2 := blk_frozen BK844.out 2; have hfz60_3 := blk_frozen BK844.out 3; have hfz60_4 := blk_frozen BK844.out 4; have hfz60_5 := blk_frozen BK844.out 5; have hfz60_6 := blk_frozen BK844.out 6; have hcz61_0 : w59.cell? ⟨gb845, 0, none⟩ = some (.int .i64 a1_0) := (blk_cell BK845.out 0).trans rfl; have hcz61_1 : w59.cell? ⟨gb845, 1, none⟩ = some (.int .i64 a1_1) := (blk_cell BK845.out 1).trans rfl; have hcz61_2 : w59.cell? ⟨gb845, 2, none⟩ = some (.int .i64 a1_2) := (blk_cell BK845.out 2).trans rfl; have hcz61_3 : w59.cell? ⟨gb845, 3, none⟩ = some (.int .i64 a1_3) := (blk_cell BK845.out 3).trans rfl; have hcz61_4 : w59.cell? ⟨gb845, 4, none⟩ = some (.string a1_4) := (blk_cell BK845.out 4).trans rfl; have hcz61_5 : w59.cell? ⟨gb845, 5, none⟩ = some (.string a1_5) := (blk_cell BK845.out 5).trans rfl; have hcz61_6 : w59.cell? ⟨gb845, 6, none⟩ = some (.string a1_6) := (blk_cell BK845.out 6).trans rfl; have hfz61_0 := blk_frozen BK845.out 0; have hfz61_1 := blk_frozen BK845.out 1; have hfz61_2 := blk_frozen BK845.out 2; have hfz61_3 := blk_frozen BK845.out 3; have hfz61_4 := blk_frozen BK845.out 4; have hfz61_5 := blk_frozen BK845.out 5; have hfz61_6 := blk_frozen BK845.out 6) | ((with_reducible refine gate_callee (f := 96) rfl ?_); refine goesL_ (some 15) rfl rfl Try.func96 (by kernel_rfl) rfl #[.agg #[.int .i64 a0_2, .int .i64 a0_3], .agg #[.int .i64 a1_2, .int .i64 a1_3]] rfl (by (try simp only [List.map_toArray, List.map_cons, List.map_nil]); first | done | rfl | (simp only [List.length_drop, List.length_take]; rfl)) ?_; (with_reducible refine (laws_eqEndPoint.calls a0_2 a0_3 a1_2 a1_3 false _ A5.out).mono ?_); rintro e w62 ⟨rfl, hb⟩; refine ⟨_, rfl, ?_⟩; have n0_ := bkB BK844 hb; have n1_ := bkB BK845 hb; have n2_ := Aside0.mk (below_step (bl HB) hb); clear BK844; clear BK845; clear HB; have BK844 := n0_; have BK845 := n1_; have HB := n2_; clear n0_ n1_ n2_; (try clear hb); (try clear hb2); (try clear hk); (try clear hi)))
      go_ret
      exact ⟨by first | rfl | (simp [errW_none, errW_some] <;> rfl) | (simp [*, errW_none, errW_some] <;> rfl), by repeat (first | (with_reducible first | exact HB.out | apply below_alloc | apply pw_below_drewN | apply below_drew1 | refine below_set ?_ GE844.out | refine below_set ?_ GE845.out) | exact HB.out)⟩
  · replace c4 := Bool.eq_false_iff.mpr c4
    subst c4
    have H1 : (some false) = some r := by rw [if_neg (show ¬ (false = true) by decide)] at H; exact H
    clear H
    have H := H1
    clear H1
    obtain rfl := Option.some.inj H
    go_enter Try.func98, Try.ntmps98
    go_wp2_with (first | ((with_reducible refine gate_dst (N := 2) rfl ?_); refine box_event ?hg (N := 2) ?hd (cs := #[.int .i64 a0_0, .int .i64 a0_1, .int .i64 a0_2, .int .i64 a0_3, .string a0_4, .string a0_5, .string a0_6]) (t := 119) ?hr ?_; (case hd => rfl); (case hg => rfl); (case hr => first | (go_simp; done) | (go_simp; rfl)); intro gb844 hg w63 hbox hb; have n0_ := Aside0.mk (below_step (bl HB) hb); have n1_ := Aside0.mk (hbox); have n2_ := Aside0.mk ((by rw [hg]; exact (below_size (bl HB)) : w.heap.size ≤ gb844)); have n3_ := Aside0.mk ((by rw [hg]; exact (below_size (bl HB)) : w.heap.size ≤ gb844)); clear HB; have HB := n0_; have BK844 := n1_; have GW844 := n2_; have GE844 := n3_; clear n0_ n1_ n2_ n3_; clear hb hbox hg) | ((with_reducible refine gate_dst (N := 3) rfl ?_); refine box_event ?hg (N := 3) ?hd (cs := #[.int .i64 a1_0, .int .i64 a1_1, .int .i64 a1_2, .int .i64 a1_3, .string a1_4, .string a1_5, .string a1_6]) (t := 119) ?hr ?_; (case hd => rfl); (case hg => rfl); (case hr => first | (go_simp; done) | (go_simp; rfl)); intro gb845 hg w64 hbox hb; have n0_ := bkB BK844 hb; have n1_ := Aside0.mk (below_step (bl HB) hb); have n2_ := Aside0.mk (hbox); have n3_ := Aside0.mk ((by rw [hg]; exact (below_size (bl HB)) : w.heap.size ≤ gb845)); have n4_ := Aside0.mk ((by rw [hg]; exact (below_size (bl HB)) : w.heap.size ≤ gb845)); have n5_ := Aside0.mk ((by rw [hg]; exact Nat.ne_of_lt (bkL BK844) : gb844 ≠ gb845)); have n6_ := Aside0.mk ((by rw [hg]; exact Nat.ne_of_gt (bkL BK844) : gb845 ≠ gb844)); clear BK844; clear HB; have BK844 := n0_; have HB := n1_; have BK845 := n2_; have GW845 := n3_; have GE845 := n4_; have NB844_845 := n5_; have NB845_844 := n6_; clear n0_ n1_ n2_ n3_ n4_ n5_ n6_; clear hb hbox hg; have hnb65 := NB844_845.out; have hnc65 := NB845_844.out; have hcz66_0 : w64.cell? ⟨gb844, 0, none⟩ = some (.int .i64 a0_0) := (blk_cell BK844.out 0).trans rfl; have hcz66_1 : w64.cell? ⟨gb844, 1, none⟩ = some (.int .i64 a0_1) := (blk_cell BK844.out 1).trans rfl; have hcz66_2 : w64.cell? ⟨gb844, 2, none⟩ = some (.int .i64 a0_2) := (blk_cell BK844.out 2).trans rfl; have hcz66_3 : w64.cell? ⟨gb844, 3, none⟩ = some (.int .i64 a0_3) := (blk_cell BK844.out 3).trans rfl; have hcz66_4 : w64.cell? ⟨gb844, 4, none⟩ = some (.string a0_4) := (blk_cell BK844.out 4).trans rfl; have hcz66_5 : w64.cell? ⟨gb844, 5, none⟩ = some (.string a0_5) := (blk_cell BK844.out 5).trans rfl; have hcz66_6 : w64.cell? ⟨gb844, 6, none⟩ = some (.string a0_6) := (blk_cell BK844.out 6).trans rfl; have hfz66_0 := blk_frozen BK844.out 0; have hfz66_1 := blk_frozen BK844.out 1; have hfz66_2 := blk_frozen BK844.out 2; have hfz66_3 := blk_frozen BK844.out 3; have hfz66_4 := blk_frozen BK844.out 4; have hfz66_5 := blk_frozen BK844.out 5; have hfz66_6 := blk_frozen BK844.out 6; have hcz67_0 : w64.cell? ⟨gb845, 0, none⟩ = some (.int .i64 a1_0) := (blk_cell BK845.out 0).trans rfl; have hcz67_1 : w64.cell? ⟨gb845, 1, none⟩ = some (.int .i64 a1_1) := (blk_cell BK845.out 1).trans rfl; have hcz67_2 : w64.cell? ⟨gb845, 2, none⟩ = some (.int .i64 a1_2) := (blk_cell BK845.out 2).trans rfl; have hcz67_3 : w64.cell? ⟨gb845, 3, none⟩ = some (.int .i64 a1_3) := (blk_cell BK845.out 3).trans rfl; have hcz67_4 : w64.cell? ⟨gb845, 4, none⟩ = some (.string a1_4) := (blk_cell BK845.out 4).trans rfl; have hcz67_5 : w64.cell? ⟨gb845, 5, none⟩ = some (.string a1_5) := (blk_cell BK845.out 5).trans rfl; have hcz67_6 : w64.cell? ⟨gb845, 6, none⟩ = some (.string a1_6) := (blk_cell BK845.out 6).trans rfl; have hfz67_0 := blk_frozen BK845.out 0; have hfz67_1 := blk_frozen BK845.out 1; have hfz67_2 := blk_frozen BK845.out 2; have hfz67_3 := blk_frozen BK845.out 3; have hfz67_4 := blk_frozen BK845.out 4; have hfz67_5 := blk_frozen BK845.out 5; have hfz67_6 := blk_frozen BK845.out 6) | ((with_reducible refine gate_callee (f := 96) rfl ?_); refine goesL_ (some 9) rfl rfl Try.func96 (by kernel_rfl) rfl #[.agg #[.int .i64 a0_0, .int .i64 a0_1], .agg #[.int .i64 a1_0, .int .i64 a1_1]] rfl (by (try simp only [List.map_toArray, List.map_cons, List.map_nil]); first | done | rfl | (simp only [List.length_drop, List.length_take]; rfl)) ?_; (with_reducible refine (laws_eqEndPoint.calls a0_0 a0_1 a1_0 a1_1 false _ A3.out).mono ?_); rintro e w68 ⟨rfl, hb⟩; refine ⟨_, rfl, ?_⟩; have n0_ := bkB BK844 hb; have n1_ := bkB BK845 hb; have n2_ := Aside0.mk (below_step (bl HB) hb); clear BK844; clear BK845; clear HB; have BK844 := n0_; have BK845 := n1_; have HB := n2_; clear n0_ n1_ n2_; (try clear hb); (try clear hb2); (try clear hk); (try clear hi)))
    go_ret
    exact ⟨by first | rfl | (simp [errW_none, errW_some] <;> rfl) | (simp [*, errW_none, errW_some] <;> rfl), by repeat (first | (with_reducible first | exact HB.out | apply below_alloc | apply pw_below_drewN | apply below_drew1 | refine below_set ?_ GE844.out | refine below_set ?_ GE845.out) | exact HB.out)⟩

end Go.Proofs.Ytiocgkggegahhaa.P
