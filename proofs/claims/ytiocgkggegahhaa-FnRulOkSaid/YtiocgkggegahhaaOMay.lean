/- The contract of impl.may: a chain of closures, made by a range over an iterator, and called once. -/
import Derived.Test.YtiocgkggegahhaaOMayA
import Derived.Laws.EntriesVeiled
namespace Go.Proofs.Ytiocgkggegahhaa.P
open Go.RowKit Go.Shelf Go.Proofs.YtiocgkggegahhaaW.PrintWords Go.Proofs.YtiocgkggegahhaaW.PrintLast Go.Proofs.YtiocgkggegahhaaW.PrintMore
set_option linter.unusedVariables false
set_option linter.unusedSimpArgs false
attribute [local go_sem] Oper.semAt_some

theorem chk_cons (a p b q : Int) : ∀ (r : List S24) (x : S24) (lo : Nat) (w : World) (b1 b2 : Nat) (v' : Value),
    w.heap[b1]? = some (.cells #[.bool x.f0, .int .i64 x.f1, .int .i64 x.f2, .int .i64 x.f3, .int .i64 x.f4, .int .i64 x.f5, .int .i64 x.f6] 24 (0, 0)) →
    w.heap[b2]? = some (.cells #[v'] 106 (0, 0)) → IsChk lo w r v' →
    Calls Try.prog 102 #[.agg #[.int .i64 a, .int .i64 p], .agg #[.int .i64 b, .int .i64 q], .pointer (some ⟨b1, 0, none⟩), .pointer (some ⟨b2, 0, none⟩)] w (BoolPostM (mayL (x :: r) a b q) w)
  | [], x, lo, w, b1, b2, v', h1, h2, hv => by
    have e : v' = .func (.func 86) #[] #[] := hv
    subst e
    exact ahead_nil _ a p b q x b1 b2 w ⟨rfl⟩ h1 h2
  | y :: r, x, lo, w, b1, b2, v', h1, h2, hv => by
    obtain ⟨b3, b4, v2, e, _, g1, g2, hr⟩ := hv
    subst e
    exact ahead_cons _ a p b q x b1 b2 w _ _ (mayL (y :: r) a b q) ⟨fun w' hb => chk_cons a p b q r y lo w' b3 b4 v2 ((hb.block _ (blk_lt g1)).trans g1) ((hb.block _ (blk_lt g2)).trans g2) (hr.below hb)⟩ ⟨rfl⟩ h1 h2

def impl_may.f (l : List S24) (a p b q : Int) : Option Bool := some (endIn a p && (endOut b q && mayL l a b q))

set_option maxRecDepth 100000 in
theorem backward0 (A0 : Option Addr) (n c0 : Nat) (w : World) :
    Calls Try.prog 87 #[.slice A0 n c0] w fun e w' => e = .returned (.func (.func 101) #[] #[.pointer (some ⟨w.heap.size, 0, none⟩)]) ∧ w' = w.alloc (.cells #[.slice A0 n c0] 31) := by
  go_enter Try.func87, Try.ntmps87
  go_wp2
  go_ret
  exact ⟨rfl, rfl⟩
theorem IsChk.func {lo : Nat} {w : World} : ∀ {l : List S24} {v : Value}, IsChk lo w l v → ∃ g caps, v = .func (.func g) #[] caps
  | [], _, h => ⟨_, _, h⟩
  | _ :: _, _, ⟨_, _, _, h, _⟩ => ⟨_, _, h⟩
def AheadPost (x : S24) (v : Value) (w : World) (e : Ending) (w' : World) : Prop :=
  ∃ b1 b2 : Nat, e = .returned (.func (.func 102) #[] #[.pointer (some ⟨b1, 0, none⟩), .pointer (some ⟨b2, 0, none⟩)]) ∧ w.heap.size ≤ b1 ∧ w.heap.size ≤ b2 ∧
    w'.heap[b1]? = some (.cells #[.bool x.f0, .int .i64 x.f1, .int .i64 x.f2, .int .i64 x.f3, .int .i64 x.f4, .int .i64 x.f5, .int .i64 x.f6] 24 (0, 0)) ∧ w'.heap[b2]? = some (.cells #[v] 106 (0, 0)) ∧ Below w.heap.size w w'
set_option maxRecDepth 100000 in
theorem ahead0 (x : S24) (g : Nat) (caps : Array Value) (w : World) :
    Calls Try.prog 88 #[ruleV x, .func (.func g) #[] caps] w (AheadPost x (.func (.func g) #[] caps) w) := by
  unfold ruleV
  go_enter Try.func88, Try.ntmps88
  go_wp2
  go_ret
  have n2 := heap_alloc_new (w.alloc (.cells #[.bool x.f0, .int .i64 x.f1, .int .i64 x.f2, .int .i64 x.f3, .int .i64 x.f4, .int .i64 x.f5, .int .i64 x.f6] 24)) (.cells #[.func (.func g) #[] caps] 106)
  simp only [World.size_alloc] at n2
  exact ⟨_, _, rfl, Nat.le_refl _, Nat.le_succ _, blk_alloc (heap_alloc_new w _) _, n2, below_alloc2 w _ _⟩

theorem box_set {W : World} {B : Nat} {t : TypeId} {v : Value} (h : W.heap[B]? = some (.cells #[v] t (0, 0))) (u : Value) : Boxed (W.setCell ⟨B, 0, none⟩ u) B t u := by
  have := blk_set h 0 u
  exact this

theorem alloc4 (w : World) (c1 c2 c3 c4 : Array Value) (t1 t2 t3 t4 : TypeId) :
    ((((w.alloc (.cells c1 t1)).alloc (.cells c2 t2)).alloc (.cells c3 t3)).alloc (.cells c4 t4)).heap.size = w.heap.size + 4 ∧
    Below w.heap.size w ((((w.alloc (.cells c1 t1)).alloc (.cells c2 t2)).alloc (.cells c3 t3)).alloc (.cells c4 t4)) ∧
    ((((w.alloc (.cells c1 t1)).alloc (.cells c2 t2)).alloc (.cells c3 t3)).alloc (.cells c4 t4)).heap[w.heap.size]? = some (.cells c1 t1 (0, 0)) ∧
    ((((w.alloc (.cells c1 t1)).alloc (.cells c2 t2)).alloc (.cells c3 t3)).alloc (.cells c4 t4)).heap[w.heap.size + 1]? = some (.cells c2 t2 (0, 0)) ∧
    ((((w.alloc (.cells c1 t1)).alloc (.cells c2 t2)).alloc (.cells c3 t3)).alloc (.cells c4 t4)).heap[w.heap.size + 1 + 1]? = some (.cells c3 t3 (0, 0)) ∧
    ((((w.alloc (.cells c1 t1)).alloc (.cells c2 t2)).alloc (.cells c3 t3)).alloc (.cells c4 t4)).heap[w.heap.size + 1 + 1 + 1]? = some (.cells c4 t4 (0, 0)) := by
  have n1 := heap_alloc_new w (.cells c1 t1)
  have n2 := heap_alloc_new (w.alloc (.cells c1 t1)) (.cells c2 t2)
  have n3 := heap_alloc_new ((w.alloc (.cells c1 t1)).alloc (.cells c2 t2)) (.cells c3 t3)
  have n4 := heap_alloc_new (((w.alloc (.cells c1 t1)).alloc (.cells c2 t2)).alloc (.cells c3 t3)) (.cells c4 t4)
  simp only [World.size_alloc] at n2 n3 n4
  refine ⟨by simp only [World.size_alloc], ?_, blk_alloc (blk_alloc (blk_alloc n1 _) _) _, blk_alloc (blk_alloc n2 _) _, blk_alloc n3 _, n4⟩
  exact ((((Below.refl _ w).alloc (Nat.le_refl _) _).alloc (by simp only [World.size_alloc]; omega) _).alloc (by simp only [World.size_alloc]; omega) _).alloc (by simp only [World.size_alloc]; omega) _
theorem cells_kept {X Y : World} {row : Option Nat} {b : Nat} {c : Array Value} {t : TypeId} {f : Nat × Nat} (h : X.heap[b]? = some (.cells c t f)) (hg : X.grownBy Y row) (hr : ∀ r, row = some r → ∃ o : Obj, X.heap[r]? = some o ∧ o.isCells = false) : Y.heap[b]? = some (.cells c t f) :=
  (hg.block b (Array.getElem?_eq_some_iff.1 h).1 (fun e => by obtain ⟨o, ho, hc⟩ := hr b e.symm; rw [h] at ho; cases ho; cases hc)).trans h
theorem cells_own {β : Type} (b : Nat) (c : Array Value) (t : TypeId) (f : Nat × Nat) : Own (fun (_ : β) W => W.heap[b]? = some (.cells c t f)) := fun _ X Y row hs hg hr => cells_kept hs hg hr
theorem chk_own {β : Type} (lo b t : Nat) (g : β → List S24) : Own (fun (s : β) W => ∃ v, Boxed W b t v ∧ IsChk lo W (g s) v) := fun s X Y row ⟨v, hb, hc⟩ hg hr =>
  ⟨v, cells_kept hb hg hr, hc.move fun i c t f _ hi => (cells_kept hi hg hr).trans hi.symm⟩
theorem backward_stops (Bs n₀ : Nat) (A0 : Option Addr) (c0 : Nat) (l0 : List S24) (w0 w : World) (hn : w0.heap.size = n₀) (hC : Kd.C k24 w0 A0 l0.length l0) (hw : Below n₀ w0 w) (hB : Bs < w.heap.size) (hc : w.cell? ⟨Bs, 0, none⟩ = some (.slice A0 l0.length c0)) :
    SeqStopsK Fence.wide 8 Try.prog 101 #[.pointer (some ⟨Bs, 0, none⟩)] (fun x : Int × S24 => #[.int .i64 x.1, ruleV x.2]) (KpM n₀ Bs) (fun ys => ys.map (·.2) = l0.reverse) (fun _ => True) l0.length w := fun l J Jx W hW _ _ hY h0 =>
  backward1 l Bs n₀ A0 c0 l0 w0 hn hC J Jx hY W (hw.trans (hW.mono (by rw [← hn]; exact hw.size))) ((hW.cell (p := ⟨Bs, 0, none⟩) hB).trans hc) h0
theorem kpm_b {n₀ b : Nat} {w : World} (hn : n₀ ≤ w.heap.size) (hb : b < w.heap.size) (W : World) (l : Nat) (o o' : Obj) (hl : w.heap.size ≤ l) (ho : W.heap[l]? = some o) (hc : o.isCells = false) (hk : o.isWalk = false) : KpM n₀ b W (W.putObj l o') :=
  ⟨belowK_b (w := w) hn W l o o' hl ho hc hk, World.putObj_heap_other (by omega)⟩

set_option maxRecDepth 100000 in
set_option maxHeartbeats 4000000 in
theorem impl_may.calls (A0 : Option Addr) (c0 : Nat) (l0 : List (S24)) (a1_0 : Int) (a1_1 : Int) (a2_0 : Int) (a2_1 : Int) (r : Bool) (w : World) (hr0 : Kd.C k24 w A0 l0.length l0) (hc0 : l0.length ≤ c0) (h : impl_may.f l0 a1_0 a1_1 a2_0 a2_1 = some r) :
    Calls Try.prog 52 #[.slice A0 l0.length c0, .agg #[.int .i64 a1_0, .int .i64 a1_1], .agg #[.int .i64 a2_0, .int .i64 a2_1]] w fun e w' => e = .returned (.bool r) ∧ Below w.heap.size w w' := by
  have HH := Lib.hid (Option.some.inj h)
  have HC := Lib.hid hr0
  clear h hr0 hc0
  refine (callsIn_wide (n := 9)).1 ?_
  refine callsIn_of_wp_marks Try.func52 rfl trivial ?_ rfl
  simp only [Try.ntmps52, List.size_toArray, List.length_cons, List.length_nil, Nat.reduceAdd, Nat.reduceSub, Array.replicate_succ, Array.replicate_zero, List.push_toArray, List.append_toArray, List.nil_append, List.cons_append]
  gi_wp2_with (refine ⟨trivial, ?_⟩; gi_at_call 87; refine (callsIn_wide.2 (backward0 _ _ _ _)).mono ?_; rintro e w' ⟨rfl, rfl⟩)
  obtain ⟨W0, hW0⟩ : ∃ W0, (((w.alloc (.cells #[.int .i64 a1_0, .int .i64 a1_1] 29)).alloc (.cells #[.int .i64 a2_0, .int .i64 a2_1] 29)).alloc (.cells #[.func (.func 86) #[] #[]] 106)).alloc (.cells #[.slice A0 l0.length c0] 31) = W0 := ⟨_, rfl⟩
  have h4 := alloc4 w #[.int .i64 a1_0, .int .i64 a1_1] #[.int .i64 a2_0, .int .i64 a2_1] #[.func (.func 86) #[] #[]] #[.slice A0 l0.length c0] 29 29 106 31
  rw [hW0] at h4
  obtain ⟨hsz, hB0, g1, g2, g3, g4⟩ := h4
  rw [hW0]
  clear hW0
  refine wpIn_rangeFunc_ownH rfl (by omega) (gf := 101) (lb := #[.pointer (some ⟨w.heap.size + 1 + 1 + 1, 0, none⟩)]) rfl trivial (enters_of Try.func101 (by kernel_rfl) rfl)
    (backward_stops (w.heap.size + 1 + 1 + 1) w.heap.size A0 c0 l0 w W0 rfl HC.out hB0 (by omega) ((blk_cell g4 0).trans rfl)) KpM.trans (kpm_b (by omega) (by omega)) (Below.refl _ _) (fun _ => rfl)
    (fun pre W => (∃ v, Boxed W (w.heap.size + 1 + 1) 106 v ∧ IsChk (w.heap.size + 1 + 1 + 1) W (pre.map (·.2)).reverse v) ∧ (W.heap[w.heap.size]? = some (.cells #[.int .i64 a1_0, .int .i64 a1_1] 29 (0, 0)) ∧ (W.heap[w.heap.size + 1]? = some (.cells #[.int .i64 a2_0, .int .i64 a2_1] 29 (0, 0)) ∧ (W.heap[w.heap.size + 1 + 1 + 1]? = some (.cells #[.slice A0 l0.length c0] 31 (0, 0)) ∧ Below w.heap.size w W))))
    (fun _ _ _ => False)
    (OwnFrom.and (Own.from (chk_own _ _ _ _) _) (OwnFrom.and (Own.from (cells_own _ _ _ _) _) (OwnFrom.and (Own.from (cells_own _ _ _ _) _) (OwnFrom.and (Own.from (cells_own _ _ _ _) _) (ownFrom_below (Nat.le_refl _) (by omega))))))
    (fun _ _ _ _ _ hs _ _ => hs)
    ⟨⟨_, g3, rfl⟩, g1, g2, g4, hB0⟩
    (fun x a' W => ∃ Bx, W0.heap.size ≤ Bx ∧ W.heap[Bx]? = some (.cells #[.bool x.2.f0, .int .i64 x.2.f1, .int .i64 x.2.f2, .int .i64 x.2.f3, .int .i64 x.2.f4, .int .i64 x.2.f5, .int .i64 x.2.f6] 24 (0, 0)) ∧ a' = { tmps := #[.slice A0 l0.length c0, .agg #[.int .i64 a1_0, .int .i64 a1_1], .agg #[.int .i64 a2_0, .int .i64 a2_1], undef, .pointer (some ⟨w.heap.size, 0, none⟩), .pointer (some ⟨w.heap.size + 1, 0, none⟩), .bool false, .pointer (some ⟨w.heap.size + 1 + 1, 0, none⟩), undef, .pointer (some ⟨Bx, 0, none⟩), .slice A0 l0.length c0, .func (.func 101) #[] #[.pointer (some ⟨w.heap.size + 1 + 1 + 1, 0, none⟩)], .int .i64 x.1, ruleV x.2, undef, undef, undef, undef, undef, undef, undef, undef, undef, undef, undef, undef, undef, undef, undef], defers := [] })
    (fun x a' _ X Y row hs hg hr => by obtain ⟨Bx, h1, h2, h3⟩ := hs; exact ⟨Bx, h1, cells_kept h2 hg (fun r e => (hr r e).2), h3⟩)
    ?assign ?body ?done ?stop
  case assign =>
    rintro l pre x W K ⟨⟨v, hv, hch⟩, e1, e2, e3, hB⟩ hK
    simp only [ruleV]
    gi_wp2
    have hsW : W0.heap.size ≤ W.heap.size := by have := blk_lt e3; omega
    refine hK _ _ ?_ ?_ ?_ ⟨W.heap.size, hsW, ?_, rfl⟩
    · exact (KeepsOthers.alloc _ _).from _
    · exact ⟨(Below.refl _ W).alloc hB.size _, Below.heap_alloc W _ _ (blk_lt e3)⟩
    · exact ⟨⟨v, blk_alloc hv _, hch.move fun i _ _ _ _ hi => Below.heap_alloc W _ _ (Array.getElem?_eq_some_iff.1 hi).1⟩, blk_alloc e1 _, blk_alloc e2 _, blk_alloc e3 _, hB.alloc hB.size _⟩
    · exact heap_alloc_new W _
  case body =>
    rintro l pre x a' W hl ⟨rr, hrr⟩ ⟨⟨v, hv, hch⟩, e1, e2, e3, hB⟩ ⟨Bx, hBx, hx, rfl⟩ hlt
    obtain ⟨gc, caps, rfl⟩ := hch.func
    have cv := hv.cell
    have fv := hv.frozen
    have x0 := (blk_cell hx 0).trans rfl
    have x1 := (blk_cell hx 1).trans rfl
    have x2 := (blk_cell hx 2).trans rfl
    have x3 := (blk_cell hx 3).trans rfl
    have x4 := (blk_cell hx 4).trans rfl
    have x5 := (blk_cell hx 5).trans rfl
    have x6 := (blk_cell hx 6).trans rfl
    have hl7 := hv.lt
    clear hrr
    gi_wp2_with (refine ⟨trivial, ?_⟩; gi_at_call 88; refine (CallsIn.inRound l (callsIn_wide.2 (ahead0 x.2 gc caps _))).mono ?_; rintro e w' ⟨b1, b2, rfl, hb1, hb2, hk1, hk2, hbw⟩; have cv' := (Boxed.cell (B := w.heap.size + 1 + 1) (t := 106) ((hbw.block _ hl7).trans hv)); have fv' := (Boxed.frozen (B := w.heap.size + 1 + 1) (t := 106) ((hbw.block _ hl7).trans hv)))
    have hl3 := blk_lt e3
    have hne : ∀ i, w.heap.size + 1 + 1 < i → i ≠ w.heap.size + 1 + 1 := fun i h e => by omega
    refine ⟨((KeepsOthers.of_grownBy (grown_of_below hbw none) (fun _ _ e => by cases e)).trans (KeepsOthers.setCell _ _ _)).from _,
      ⟨(hbw.mono hB.size).setCell (p := ⟨w.heap.size + 1 + 1, 0, none⟩) (by simp; omega) _, (Below.heap_setCell w' _ _ _ (hne _ (by omega))).trans (hbw.block _ hl3)⟩, ⟨_, box_set ((hbw.block _ hl7).trans hv) _, ?_⟩,
      blk_far ((hbw.block _ (blk_lt e1)).trans e1) (by simp; omega) _, blk_far ((hbw.block _ (blk_lt e2)).trans e2) (by simp) _, blk_far ((hbw.block _ hl3).trans e3) (by simp) _, (hB.trans (hbw.mono hB.size)).setCell (p := ⟨w.heap.size + 1 + 1, 0, none⟩) (by simp; omega) _⟩
    rw [List.map_append, List.reverse_append]
    exact ⟨b1, b2, _, rfl, ⟨by omega, by omega⟩, blk_far hk1 (by simp; omega) _, blk_far hk2 (by simp; omega) _,
      hch.move fun i _ _ _ hlo hi => (Below.heap_setCell w' _ _ _ (hne _ (by omega))).trans (hbw.block i (Array.getElem?_eq_some_iff.1 hi).1)⟩
  case done =>
    rintro D ys W hD hys ⟨⟨v, hv, hch⟩, e1, e2, e3, hB⟩ hK
    rw [hys, List.reverse_reverse] at hch
    have q0 := (blk_cell e1 0).trans rfl
    have q1 := (blk_cell e1 1).trans rfl
    have q2 := (blk_cell e2 0).trans rfl
    have q3 := (blk_cell e2 1).trans rfl
    have q4 := hv.cell
    have hDl := (Array.getElem?_eq_some_iff.1 hK).1
    have hl1 := blk_lt e1
    have hl2 := blk_lt e2
    have hl3 := hv.lt
    have HCH := Aside0.mk hch
    have HK := Aside0.mk hK
    have HB := Aside0.mk hB
    clear hch hK hB hys e1 e2 e3 g1 g2 g3 g4 hB0
    have fin : ∀ (W' : World), Below W.heap.size W W' → W'.heap[D]? = some (.deferred (some [])) ∧ Below w.heap.size w (W'.putObj D (.deferred none)) := fun W' h => by
      have h1 := (h.block _ hDl).trans HK.out
      exact ⟨h1, (HB.out.trans (h.mono HB.out.size)).trans (belowK_b (w := w) (Nat.le_refl _) W' D _ _ (by omega) h1 rfl rfl)⟩
    have FIN := Aside0.mk fin
    clear fin
    cases f1 : endIn a1_0 a1_1 with
    | false =>
      have hf1 := EndInside_f a1_0 a1_1
      rw [f1] at hf1
      have HF1 := Aside0.mk hf1
      have F1 := Aside0.mk f1
      clear f1 hf1
      gi_wp2_with (refine ⟨trivial, ?_⟩; gi_at_call 65; refine (callsIn_wide.2 (impl_EndInside.calls _ _ false _ HF1.out)).mono ?_; rintro e w' ⟨rfl, hbw⟩)
      refine ⟨trivial, ?_⟩
      gi_wp2
      refine ⟨fun _ h => (by cases h), ?_⟩
      gi_wp2
      refine ⟨by simp, .inl ⟨_, _, rfl, run_takeDeferred (FIN.out w' hbw).1, ?_⟩⟩
      exact ⟨_, results_tmp rfl _ _ _, by rw [← HH.out, F1.out]; rfl, (FIN.out w' hbw).2⟩
    | true =>
      have hf1 := EndInside_f a1_0 a1_1
      rw [f1] at hf1
      have HF1 := Aside0.mk hf1
      have F1 := Aside0.mk f1
      clear f1 hf1
      cases f2 : endOut a2_0 a2_1 with
      | false =>
        have hf2 := EndOutside_f a2_0 a2_1
        rw [f2] at hf2
        have HF2 := Aside0.mk hf2
        have F2 := Aside0.mk f2
        clear f2 hf2
        gi_wp2_with (first | (refine ⟨trivial, ?_⟩; gi_at_call 65; refine (callsIn_wide.2 (impl_EndInside.calls _ _ true _ HF1.out)).mono ?_; rintro e w' ⟨rfl, hbw⟩; have q2' := (hbw.cell (p := ⟨w.heap.size + 1, 0, none⟩) (by simp; omega)).trans q2; have q3' := (hbw.cell (p := ⟨w.heap.size + 1, 1, none⟩) (by simp; omega)).trans q3) | (refine ⟨trivial, ?_⟩; gi_at_call 89; refine (callsIn_wide.2 (impl_EndOutside.calls _ _ false _ HF2.out)).mono ?_; rintro e w2 ⟨rfl, hbw2⟩))
        refine ⟨fun _ h => (by cases h), ?_⟩
        gi_wp2
        have hb2 := hbw.trans (hbw2.mono hbw.size)
        refine ⟨by simp, .inl ⟨_, _, rfl, run_takeDeferred (FIN.out w2 hb2).1, ?_⟩⟩
        exact ⟨_, results_tmp rfl _ _ _, by rw [← HH.out, F1.out, F2.out]; rfl, (FIN.out w2 hb2).2⟩
      | true =>
        have hf2 := EndOutside_f a2_0 a2_1
        rw [f2] at hf2
        have HF2 := Aside0.mk hf2
        have F2 := Aside0.mk f2
        clear f2 hf2
        cases l0 with
        | nil =>
          have e : v = .func (.func 86) #[] #[] := HCH.out
          subst e
          gi_wp2_with (first | (refine ⟨trivial, ?_⟩; gi_at_call 65; refine (callsIn_wide.2 (impl_EndInside.calls _ _ true _ HF1.out)).mono ?_; rintro e w' ⟨rfl, hbw⟩; have q2' := (hbw.cell (p := ⟨w.heap.size + 1, 0, none⟩) (by simp; omega)).trans q2; have q3' := (hbw.cell (p := ⟨w.heap.size + 1, 1, none⟩) (by simp; omega)).trans q3) | (refine ⟨trivial, ?_⟩; gi_at_call 89; refine (callsIn_wide.2 (impl_EndOutside.calls _ _ true _ HF2.out)).mono ?_; rintro e w2 ⟨rfl, hbw2⟩; have hb2 := hbw.trans (hbw2.mono hbw.size); have q0' := (hb2.cell (p := ⟨w.heap.size, 0, none⟩) (by simp; omega)).trans q0; have q1' := (hb2.cell (p := ⟨w.heap.size, 1, none⟩) (by simp; omega)).trans q1; have q2'' := (hb2.cell (p := ⟨w.heap.size + 1, 0, none⟩) (by simp; omega)).trans q2; have q3'' := (hb2.cell (p := ⟨w.heap.size + 1, 1, none⟩) (by simp; omega)).trans q3; have q4' := (hb2.cell (p := ⟨w.heap.size + 1 + 1, 0, none⟩) (by simp; omega)).trans q4))
          refine ⟨trivial, ?_⟩
          refine (callsIn_wide.2 (may1 _ _ _ _ _)).mono ?_
          rintro e w3 ⟨rfl, hbw3⟩
          gi_wp2
          have hb3 := hb2.trans (hbw3.mono hb2.size)
          refine ⟨by simp, .inl ⟨_, _, rfl, run_takeDeferred (FIN.out w3 hb3).1, ?_⟩⟩
          exact ⟨_, results_tmp rfl _ _ _, by rw [← HH.out, F1.out, F2.out]; rfl, (FIN.out w3 hb3).2⟩
        | cons x l =>
          obtain ⟨b1, b2, v', e, _, k1, k2, hr⟩ := HCH.out
          subst e
          have K1 := Aside0.mk k1
          have K2 := Aside0.mk k2
          have HR := Aside0.mk hr
          clear k1 k2 hr HCH
          gi_wp2_with (first | (refine ⟨trivial, ?_⟩; gi_at_call 65; refine (callsIn_wide.2 (impl_EndInside.calls _ _ true _ HF1.out)).mono ?_; rintro e w' ⟨rfl, hbw⟩; have q2' := (hbw.cell (p := ⟨w.heap.size + 1, 0, none⟩) (by simp; omega)).trans q2; have q3' := (hbw.cell (p := ⟨w.heap.size + 1, 1, none⟩) (by simp; omega)).trans q3) | (refine ⟨trivial, ?_⟩; gi_at_call 89; refine (callsIn_wide.2 (impl_EndOutside.calls _ _ true _ HF2.out)).mono ?_; rintro e w2 ⟨rfl, hbw2⟩; have hb2 := hbw.trans (hbw2.mono hbw.size); have q0' := (hb2.cell (p := ⟨w.heap.size, 0, none⟩) (by simp; omega)).trans q0; have q1' := (hb2.cell (p := ⟨w.heap.size, 1, none⟩) (by simp; omega)).trans q1; have q2'' := (hb2.cell (p := ⟨w.heap.size + 1, 0, none⟩) (by simp; omega)).trans q2; have q3'' := (hb2.cell (p := ⟨w.heap.size + 1, 1, none⟩) (by simp; omega)).trans q3; have q4' := (hb2.cell (p := ⟨w.heap.size + 1 + 1, 0, none⟩) (by simp; omega)).trans q4))
          refine ⟨trivial, ?_⟩
          refine (callsIn_wide.2 (chk_cons a1_0 a1_1 a2_0 a2_1 l x _ w2 b1 b2 v' ((hb2.block _ (blk_lt K1.out)).trans K1.out) ((hb2.block _ (blk_lt K2.out)).trans K2.out) (HR.out.below hb2))).mono ?_
          rintro e w3 ⟨rfl, hbw3⟩
          gi_wp2
          have hb3 := hb2.trans (hbw3.mono hb2.size)
          refine ⟨by simp, .inl ⟨_, _, rfl, run_takeDeferred (FIN.out w3 hb3).1, ?_⟩⟩
          exact ⟨_, results_tmp rfl _ _ _, by rw [← HH.out, F1.out, F2.out]; rfl, (FIN.out w3 hb3).2⟩
  case stop =>
    rintro D c pre W _ _ h _
    exact h.elim
end Go.Proofs.Ytiocgkggegahhaa.P
