import Derived.Test.YtiocgkggegahhaaGLawFnMapPutx6
-- written by hw.py for this claim
namespace Go.Proofs.Ytiocgkggegahhaa.P
open Go.RowKit Go.Proofs.YtiocgkggegahhaaUFnMapPut.PrintWords Go.Proofs.YtiocgkggegahhaaUFnMapPut.PrintLast Go.Proofs.YtiocgkggegahhaaUFnMapPut.PrintMore
attribute [local go_sem] max2_int min2_int max_two min_two max_three min_three max_four min_four
set_option linter.unusedVariables false
set_option linter.unusedSimpArgs false

/-! ### impl_outside: function 47 -/
def impl_outside.f (a0 : Int) : Option (Bool) := (impl_within.f a0 100 109).bind fun t168 => (some t168)
set_option maxHeartbeats 8000000 in
set_option maxRecDepth 100000 in
theorem impl_outside.calls (a0 : Int) (r : Bool) (w : World) (h : impl_outside.f a0 = some r) :
    Calls Try.prog 47 #[.int .i64 a0] w fun e w' => e = .returned (.bool r) ∧ Drawn0 w w' := by
  have H : ((impl_within.f a0 100 109).bind fun t168 => (some t168)) = some r := h
  clear h
  replace H := Option.bind_eq_some_iff.mp H
  obtain ⟨t168, A20, H⟩ := H
  replace H : (some t168) = some r := H
  have A2 := Aside0.mk A20
  clear A20
  obtain rfl := Option.some.inj H
  go_enter Try.func47, Try.ntmps47
  go_wp2_with (first | ((with_reducible refine gate_callee (f := 82) rfl ?_); refine goesL_ (some 4) rfl rfl Try.func82 (by kernel_rfl) rfl #[.int .i64 a0, .int .i64 100, .int .i64 109] rfl (by (try simp only [List.map_toArray, List.map_cons, List.map_nil]); first | done | rfl | (simp only [List.length_drop, List.length_take]; rfl)) ?_; (with_reducible refine (impl_within.calls a0 100 109 t168 _ A2.out).mono ?_); rintro e w' ⟨rfl, ⟨nd, rfl⟩⟩; refine ⟨_, rfl, ?_⟩))
  go_ret
  exact ⟨by first | rfl | (simp; done) | (simp [*]; done), by repeat (first | exact Drawn0.refl _ | apply Drawn0.step)⟩

end Go.Proofs.Ytiocgkggegahhaa.P

-- written by hw.py for this claim
namespace Go.Proofs.Ytiocgkggegahhaa.P
open Go.RowKit Go.Proofs.YtiocgkggegahhaaUFnMapPut.PrintWords Go.Proofs.YtiocgkggegahhaaUFnMapPut.PrintLast Go.Proofs.YtiocgkggegahhaaUFnMapPut.PrintMore
attribute [local go_sem] max2_int min2_int max_two min_two max_three min_three max_four min_four
set_option linter.unusedVariables false
set_option linter.unusedSimpArgs false

/-! ### impl_EndOutside: function 89 -/
def impl_EndOutside.f (a0_0 : Int) (a0_1 : Int) : Option (Bool) := (impl_outside.f a0_0).bind fun t186 => (if t186 = true then ((impl_portOk.f a0_1).bind fun t187 => (some t187)) else (some false))
set_option maxHeartbeats 8000000 in
set_option maxRecDepth 100000 in
theorem impl_EndOutside.calls (a0_0 : Int) (a0_1 : Int) (r : Bool) (w : World) (h : impl_EndOutside.f a0_0 a0_1 = some r) :
    Calls Try.prog 89 #[.agg #[.int .i64 a0_0, .int .i64 a0_1]] w fun e w' => e = .returned (.bool r) ∧ Below w.heap.size w w' := by
  have hu29 := Try.underlying29
  have HB := Aside0.mk (Below.refl w.heap.size w)
  have H : ((impl_outside.f a0_0).bind fun t186 => (if t186 = true then ((impl_portOk.f a0_1).bind fun t187 => (some t187)) else (some false))) = some r := h
  clear h
  replace H := Option.bind_eq_some_iff.mp H
  obtain ⟨t186, A20, H⟩ := H
  replace H : (if t186 = true then ((impl_portOk.f a0_1).bind fun t187 => (some t187)) else (some false)) = some r := H
  have A2 := Aside0.mk A20
  clear A20
  by_cases c3 : t186 = true
  · subst c3
    have H1 : ((impl_portOk.f a0_1).bind fun t187 => (some t187)) = some r := by rw [if_pos rfl] at H; exact H
    clear H
    have H := H1
    clear H1
    replace H := Option.bind_eq_some_iff.mp H
    obtain ⟨t187, A40, H⟩ := H
    replace H : (some t187) = some r := H
    have A4 := Aside0.mk A40
    clear A40
    obtain rfl := Option.some.inj H
    go_enter Try.func89, Try.ntmps89
    go_wp2_with (first | ((with_reducible refine gate_dst (N := 1) rfl ?_); refine box_event ?hg (N := 1) ?hd (cs := #[.int .i64 a0_0, .int .i64 a0_1]) (t := 29) ?hr ?_; (case hd => rfl); (case hg => rfl); (case hr => first | (go_simp; done) | (go_simp; rfl)); intro gb185 hg w5 hbox hb; have n0_ := Aside0.mk (below_step (bl HB) hb); have n1_ := Aside0.mk (hbox); have n2_ := Aside0.mk ((by rw [hg]; exact (below_size (bl HB)) : w.heap.size ≤ gb185)); have n3_ := Aside0.mk ((by rw [hg]; exact (below_size (bl HB)) : w.heap.size ≤ gb185)); clear HB; have HB := n0_; have BK185 := n1_; have GW185 := n2_; have GE185 := n3_; clear n0_ n1_ n2_ n3_; clear hb hbox hg; have hcz6_0 : w5.cell? ⟨gb185, 0, none⟩ = some (.int .i64 a0_0) := (blk_cell BK185.out 0).trans rfl; have hcz6_1 : w5.cell? ⟨gb185, 1, none⟩ = some (.int .i64 a0_1) := (blk_cell BK185.out 1).trans rfl; have hfz6_0 := blk_frozen BK185.out 0; have hfz6_1 := blk_frozen BK185.out 1) | ((with_reducible refine gate_callee (f := 47) rfl ?_); refine goesL_ (some 5) rfl rfl Try.func47 (by kernel_rfl) rfl #[.int .i64 a0_0] rfl (by (try simp only [List.map_toArray, List.map_cons, List.map_nil]); first | done | rfl | (simp only [List.length_drop, List.length_take]; rfl)) ?_; (with_reducible refine (impl_outside.calls a0_0 true _ A2.out).mono ?_); rintro e w' ⟨rfl, ⟨nd, rfl⟩⟩; refine ⟨_, rfl, ?_⟩) | (go_at_call 48; (with_reducible refine (impl_portOk.calls a0_1 t187 _ A4.out).mono ?_); rintro e w' ⟨rfl, ⟨nd, rfl⟩⟩))
    go_ret
    exact ⟨by first | rfl | (simp [errW_none, errW_some] <;> rfl) | (simp [*, errW_none, errW_some] <;> rfl), by repeat (first | (with_reducible first | exact HB.out | apply below_alloc | apply pw_below_drewN | apply below_drew1 | refine below_set ?_ GE185.out) | exact HB.out)⟩
  · replace c3 := Bool.eq_false_iff.mpr c3
    subst c3
    have H1 : (some false) = some r := by rw [if_neg (show ¬ (false = true) by decide)] at H; exact H
    clear H
    have H := H1
    clear H1
    obtain rfl := Option.some.inj H
    go_enter Try.func89, Try.ntmps89
    go_wp2_with (first | ((with_reducible refine gate_dst (N := 1) rfl ?_); refine box_event ?hg (N := 1) ?hd (cs := #[.int .i64 a0_0, .int .i64 a0_1]) (t := 29) ?hr ?_; (case hd => rfl); (case hg => rfl); (case hr => first | (go_simp; done) | (go_simp; rfl)); intro gb185 hg w7 hbox hb; have n0_ := Aside0.mk (below_step (bl HB) hb); have n1_ := Aside0.mk (hbox); have n2_ := Aside0.mk ((by rw [hg]; exact (below_size (bl HB)) : w.heap.size ≤ gb185)); have n3_ := Aside0.mk ((by rw [hg]; exact (below_size (bl HB)) : w.heap.size ≤ gb185)); clear HB; have HB := n0_; have BK185 := n1_; have GW185 := n2_; have GE185 := n3_; clear n0_ n1_ n2_ n3_; clear hb hbox hg; have hcz8_0 : w7.cell? ⟨gb185, 0, none⟩ = some (.int .i64 a0_0) := (blk_cell BK185.out 0).trans rfl; have hcz8_1 : w7.cell? ⟨gb185, 1, none⟩ = some (.int .i64 a0_1) := (blk_cell BK185.out 1).trans rfl; have hfz8_0 := blk_frozen BK185.out 0; have hfz8_1 := blk_frozen BK185.out 1) | ((with_reducible refine gate_callee (f := 47) rfl ?_); refine goesL_ (some 5) rfl rfl Try.func47 (by kernel_rfl) rfl #[.int .i64 a0_0] rfl (by (try simp only [List.map_toArray, List.map_cons, List.map_nil]); first | done | rfl | (simp only [List.length_drop, List.length_take]; rfl)) ?_; (with_reducible refine (impl_outside.calls a0_0 false _ A2.out).mono ?_); rintro e w' ⟨rfl, ⟨nd, rfl⟩⟩; refine ⟨_, rfl, ?_⟩))
    go_ret
    exact ⟨by first | rfl | (simp [errW_none, errW_some] <;> rfl) | (simp [*, errW_none, errW_some] <;> rfl), by repeat (first | (with_reducible first | exact HB.out | apply below_alloc | apply pw_below_drewN | apply below_drew1 | refine below_set ?_ GE185.out) | exact HB.out)⟩

end Go.Proofs.Ytiocgkggegahhaa.P

/- What ends and ports are, in plain words. -/
namespace Go.Proofs.Ytiocgkggegahhaa.P
open Go.RowKit Go.Proofs.YtiocgkggegahhaaUFnMapPut.PrintWords Go.Proofs.YtiocgkggegahhaaUFnMapPut.PrintLast Go.Proofs.YtiocgkggegahhaaUFnMapPut.PrintMore
set_option linter.unusedVariables false
set_option linter.unusedSimpArgs false
def inB (n lo hi : Int) : Bool := decide (lo ≤ n) && decide (n ≤ hi)
theorem within_f (n lo hi : Int) : impl_within.f n lo hi = some (inB n lo hi) := by
  unfold impl_within.f inB
  by_cases h : lo ≤ n <;> simp [h]
theorem inside_f (n : Int) : impl_inside.f n = some (inB n 1 9) := by unfold impl_inside.f; rw [within_f]; rfl
theorem outside_f (n : Int) : impl_outside.f n = some (inB n 100 109) := by unfold impl_outside.f; rw [within_f]; rfl
theorem portOk_f (n : Int) : impl_portOk.f n = some (inB n 1 999) := by unfold impl_portOk.f; rw [within_f]; rfl
def endIn (a p : Int) : Bool := inB a 1 9 && inB p 1 999
def endOut (a p : Int) : Bool := inB a 100 109 && inB p 1 999
theorem EndInside_f (a p : Int) : impl_EndInside.f a p = some (endIn a p) := by
  unfold impl_EndInside.f endIn
  rw [inside_f, Option.bind_some]
  cases h : inB a 1 9 <;> simp [portOk_f]
theorem EndOutside_f (a p : Int) : impl_EndOutside.f a p = some (endOut a p) := by
  unfold impl_EndOutside.f endOut
  rw [outside_f, Option.bind_some]
  cases h : inB a 100 109 <;> simp [portOk_f]
end Go.Proofs.Ytiocgkggegahhaa.P

/- What the reader of drawn bytes answers: one pick. -/
namespace Go.Proofs.Ytiocgkggegahhaa.P
open Go.RowKit Go.Proofs.YtiocgkggegahhaaUFnMapPut.PrintWords Go.Proofs.YtiocgkggegahhaaUFnMapPut.PrintLast Go.Proofs.YtiocgkggegahhaaUFnMapPut.PrintMore
set_option linter.unusedVariables false
set_option linter.unusedSimpArgs false
theorem i64_xor_nat (a b : Nat) (ha : a < 2 ^ 62) (hb : b < 2 ^ 62) : Go.bits .xor .i64 (a : Int) (b : Int) = ((a ^^^ b : Nat) : Int) := by
  have hx : a ^^^ b < 2 ^ 62 := Nat.xor_lt_two_pow ha hb
  show IntKind.i64.wrap ((BitVec.ofInt 64 (a : Int) ^^^ BitVec.ofInt 64 (b : Int)).toNat : Int) = _
  have e : ∀ n : Nat, n < 2 ^ 62 → (BitVec.ofInt 64 (n : Int)).toNat = n := by
    intro n hn
    rw [BitVec.ofInt_natCast, BitVec.toNat_ofNat]; exact Nat.mod_eq_of_lt (by omega)
  rw [BitVec.toNat_xor, e a ha, e b hb]
  rw [i64_w]; unfold wrap64; omega
theorem i64_xor_nonneg (a b : Int) (h1 : 0 ≤ a) (h2 : a < 2 ^ 62) (h3 : 0 ≤ b) (h4 : b < 2 ^ 62) : 0 ≤ Go.bits .xor .i64 a b := by
  obtain ⟨A, rfl⟩ := Int.eq_ofNat_of_zero_le h1
  obtain ⟨B, rfl⟩ := Int.eq_ofNat_of_zero_le h3
  rw [i64_xor_nat A B (by omega) (by omega)]
  omega
theorem w64 (n : Int) (h : -9223372036854775808 ≤ n ∧ n ≤ 9223372036854775807) : wrap64 n = n := by unfold wrap64; omega
/-- Every byte of the list. -/
def Bys (l : List Int) : Prop := ∀ x ∈ l, 0 ≤ x ∧ x ≤ 255
theorem rd_bys {l : List Int} (h : Bys l) (i : Int) : 0 ≤ rd l i ∧ rd l i ≤ 255 := by
  unfold rd
  by_cases hi : i.toNat < l.length
  · have e : l.getD i.toNat 0 = l[i.toNat] := by simp [List.getD, hi]
    rw [e]; exact h _ (List.getElem_mem hi)
  · have e : l.getD i.toNat 0 = 0 := by simp [List.getD, Nat.not_lt.mp hi]
    rw [e]; omega
theorem tmod_in {a n : Int} (ha : 0 ≤ a) (hn : 1 ≤ n) : 0 ≤ Int.tmod a n ∧ Int.tmod a n < n := by
  rw [Int.tmod_eq_emod_of_nonneg ha]
  exact ⟨Int.emod_nonneg _ (by omega), Int.emod_lt_of_pos _ (by omega)⟩
theorem tdiv_in {a n : Int} (ha : 0 ≤ a) (hn : 1 ≤ n) : 0 ≤ Int.tdiv a n ∧ Int.tdiv a n ≤ a := by
  rw [Int.tdiv_eq_ediv_of_nonneg ha]
  exact ⟨Int.ediv_nonneg ha (by omega), Int.ediv_le_self _ ha⟩
/-- One pick: it answers, within its bound, and the place moves on by one. -/
theorem pick_f {l : List Int} (hl : Bys l) (s n : Int) (k : Nat) (hs : 0 ≤ s) (hs' : s < 1000000) : ∃ v, spec_l20Rd_pick.f (k + 1) l s n = some (v, s + 1) ∧ 0 ≤ v ∧ (v < n ∨ v = 0) := by
  unfold spec_l20Rd_pick.f spec_l20Rd_pick.j0
  dsimp only
  have e1 : wrap64 (s + 1) = s + 1 := w64 _ (by omega)
  have e2 : wrap64 (s + 1 - 1) = s := by rw [show s + 1 - 1 = s by omega]; exact w64 _ (by omega)
  by_cases c : n < 1
  · exact ⟨0, by simp [c, e1], by omega, .inr rfl⟩
  · rw [if_neg c, e1]
    simp only [e2]
    by_cases c0 : (l.length : Int) = 0
    · exact ⟨0, by simp [c0], by omega, .inr rfl⟩
    · have cb : ¬ (((l.length : Int) == 0) = true) := by simpa using c0
      have cn : ¬ (n = 0) := by omega
      rw [if_neg cb]
      by_cases c1 : s < (l.length : Int)
      · have hb := rd_bys hl s
        have hm := tmod_in hb.1 (show 1 ≤ n by omega)
        refine ⟨_, by rw [if_pos c1, if_pos hs, if_neg cn, w64 (rd l s) (by omega)], hm.1, .inl hm.2⟩
      · have hL : 1 ≤ (l.length : Int) := by omega
        have m1 := tmod_in hs hL
        have f1 : wrap64 (s * 7) = s * 7 := w64 _ (by omega)
        have f2 : wrap64 (s * 7 + 3) = s * 7 + 3 := w64 _ (by omega)
        have m2 := tmod_in (show 0 ≤ s * 7 + 3 by omega) hL
        rw [if_neg c1, if_neg c0, if_pos m1.1, if_pos m1.2]
        simp only [f1, f2]
        rw [if_pos m2.1, if_pos m2.2, if_neg cn]
        have r1 := rd_bys hl (Int.tmod s (l.length : Int))
        have r2 := rd_bys hl (Int.tmod (s * 7 + 3) (l.length : Int))
        have d1 := tdiv_in hs hL
        generalize rd l (Int.tmod s (l.length : Int)) = u1 at *
        generalize rd l (Int.tmod (s * 7 + 3) (l.length : Int)) = u2 at *
        generalize Int.tdiv s (l.length : Int) = u3 at *
        have g1 : wrap64 u1 = u1 := w64 _ (by omega)
        have g2 : wrap64 u2 = u2 := w64 _ (by omega)
        have g3 : wrap64 u3 = u3 := w64 _ (by omega)
        have g4 : wrap64 (u1 * 131) = u1 * 131 := w64 _ (by omega)
        have g5 : wrap64 (u2 * 1117) = u2 * 1117 := w64 _ (by omega)
        have g6 : wrap64 (s * 29) = s * 29 := w64 _ (by omega)
        have g7 : wrap64 (u3 * 53) = u3 * 53 := w64 _ (by omega)
        simp only [g1, g2, g3, g4, g5, g6, g7]
        have g8 : wrap64 (u1 * 131 + u2 * 1117) = u1 * 131 + u2 * 1117 := w64 _ (by omega)
        rw [g8]
        have g9 : wrap64 (u1 * 131 + u2 * 1117 + s * 29) = u1 * 131 + u2 * 1117 + s * 29 := w64 _ (by omega)
        rw [g9]
        have g10 : wrap64 (u1 * 131 + u2 * 1117 + s * 29 + u3 * 53) = u1 * 131 + u2 * 1117 + s * 29 + u3 * 53 := w64 _ (by omega)
        rw [g10]
        have hX0 : 0 ≤ u1 * 131 + u2 * 1117 + s * 29 + u3 * 53 := by omega
        have hX1 : u1 * 131 + u2 * 1117 + s * 29 + u3 * 53 < 1000000000 := by omega
        generalize u1 * 131 + u2 * 1117 + s * 29 + u3 * 53 = X at *
        have d2 := tdiv_in hX0 (show (1:Int) ≤ 64 by omega)
        have g11 : wrap64 (Int.tdiv X 64) = Int.tdiv X 64 := w64 _ (by omega)
        rw [g11]
        have hz := i64_xor_nonneg X (Int.tdiv X 64) hX0 (by omega) d2.1 (by omega)
        have hm := tmod_in hz (show 1 ≤ n by omega)
        exact ⟨_, rfl, hm.1, .inl hm.2⟩
theorem odd_f {l : List Int} (hl : Bys l) (s n : Int) (k : Nat) (hs : 0 ≤ s) (hs' : s < 1000000) : ∃ b s', spec_l20Rd_odd.f (k + 1) l s n = some (b, s') ∧ s ≤ s' ∧ s' ≤ s + 1 := by
  unfold spec_l20Rd_odd.f
  by_cases c : n < 9000
  · obtain ⟨v, h, _⟩ := pick_f hl s n k hs hs'
    exact ⟨_, s + 1, by rw [if_pos c, h]; rfl, by omega, by omega⟩
  · exact ⟨_, _, by rw [if_neg c], by omega, by omega⟩
theorem open_f (l : List Int) (hl : Bys l) : ∃ l', spec_l20Open.f l = some (l', 0) ∧ Bys l' := by
  unfold spec_l20Open.f
  by_cases c : (l.length : Int) > 2000
  · exact ⟨l.take 2000, by rw [if_pos c, if_pos (by omega)], fun x h => hl x (List.mem_of_mem_take h)⟩
  · exact ⟨l, by rw [if_neg c], hl⟩

theorem rd_three (a b c i : Int) (h : 0 ≤ i ∧ (i < 3 ∨ i = 0)) : rd ([a, b, c] : List Int) i = a ∨ rd ([a, b, c] : List Int) i = b ∨ rd ([a, b, c] : List Int) i = c := by
  have : i = 0 ∨ i = 1 ∨ i = 2 := by omega
  rcases this with rfl | rfl | rfl
  · exact .inl rfl
  · exact .inr (.inl rfl)
  · exact .inr (.inr rfl)
theorem rd_two (a b i : Int) (h : 0 ≤ i ∧ (i < 2 ∨ i = 0)) : rd ([a, b] : List Int) i = a ∨ rd ([a, b] : List Int) i = b := by
  have : i = 0 ∨ i = 1 := by omega
  rcases this with rfl | rfl
  · exact .inl rfl
  · exact .inr rfl
/-- Small whole numbers. -/
def Sm (n : Int) : Prop := -10 ≤ n ∧ n ≤ 1200
end Go.Proofs.Ytiocgkggegahhaa.P

/- Functions with rounds: what they answer from some round on. -/
namespace Go.Proofs.Ytiocgkggegahhaa.P
open Go.RowKit Go.Proofs.YtiocgkggegahhaaUFnMapPut.PrintWords Go.Proofs.YtiocgkggegahhaaUFnMapPut.PrintLast Go.Proofs.YtiocgkggegahhaaUFnMapPut.PrintMore
set_option linter.unusedVariables false
set_option linter.unusedSimpArgs false
/-- From some round on, the function answers one value, of which P holds. -/
def Ans {α : Type} (f : Nat → Option α) (P : α → Prop) : Prop := ∃ K v, P v ∧ ∀ k, K ≤ k → f k = some v
namespace Ans
variable {α β : Type} {f g : Nat → Option α} {P Q : α → Prop}
theorem of {v : α} (h : ∀ k, f k = some v) (p : P v) : Ans f P := ⟨0, v, p, fun k _ => h k⟩
theorem pure {v : α} (p : P v) : Ans (fun _ => some v) P := ⟨0, v, p, fun k _ => rfl⟩
theorem mono (h : Ans f P) (hq : ∀ v, P v → Q v) : Ans f Q := by obtain ⟨K, v, p, e⟩ := h; exact ⟨K, v, hq v p, e⟩
theorem succ (h : Ans (fun k => f (k + 1)) P) : Ans f P := by
  obtain ⟨K, v, p, e⟩ := h
  refine ⟨K + 1, v, p, fun k hk => ?_⟩
  obtain ⟨k', rfl⟩ : ∃ k', k = k' + 1 := ⟨k - 1, by omega⟩
  exact e k' (by omega)
theorem bind {a : Nat → Option β} {R : β → Prop} {b : Nat → β → Option α} (h : Ans a R) (hb : ∀ v, R v → Ans (fun k => b k v) P) : Ans (fun k => (a k).bind (b k)) P := by
  obtain ⟨K, v, p, e⟩ := h
  obtain ⟨K', u, q, e'⟩ := hb v p
  exact ⟨max K K', u, q, fun k hk => by show (a k).bind (b k) = some u; rw [e k (by omega)]; exact e' k (by omega)⟩
theorem bsome {v : β} {b : Nat → β → Option α} (h : Ans (fun k => b k v) P) : Ans (fun k => (some v).bind (b k)) P := h
theorem congr (h : Ans g P) (e : ∀ k, f k = g k) : Ans f P := by obtain ⟨K, v, p, e'⟩ := h; exact ⟨K, v, p, fun k hk => (e k).trans (e' k hk)⟩
theorem got (h : Ans f P) : ∃ k v, P v ∧ f k = some v := by obtain ⟨K, v, p, e⟩ := h; exact ⟨K, v, p, e K (Nat.le_refl _)⟩
theorem pos {c : Prop} [Decidable c] (h : c) (ht : Ans f P) : Ans (fun k => if c then f k else g k) P := congr ht (fun k => if_pos h)
theorem neg {c : Prop} [Decidable c] (h : ¬ c) (ht : Ans g P) : Ans (fun k => if c then f k else g k) P := congr ht (fun k => if_neg h)
theorem ite {c : Prop} [Decidable c] (ht : c → Ans f P) (he : ¬ c → Ans g P) : Ans (fun k => if c then f k else g k) P := by
  by_cases h : c
  · exact pos h (ht h)
  · exact neg h (he h)
end Ans
/-- A place among the drawn bytes, at most n. -/
def At (n s : Int) : Prop := 0 ≤ s ∧ s ≤ n
theorem pick_a {l : List Int} (hl : Bys l) {s B : Int} (hs : At B s) (hB : B < 900000) (n : Int) : Ans (fun k => spec_l20Rd_pick.f k l s n) (fun r => At (B + 1) r.2 ∧ 0 ≤ r.1 ∧ (r.1 < n ∨ r.1 = 0)) := by
  obtain ⟨h0, h1⟩ := hs
  refine Ans.succ ?_
  obtain ⟨v, h, p⟩ := pick_f hl s n 0 h0 (by omega)
  refine Ans.of (v := (v, s + 1)) (fun k => ?_) ⟨⟨by omega, by first | omega | (dsimp only; omega)⟩, p⟩
  obtain ⟨v', h', _⟩ := pick_f hl s n k h0 (by omega)
  have e : spec_l20Rd_pick.f (k + 1) l s n = spec_l20Rd_pick.f (0 + 1) l s n := by
    unfold spec_l20Rd_pick.f spec_l20Rd_pick.j0
    rfl
  rw [e, h]
theorem odd_a {l : List Int} (hl : Bys l) {s B : Int} (hs : At B s) (hB : B < 900000) (n : Int) : Ans (fun k => spec_l20Rd_odd.f k l s n) (fun r => At (B + 1) r.2) := by
  unfold spec_l20Rd_odd.f
  refine Ans.ite (fun _ => ?_) (fun _ => Ans.pure ⟨hs.1, by have := hs.2; dsimp only; omega⟩)
  refine Ans.bind (pick_a hl hs hB n) ?_
  rintro ⟨v, s'⟩ ⟨h, _⟩
  exact Ans.pure h
theorem at_le {B B' s : Int} (h : At B s) (hb : B ≤ B') : At B' s := ⟨h.1, by have := h.2; omega⟩
theorem sm_rd {xs : List Int} (h : ∀ x ∈ xs, Sm x) (i : Int) : Sm (rd xs i) := by
  unfold rd
  by_cases hi : i.toNat < xs.length
  · have e : xs.getD i.toNat 0 = xs[i.toNat] := by simp [List.getD, hi]
    rw [e]; exact h _ (List.getElem_mem hi)
  · have e : xs.getD i.toNat 0 = 0 := by simp [List.getD, Nat.not_lt.mp hi]
    rw [e]; unfold Sm; omega
end Go.Proofs.Ytiocgkggegahhaa.P

-- written by hw.py for this claim
namespace Go.Proofs.Ytiocgkggegahhaa.P
open Go.RowKit Go.Proofs.YtiocgkggegahhaaUFnMapPut.PrintWords Go.Proofs.YtiocgkggegahhaaUFnMapPut.PrintLast Go.Proofs.YtiocgkggegahhaaUFnMapPut.PrintMore
attribute [local go_sem] max2_int min2_int max_two min_two max_three min_three max_four min_four
set_option linter.unusedVariables false
set_option linter.unusedSimpArgs false

/-! ### spec_EndOutside: function 23 -/
def spec_EndOutside.f (a0_0 : Int) (a0_1 : Int) : Option (Bool) := (spec_l1In.f a0_0 100 109).bind fun t221 => (if t221 = true then ((spec_l1In.f a0_1 1 999).bind fun t222 => (some t222)) else (some false))
set_option maxHeartbeats 8000000 in
set_option maxRecDepth 100000 in
theorem spec_EndOutside.calls (a0_0 : Int) (a0_1 : Int) (r : Bool) (w : World) (h : spec_EndOutside.f a0_0 a0_1 = some r) :
    Calls Try.prog 23 #[.agg #[.int .i64 a0_0, .int .i64 a0_1]] w fun e w' => e = .returned (.bool r) ∧ Below w.heap.size w w' := by
  have hu29 := Try.underlying29
  have HB := Aside0.mk (Below.refl w.heap.size w)
  have H : ((spec_l1In.f a0_0 100 109).bind fun t221 => (if t221 = true then ((spec_l1In.f a0_1 1 999).bind fun t222 => (some t222)) else (some false))) = some r := h
  clear h
  replace H := Option.bind_eq_some_iff.mp H
  obtain ⟨t221, A20, H⟩ := H
  replace H : (if t221 = true then ((spec_l1In.f a0_1 1 999).bind fun t222 => (some t222)) else (some false)) = some r := H
  have A2 := Aside0.mk A20
  clear A20
  by_cases c3 : t221 = true
  · subst c3
    have H1 : ((spec_l1In.f a0_1 1 999).bind fun t222 => (some t222)) = some r := by rw [if_pos rfl] at H; exact H
    clear H
    have H := H1
    clear H1
    replace H := Option.bind_eq_some_iff.mp H
    obtain ⟨t222, A40, H⟩ := H
    replace H : (some t222) = some r := H
    have A4 := Aside0.mk A40
    clear A40
    obtain rfl := Option.some.inj H
    go_enter Try.func23, Try.ntmps23
    go_wp2_with (first | ((with_reducible refine gate_dst (N := 1) rfl ?_); refine box_event ?hg (N := 1) ?hd (cs := #[.int .i64 a0_0, .int .i64 a0_1]) (t := 29) ?hr ?_; (case hd => rfl); (case hg => rfl); (case hr => first | (go_simp; done) | (go_simp; rfl)); intro gb220 hg w5 hbox hb; have n0_ := Aside0.mk (below_step (bl HB) hb); have n1_ := Aside0.mk (hbox); have n2_ := Aside0.mk ((by rw [hg]; exact (below_size (bl HB)) : w.heap.size ≤ gb220)); have n3_ := Aside0.mk ((by rw [hg]; exact (below_size (bl HB)) : w.heap.size ≤ gb220)); clear HB; have HB := n0_; have BK220 := n1_; have GW220 := n2_; have GE220 := n3_; clear n0_ n1_ n2_ n3_; clear hb hbox hg; have hcz6_0 : w5.cell? ⟨gb220, 0, none⟩ = some (.int .i64 a0_0) := (blk_cell BK220.out 0).trans rfl; have hcz6_1 : w5.cell? ⟨gb220, 1, none⟩ = some (.int .i64 a0_1) := (blk_cell BK220.out 1).trans rfl; have hfz6_0 := blk_frozen BK220.out 0; have hfz6_1 := blk_frozen BK220.out 1) | ((with_reducible refine gate_callee (f := 49) rfl ?_); refine goesL_ (some 5) rfl rfl Try.func49 (by kernel_rfl) rfl #[.int .i64 a0_0, .int .i64 100, .int .i64 109] rfl (by (try simp only [List.map_toArray, List.map_cons, List.map_nil]); first | done | rfl | (simp only [List.length_drop, List.length_take]; rfl)) ?_; (with_reducible refine (spec_l1In.calls a0_0 100 109 true _ A2.out).mono ?_); rintro e w' ⟨rfl, ⟨nd, rfl⟩⟩; refine ⟨_, rfl, ?_⟩) | (go_at_call 49; (with_reducible refine (spec_l1In.calls a0_1 1 999 t222 _ A4.out).mono ?_); rintro e w' ⟨rfl, ⟨nd, rfl⟩⟩))
    go_ret
    exact ⟨by first | rfl | (simp [errW_none, errW_some] <;> rfl) | (simp [*, errW_none, errW_some] <;> rfl), by repeat (first | (with_reducible first | exact HB.out | apply below_alloc | apply pw_below_drewN | apply below_drew1 | refine below_set ?_ GE220.out) | exact HB.out)⟩
  · replace c3 := Bool.eq_false_iff.mpr c3
    subst c3
    have H1 : (some false) = some r := by rw [if_neg (show ¬ (false = true) by decide)] at H; exact H
    clear H
    have H := H1
    clear H1
    obtain rfl := Option.some.inj H
    go_enter Try.func23, Try.ntmps23
    go_wp2_with (first | ((with_reducible refine gate_dst (N := 1) rfl ?_); refine box_event ?hg (N := 1) ?hd (cs := #[.int .i64 a0_0, .int .i64 a0_1]) (t := 29) ?hr ?_; (case hd => rfl); (case hg => rfl); (case hr => first | (go_simp; done) | (go_simp; rfl)); intro gb220 hg w7 hbox hb; have n0_ := Aside0.mk (below_step (bl HB) hb); have n1_ := Aside0.mk (hbox); have n2_ := Aside0.mk ((by rw [hg]; exact (below_size (bl HB)) : w.heap.size ≤ gb220)); have n3_ := Aside0.mk ((by rw [hg]; exact (below_size (bl HB)) : w.heap.size ≤ gb220)); clear HB; have HB := n0_; have BK220 := n1_; have GW220 := n2_; have GE220 := n3_; clear n0_ n1_ n2_ n3_; clear hb hbox hg; have hcz8_0 : w7.cell? ⟨gb220, 0, none⟩ = some (.int .i64 a0_0) := (blk_cell BK220.out 0).trans rfl; have hcz8_1 : w7.cell? ⟨gb220, 1, none⟩ = some (.int .i64 a0_1) := (blk_cell BK220.out 1).trans rfl; have hfz8_0 := blk_frozen BK220.out 0; have hfz8_1 := blk_frozen BK220.out 1) | ((with_reducible refine gate_callee (f := 49) rfl ?_); refine goesL_ (some 5) rfl rfl Try.func49 (by kernel_rfl) rfl #[.int .i64 a0_0, .int .i64 100, .int .i64 109] rfl (by (try simp only [List.map_toArray, List.map_cons, List.map_nil]); first | done | rfl | (simp only [List.length_drop, List.length_take]; rfl)) ?_; (with_reducible refine (spec_l1In.calls a0_0 100 109 false _ A2.out).mono ?_); rintro e w' ⟨rfl, ⟨nd, rfl⟩⟩; refine ⟨_, rfl, ?_⟩))
    go_ret
    exact ⟨by first | rfl | (simp [errW_none, errW_some] <;> rfl) | (simp [*, errW_none, errW_some] <;> rfl), by repeat (first | (with_reducible first | exact HB.out | apply below_alloc | apply pw_below_drewN | apply below_drew1 | refine below_set ?_ GE220.out) | exact HB.out)⟩

end Go.Proofs.Ytiocgkggegahhaa.P

/- Ends in plain words: what the spec answers. -/
namespace Go.Proofs.Ytiocgkggegahhaa.P
open Go.RowKit Go.Proofs.YtiocgkggegahhaaUFnMapPut.PrintWords Go.Proofs.YtiocgkggegahhaaUFnMapPut.PrintLast Go.Proofs.YtiocgkggegahhaaUFnMapPut.PrintMore
set_option linter.unusedVariables false
set_option linter.unusedSimpArgs false
theorem bys_of {l : List Int} (hw : ∀ x ∈ l, (Lit.int .u8 x).wf = true) : Bys l := fun x hx => by
  have := hw x hx
  simp [Lit.wf, IntKind.min, IntKind.max, IntKind.signed, IntKind.bits] at this
  omega
theorem l1In_f (n lo hi : Int) : spec_l1In.f n lo hi = some (inB n lo hi) := by
  unfold spec_l1In.f inB
  by_cases h : lo ≤ n <;> simp [h]
theorem haOk_f : laws_haOk.f = some true := by
  unfold laws_haOk.f impl_LinOk.f
  rfl
theorem wi (i : Nat) (h : i ≤ 100000) : wrap64 ((i : Int) + 1) = ((i + 1 : Nat) : Int) := by rw [w64 _ (by omega)]; push_cast; rfl
theorem specEndInside_f (a p : Int) : spec_EndInside.f a p = some (endIn a p) := by
  unfold spec_EndInside.f endIn
  simp only [l1In_f, Option.bind_some]
  cases inB a 1 9 <;> simp
theorem specEndOutside_f (a p : Int) : spec_EndOutside.f a p = some (endOut a p) := by
  unfold spec_EndOutside.f endOut
  simp only [l1In_f, Option.bind_some]
  cases inB a 100 109 <;> simp
end Go.Proofs.Ytiocgkggegahhaa.P

/- What the drawing functions answer: always something, its ends small. -/
namespace Go.Proofs.Ytiocgkggegahhaa.P
open Go.RowKit Go.Proofs.YtiocgkggegahhaaUFnMapPut.PrintWords Go.Proofs.YtiocgkggegahhaaUFnMapPut.PrintLast Go.Proofs.YtiocgkggegahhaaUFnMapPut.PrintMore
set_option linter.unusedVariables false
set_option linter.unusedSimpArgs false
theorem in_a {l : List Int} (hl : Bys l) {s B : Int} (hs : At B s) (hB : B < 800000) : Ans (fun k => spec_l20In.f k l s) (fun r => At (B + 3) r.2.2 ∧ Sm r.1 ∧ Sm r.2.1) := by
  unfold spec_l20In.f
  refine Ans.bind (pick_a hl hs (by omega) 4) ?_
  rintro ⟨v1, s1⟩ ⟨h1, p1⟩
  refine Ans.bind (pick_a hl h1 (by omega) 40) ?_
  rintro ⟨v2, s2⟩ ⟨h2, p2⟩
  dsimp only at *
  simp only [Option.bind_some]
  refine Ans.bind (pick_a hl h2 (by omega) 5) ?_
  rintro ⟨v3, s3⟩ ⟨h3, p3⟩
  dsimp only at *
  refine Ans.pos p3.1 (Ans.pos (by simp; omega) (Ans.pure ⟨at_le h3 (by omega), ?_, sm_rd ?_ _⟩))
  · rw [w64 _ (by omega)]; unfold Sm; omega
  · intro x hx
    have e : wrap64 (1 + v2) = 1 + v2 := w64 _ (by omega)
    rw [e] at hx
    simp at hx
    unfold Sm
    omega
theorem out_a {l : List Int} (hl : Bys l) {s B : Int} (hs : At B s) (hB : B < 800000) : Ans (fun k => spec_l20Out.f k l s) (fun r => At (B + 2) r.2.2 ∧ Sm r.1 ∧ Sm r.2.1) := by
  unfold spec_l20Out.f
  refine Ans.bind (pick_a hl hs (by omega) 3) ?_
  rintro ⟨v1, s1⟩ ⟨h1, p1⟩
  simp only [Option.bind_some]
  dsimp only at *
  refine Ans.bind (pick_a hl h1 (by omega) 4) ?_
  rintro ⟨v3, s3⟩ ⟨h3, p3⟩
  dsimp only at *
  refine Ans.pos p3.1 (Ans.pos (by simp; omega) (Ans.pure ⟨at_le h3 (by omega), ?_, sm_rd ?_ _⟩))
  · rw [w64 _ (by omega)]; unfold Sm; omega
  · intro x hx
    simp at hx
    unfold Sm
    omega
theorem sm_rd29 {xs : List S29} (h : ∀ x ∈ xs, Sm x.f0 ∧ Sm x.f1) (i : Int) : Sm (rd_T29 xs i).f0 ∧ Sm (rd_T29 xs i).f1 := by
  unfold rd_T29
  by_cases hi : i.toNat < xs.length
  · have e : xs.getD i.toNat z29 = xs[i.toNat] := by simp [List.getD, hi]
    rw [e]; exact h _ (List.getElem_mem hi)
  · have e : xs.getD i.toNat z29 = z29 := by simp [List.getD, Nat.not_lt.mp hi]
    rw [e]; unfold Sm z29; exact ⟨by decide, by decide⟩
theorem end_a {l : List Int} (hl : Bys l) {s B : Int} (hs : At B s) (hB : B < 700000) (n : Int) : Ans (fun k => spec_l20End.f k l s n) (fun r => At (B + 8) r.2.2 ∧ Sm r.1 ∧ Sm r.2.1) := by
  unfold spec_l20End.f
  refine Ans.bind (odd_a hl hs (by omega) n) ?_
  rintro ⟨b, s1⟩ h1
  dsimp only at *
  refine Ans.ite (fun _ => ?_) (fun _ => ?_)
  · simp only [Option.bind_some]
    refine Ans.bind (pick_a hl h1 (by omega) 6) ?_
    rintro ⟨v3, s3⟩ ⟨h3, p3⟩
    dsimp only at *
    refine Ans.pos p3.1 (Ans.pos (by simp; omega) (Ans.pure ⟨at_le h3 (by omega), sm_rd29 ?_ _⟩))
    intro x hx
    simp at hx
    unfold Sm
    rcases hx with rfl | rfl | rfl | rfl | rfl | rfl <;> exact ⟨by decide, by decide⟩
  · refine Ans.bind (in_a hl h1 (by omega)) ?_
    rintro ⟨a1, a2, s2⟩ ⟨h2, m1, m2⟩
    dsimp only at *
    refine Ans.bind (out_a hl h2 (by omega)) ?_
    rintro ⟨b1, b2, s3⟩ ⟨h3, m3, m4⟩
    dsimp only at *
    refine Ans.bind (pick_a hl h3 (by omega) 7) ?_
    rintro ⟨v4, s4⟩ ⟨h4, p4⟩
    simp only [Option.bind_some]
    dsimp only at *
    refine Ans.bind (pick_a hl h4 (by omega) 3) ?_
    rintro ⟨v5, s5⟩ ⟨h5, p5⟩
    dsimp only at *
    refine Ans.pos p5.1 (Ans.pos (by simp; omega) (Ans.pure ⟨at_le h5 (by omega), sm_rd29 ?_ _⟩))
    intro x hx
    have e : wrap64 (500 + v4) = 500 + v4 := w64 _ (by omega)
    rw [e] at hx
    simp at hx
    rcases hx with rfl | rfl | rfl
    · exact ⟨m1, m2⟩
    · exact ⟨m3, m4⟩
    · unfold Sm; exact ⟨by first | omega | (dsimp only; omega), by first | omega | (dsimp only; omega)⟩
end Go.Proofs.Ytiocgkggegahhaa.P

/- Tables in plain words: what the program's and the spec's functions on them answer is one thing. -/
namespace Go.Proofs.Ytiocgkggegahhaa.P
open Go.RowKit Go.Proofs.YtiocgkggegahhaaUFnMapPut.PrintWords Go.Proofs.YtiocgkggegahhaaUFnMapPut.PrintLast Go.Proofs.YtiocgkggegahhaaUFnMapPut.PrintMore
set_option linter.unusedVariables false
set_option linter.unusedSimpArgs false
theorem fnd_nil (a b : Int) : fnd [] a b = none := rfl
theorem fnd_cons (x : S29) (r : List S29) (a b : Int) : fnd (x :: r) a b = if x.f0 = a ∧ x.f1 = b then some 0 else (fnd r a b).map (· + 1) := by
  unfold fnd
  rw [List.findIdx?_cons]
  by_cases h : x.f0 = a ∧ x.f1 = b
  · simp [h]
  · rw [if_neg h]
    have : (x.f0 == a && x.f1 == b) = false := by
      rw [Bool.eq_false_iff]
      simpa using h
    simp [this]
theorem fnd_lt {l : List S29} {a b : Int} {i : Nat} (h : fnd l a b = some i) : i < l.length ∧ ∀ hi : i < l.length, l[i].f0 = a ∧ l[i].f1 = b := by
  unfold fnd at h
  rw [List.findIdx?_eq_some_iff_getElem] at h
  obtain ⟨h1, h2, _⟩ := h
  exact ⟨h1, fun _ => by simpa using h2⟩
theorem fnd_app (l r : List S29) (a b : Int) : fnd (l ++ r) a b = (match fnd l a b with | some i => some i | none => (fnd r a b).map (· + l.length)) := by
  unfold fnd
  rw [List.findIdx?_append]
  cases l.findIdx? (fun x => x.f0 == a && x.f1 == b) <;> simp
theorem fnd_mem {l : List S29} {x : S29} (h : x ∈ l) : (fnd l x.f0 x.f1).isSome = true := by
  unfold fnd
  rw [List.findIdx?_isSome]
  exact List.any_eq_true.mpr ⟨x, h, by simp⟩
def sign (o : Option Nat) : Int := match o with | none => -1 | some i => (i : Int)
theorem rd29_drop {l : List S29} {i : Nat} (h : i < l.length) : l.drop i = rd_T29 l (i : Int) :: l.drop (i + 1) := by
  rw [rd29_get h]
  exact List.drop_eq_getElem_cons h
theorem rd29_take {l : List S29} {i : Nat} (h : i < l.length) : l.take (i + 1) = l.take i ++ [rd_T29 l (i : Int)] := by
  rw [rd29_get h]
  exact List.take_succ_eq_append_getElem h
/-- Where it stands, looked for from i on. -/
theorem l3Find_a (l : List S29) (hl : l.length ≤ 1000) (a b : Int) : Ans (fun k => spec_l3Find.f k l a b) (fun r => r = sign (fnd l a b)) := by
  have L : ∀ (m i : Nat), i + m = l.length → fnd (l.take i) a b = none → Ans (fun k => spec_l3Find.l0 k (i : Int) l a b) (fun r => r = sign (fnd l a b)) := by
    intro m
    induction m with
    | zero =>
      intro i hi hn
      refine Ans.succ ?_
      unfold spec_l3Find.l0
      rw [List.take_of_length_le (by omega)] at hn
      exact Ans.neg (by omega) (Ans.pure (by rw [hn]; rfl))
    | succ m ih =>
      intro i hi hn
      refine Ans.succ ?_
      unfold spec_l3Find.l0
      refine Ans.pos (by omega) (Ans.pos (by omega) ?_)
      have ht : fnd (l.take (i + 1)) a b = if (rd_T29 l (i : Int)).f0 = a ∧ (rd_T29 l (i : Int)).f1 = b then some i else none := by
        rw [rd29_take (by omega : i < l.length), fnd_app, hn, fnd_cons]
        have : (l.take i).length = i := by rw [List.length_take]; omega
        dsimp only
        by_cases hc : (rd_T29 l (i : Int)).f0 = a ∧ (rd_T29 l (i : Int)).f1 = b <;> simp [hc, this, fnd_nil]
      refine Ans.ite (fun c => Ans.pure ?_) (fun c => ?_)
      · have c' : (rd_T29 l (i : Int)).f0 = a ∧ (rd_T29 l (i : Int)).f1 = b := by simpa using c
        rw [if_pos c'] at ht
        have := List.take_append_drop (i + 1) l
        rw [← this, fnd_app, ht]
        rfl
      · have c' : ¬ ((rd_T29 l (i : Int)).f0 = a ∧ (rd_T29 l (i : Int)).f1 = b) := by simpa using c
        rw [if_neg c'] at ht
        rw [wi i (by omega)]
        exact ih (i + 1) (by omega) ht
  exact L l.length 0 (by omega) rfl
theorem contains_a (l : List S29) (hl : l.length ≤ 1000) (a b : Int) : Ans (fun k => impl_EndPoint_75.f k l a b) (fun r => r = (fnd l a b).isSome) := by
  unfold impl_EndPoint_75.f impl_EndPoint_97.f
  have L : ∀ (m i : Nat), i + m = l.length → fnd (l.take i) a b = none → Ans (fun k => impl_EndPoint_97.l0 k l (l.length : Int) (i : Int) a b) (fun r => r = sign (fnd l a b)) := by
    intro m
    induction m with
    | zero =>
      intro i hi hn
      refine Ans.succ ?_
      unfold impl_EndPoint_97.l0
      rw [List.take_of_length_le (by omega)] at hn
      exact Ans.neg (by omega) (Ans.pure (by rw [hn]; rfl))
    | succ m ih =>
      intro i hi hn
      refine Ans.succ ?_
      unfold impl_EndPoint_97.l0
      refine Ans.pos (by omega) (Ans.pos (by omega) (Ans.pos (by omega) ?_))
      have ht : fnd (l.take (i + 1)) a b = if (rd_T29 l (i : Int)).f0 = a ∧ (rd_T29 l (i : Int)).f1 = b then some i else none := by
        rw [rd29_take (by omega : i < l.length), fnd_app, hn, fnd_cons]
        have : (l.take i).length = i := by rw [List.length_take]; omega
        dsimp only
        by_cases hc : (rd_T29 l (i : Int)).f0 = a ∧ (rd_T29 l (i : Int)).f1 = b <;> simp [hc, this, fnd_nil]
      refine Ans.ite (fun c => Ans.pure ?_) (fun c => ?_)
      · have c' : (rd_T29 l (i : Int)).f0 = a ∧ (rd_T29 l (i : Int)).f1 = b := by
          simp only [Bool.and_eq_true, beq_iff_eq] at c
          exact ⟨c.1.symm, c.2.symm⟩
        rw [if_pos c'] at ht
        have := List.take_append_drop (i + 1) l
        rw [← this, fnd_app, ht]
        rfl
      · have c' : ¬ ((rd_T29 l (i : Int)).f0 = a ∧ (rd_T29 l (i : Int)).f1 = b) := by
          rintro ⟨h1, h2⟩
          exact c (by rw [h1, h2]; simp)
        rw [if_neg c'] at ht
        rw [wi i (by omega)]
        exact ih (i + 1) (by omega) ht
  refine Ans.bind (L l.length 0 (by omega) rfl) ?_
  rintro _ rfl
  refine Ans.pure ?_
  cases fnd l a b with
  | none => rfl
  | some i => simp [sign]
/-- No end twice, all inside. -/
def goodFrom (l : List S29) (i : Nat) : Bool := (List.range' i (l.length - i)).all fun j => endIn (rd_T29 l (j : Int)).f0 (rd_T29 l (j : Int)).f1 && !(fnd (l.take j) (rd_T29 l (j : Int)).f0 (rd_T29 l (j : Int)).f1).isSome
def okT (l : List S29) : Bool := decide ((l.length : Int) ≤ 6) && goodFrom l 0
theorem good_end {l : List S29} {i : Nat} (h : l.length ≤ i) : goodFrom l i = true := by
  unfold goodFrom
  rw [Nat.sub_eq_zero_of_le h]
  rfl
theorem good_step {l : List S29} {i : Nat} (h : i < l.length) : goodFrom l i = (endIn (rd_T29 l (i : Int)).f0 (rd_T29 l (i : Int)).f1 && !(fnd (l.take i) (rd_T29 l (i : Int)).f0 (rd_T29 l (i : Int)).f1).isSome && goodFrom l (i + 1)) := by
  unfold goodFrom
  obtain ⟨d, hd⟩ : ∃ d, l.length - i = d + 1 := ⟨l.length - i - 1, by omega⟩
  have hd' : l.length - (i + 1) = d := by omega
  rw [hd, hd', List.range'_succ, List.all_cons]
theorem specMapOk_a (l : List S29) (hl : l.length ≤ 1000) : Ans (fun k => spec_MapOk.f k l) (fun r => r = okT l) := by
  unfold spec_MapOk.f okT
  refine Ans.ite (fun c => Ans.pure ?_) (fun c => ?_)
  · have : ¬ ((l.length : Int) ≤ 6) := by omega
    simp [this]
  · have e : decide ((l.length : Int) ≤ 6) = true := by simp; omega
    rw [e]
    have L : ∀ (m i : Nat), i + m = l.length → Ans (fun k => spec_MapOk.l0 k (i : Int) l) (fun r => r = goodFrom l i) := by
      intro m
      induction m with
      | zero =>
        intro i hi
        refine Ans.succ ?_
        unfold spec_MapOk.l0
        exact Ans.neg (by omega) (Ans.pure (good_end (by omega)).symm)
      | succ m ih =>
        intro i hi
        refine Ans.succ ?_
        unfold spec_MapOk.l0
        refine Ans.pos (by omega) (Ans.pos (by omega) ?_)
        rw [good_step (by omega : i < l.length)]
        simp only [specEndInside_f, Option.bind_some]
        have e1 : ((i : Int)).toNat = i := by omega
        cases h1 : endIn (rd_T29 l (i : Int)).f0 (rd_T29 l (i : Int)).f1
        · exact Ans.neg (by simp) (Ans.pure (by simp))
        refine Ans.pos rfl (Ans.pos (by omega) ?_)
        rw [e1, wi i (by omega)]
        refine Ans.bind (l3Find_a (l.take i) (by rw [List.length_take]; omega) _ _) ?_
        rintro _ rfl
        cases hf : fnd (l.take i) (rd_T29 l (i : Int)).f0 (rd_T29 l (i : Int)).f1 with
        | none =>
          refine Ans.neg (by simp [sign]) ?_
          simpa using ih (i + 1) (by omega)
        | some j => exact Ans.pos (by simp [sign]) (Ans.pure (by simp))
    simpa using L l.length 0 (by omega)
theorem implMapOk_a (l : List S29) (hl : l.length ≤ 1000) : Ans (fun k => impl_MapOk.f k l) (fun r => r = okT l) := by
  unfold impl_MapOk.f
  have L : ∀ (m i : Nat), i + m = l.length → Ans (fun k => impl_MapOk.l0 k l (l.length : Int) (i : Int) l) (fun r => r = (decide ((l.length : Int) ≤ 6) && goodFrom l i)) := by
    intro m
    induction m with
    | zero =>
      intro i hi
      refine Ans.succ ?_
      unfold impl_MapOk.l0
      exact Ans.neg (by omega) (Ans.pure (by rw [good_end (by omega)]; simp))
    | succ m ih =>
      intro i hi
      refine Ans.succ ?_
      unfold impl_MapOk.l0
      refine Ans.pos (by omega) (Ans.pos (by omega) (Ans.pos (by omega) ?_))
      rw [good_step (by omega : i < l.length)]
      simp only [EndInside_f, Option.bind_some]
      have e1 : ((i : Int)).toNat = i := by omega
      cases h1 : endIn (rd_T29 l (i : Int)).f0 (rd_T29 l (i : Int)).f1
      · exact Ans.neg (by simp) (Ans.pure (by simp))
      refine Ans.pos rfl (Ans.pos (by omega) ?_)
      rw [e1, wi i (by omega)]
      refine Ans.bind (contains_a (l.take i) (by rw [List.length_take]; omega) _ _) ?_
      rintro _ rfl
      cases hf : fnd (l.take i) (rd_T29 l (i : Int)).f0 (rd_T29 l (i : Int)).f1 with
      | none =>
        refine Ans.neg (by simp) ?_
        simpa using ih (i + 1) (by omega)
      | some j => exact Ans.pos (by simp) (Ans.pure (by simp))
  exact L l.length 0 (by omega)
/-- A table with an end, and its port. -/
def putV (l : List S29) (a b : Int) : List S29 × Int := if portV l a b ≠ 0 then (l, portV l a b) else if l.length = 6 then (l, 0) else (l ++ [⟨a, b⟩], 500 + l.length)
def putAll (l : List S29) (a b : Int) : List S29 × Int := if okT l && endIn a b then putV l a b else ([], 0)
theorem portV_sign (l : List S29) (a b : Int) : portV l a b = if sign (fnd l a b) < 0 then 0 else 500 + sign (fnd l a b) := by
  unfold portV sign
  cases fnd l a b with
  | none => simp
  | some i =>
    have : ¬ ((i : Int) < 0) := by omega
    simp [this]
theorem sign_lt {l : List S29} (hl : l.length ≤ 1000) (a b : Int) : -1 ≤ sign (fnd l a b) ∧ sign (fnd l a b) < 1000 := by
  cases h : fnd l a b with
  | none => simp [sign]
  | some i => have := (fnd_lt h).1; simp only [sign]; omega
theorem portV_range {l : List S29} (hl : l.length ≤ 1000) (a b : Int) : portV l a b = 0 ∨ (500 ≤ portV l a b ∧ portV l a b < 500 + l.length) := by
  unfold portV
  cases h : fnd l a b with
  | none => exact .inl rfl
  | some i => have := (fnd_lt h).1; dsimp only; omega
theorem specMapPort_a (l : List S29) (hl : l.length ≤ 1000) (a b : Int) : Ans (fun k => spec_MapPort.f k l a b) (fun r => r = portV l a b) := by
  unfold spec_MapPort.f
  refine Ans.bind (l3Find_a l hl a b) ?_
  rintro _ rfl
  have hs := sign_lt hl a b
  rw [portV_sign]
  refine Ans.ite (fun c => Ans.pure (by rw [if_pos c])) (fun c => Ans.pure ?_)
  rw [if_neg c, w64 _ (by omega)]
theorem okT_le {l : List S29} (h : okT l = true) : l.length ≤ 6 := by
  simp only [okT, Bool.and_eq_true, decide_eq_true_eq] at h
  omega
theorem good_all {l : List S29} (h : goodFrom l 0 = true) : ∀ x ∈ l, endIn x.f0 x.f1 = true := by
  intro x hx
  obtain ⟨j, hj, rfl⟩ := List.getElem_of_mem hx
  unfold goodFrom at h
  have := List.all_eq_true.mp h j (by simp [List.mem_range']; omega)
  rw [rd29_get hj] at this
  simp only [Bool.and_eq_true] at this
  exact this.1
theorem okT_all {l : List S29} (h : okT l = true) : ∀ x ∈ l, endIn x.f0 x.f1 = true := by
  simp only [okT, Bool.and_eq_true] at h
  exact good_all h.2
theorem endIn_wf {a b : Int} (h : endIn a b = true) : wfB a = true ∧ wfB b = true := by
  simp only [endIn, inB, Bool.and_eq_true, decide_eq_true_eq] at h
  unfold wfB
  exact ⟨(i64_iff a).mpr (by omega), (i64_iff b).mpr (by omega)⟩
theorem all_wf {l : List S29} (h : ∀ x ∈ l, endIn x.f0 x.f1 = true) : l.all wfE = true := by
  rw [List.all_eq_true]
  intro x hx
  have := endIn_wf (h x hx)
  simp [wfE, this.1, this.2]
theorem implMapPort_f {l : List S29} (hl : l.length ≤ 1000) (h : ∀ x ∈ l, endIn x.f0 x.f1 = true) {a b : Int} (he : endIn a b = true) : impl_MapPort.f l a b = some (portV l a b) := by
  unfold impl_MapPort.f
  have := endIn_wf he
  rw [if_pos ⟨by omega, all_wf h, this.1, this.2⟩]
theorem specMapPut_a (l : List S29) (hl : l.length ≤ 1000) (a b : Int) : Ans (fun k => spec_MapPut.f k l a b) (fun r => r = putAll l a b) := by
  unfold spec_MapPut.f putAll
  refine Ans.bind (specMapOk_a l hl) ?_
  rintro _ rfl
  simp only [specEndInside_f, Option.bind_some]
  have J0 : Ans (fun k => spec_MapPut.j0 k true l a b) (fun r => r = ([], 0)) := by
    refine Ans.succ ?_
    unfold spec_MapPut.j0
    exact Ans.pos rfl (Ans.pure rfl)
  refine Ans.ite (fun c => ?_) (fun c => by simpa [c] using J0)
  rw [c]
  cases he : endIn a b
  · simpa using J0
  have hl6 := okT_le c
  refine Ans.succ ?_
  unfold spec_MapPut.j0
  refine Ans.neg (by simp) ?_
  have hc : spec_l3Copy.f l = some l := by
    unfold spec_l3Copy.f
    rw [Option.bind_some, if_pos (by simp; omega)]
    rfl
  rw [hc]
  refine Ans.bsome ?_
  refine Ans.bind (R := fun r => r = putV l a b) ?_ (fun v hv => by subst hv; exact Ans.pure (by simp))
  have P : Ans (fun k => spec_l3Put.f k l a b) (fun r => r = putV l a b) := by
    unfold spec_l3Put.f
    refine Ans.bind (specMapPort_a l hl a b) ?_
    rintro _ rfl
    have hr := portV_range hl a b
    refine Ans.ite (fun c1 => Ans.pure ?_) (fun c1 => ?_)
    · have v0 : putV l a b = (l, portV l a b) := by unfold putV; rw [if_pos (by omega)]
      rw [v0]
    · have e0 : portV l a b = 0 := by omega
      refine Ans.ite (fun c2 => Ans.pure ?_) (fun c2 => ?_)
      · have v0 : putV l a b = (l, 0) := by unfold putV; rw [if_neg (by simp [e0]), if_pos (by omega)]
        rw [v0]
      · have v0 : putV l a b = (l ++ [⟨a, b⟩], (500 + l.length : Int)) := by unfold putV; rw [if_neg (by simp [e0]), if_neg (by omega)]
        rw [v0]
        refine Ans.bsome (Ans.pos (by simp; omega) (Ans.bsome (Ans.bsome (Ans.pos (by simp; omega) (Ans.bsome (Ans.pure ?_))))))
        have e1 : (([] ++ l ++ [⟨a, b⟩] : List S29).length : Int) = l.length + 1 := by simp
        rw [e1, w64 (500 + ((l.length : Int) + 1)) (by omega), w64 _ (by omega)]
        simp
        omega
  exact P
theorem implMapPut_a (l : List S29) (hl : l.length ≤ 1000) (a b : Int) : Ans (fun k => impl_MapPut.f k l a b) (fun r => r = putAll l a b) := by
  unfold impl_MapPut.f putAll
  refine Ans.bind (implMapOk_a l hl) ?_
  rintro _ rfl
  simp only [EndInside_f, Option.bind_some]
  refine Ans.ite (fun c => ?_) (fun c => Ans.pure (by simp [c]))
  rw [c]
  cases he : endIn a b
  · exact Ans.neg (by simp) (Ans.pure (by simp))
  refine Ans.pos rfl ?_
  have hl6 := okT_le c
  have hr := portV_range hl a b
  have P : impl_MapTab_put.f l a b = some (putV l a b) := by
    unfold impl_MapTab_put.f impl_MapTab_copied.f impl_EndPoint_103.f impl_EndPoint_93.f
    rw [if_pos (by omega), Option.bind_some, Option.bind_some, Option.bind_some, implMapPort_f hl (okT_all c) he, Option.bind_some]
    unfold putV
    by_cases c1 : portV l a b = 0
    · by_cases c2 : (l.length : Int) ≥ 6
      · have c2' : l.length = 6 := by omega
        simp [c1, c2']
      · have c2' : ¬ l.length = 6 := by omega
        have c3 : l.length < 8796093022208 := by omega
        have c4 : ¬ (6 ≤ l.length) := by omega
        have e : wrap64 (500 + (l.length : Int)) = 500 + l.length := w64 _ (by omega)
        simp [c1, c2', c3, c4, e]
        omega
    · simp [c1]
  rw [P]
  exact Ans.bsome (Ans.pure (by simp))
instance decS29 : DecidableEq S29 := fun a b => decidable_of_iff (a.f0 = b.f0 ∧ a.f1 = b.f1) (by cases a; cases b; simp)
theorem haEnds_a (l r : List S29) (hl : l.length ≤ 1000) : Ans (fun k => laws_haEnds.f k l r) (fun v => v = decide (l = r)) := by
  unfold laws_haEnds.f
  refine Ans.ite (fun c => ?_) (fun c => Ans.pure ?_)
  · have L : ∀ (m i : Nat), i + m = l.length → l.take i = r.take i → Ans (fun k => laws_haEnds.l0 k l r (i : Int)) (fun v => v = decide (l = r)) := by
      intro m
      induction m with
      | zero =>
        intro i hi ht
        refine Ans.succ ?_
        unfold laws_haEnds.l0
        rw [List.take_of_length_le (by omega), List.take_of_length_le (by omega)] at ht
        exact Ans.neg (by omega) (Ans.pure (by simp [ht]))
      | succ m ih =>
        intro i hi ht
        refine Ans.succ ?_
        unfold laws_haEnds.l0
        refine Ans.pos (by omega) (Ans.pos (by omega) (Ans.pos (by omega) ?_))
        rw [wi i (by omega)]
        refine Ans.ite (fun h => Ans.pure ?_) (fun h => ?_)
        · have : ¬ (l = r) := by
            rintro rfl
            simp at h
          simp [this]
        · refine ih (i + 1) (by omega) ?_
          rw [rd29_take (by omega : i < l.length), rd29_take (by omega : i < r.length), ht]
          have : rd_T29 l (i : Int) = rd_T29 r (i : Int) := by
            simp at h
            cases h1 : rd_T29 l (i : Int)
            cases h2 : rd_T29 r (i : Int)
            rw [h1, h2] at h
            simp at h
            simp [h.1, h.2]
          rw [this]
    exact L l.length 0 (by omega) rfl
  · have : ¬ (l = r) := by
      rintro rfl
      exact c rfl
    simp [this]
theorem haFirst_a (l r : List S29) (hl : l.length ≤ 1000) (h : ∃ t, l = r ++ t) : Ans (fun k => laws_haFirst.f k l r) (fun v => v = true) := by
  obtain ⟨t, rfl⟩ := h
  unfold laws_haFirst.f
  refine Ans.pos (by simp; omega) (Ans.pos (by omega) (Ans.pos (by simp; omega) ?_))
  have e : (((r.length : Int)) : Int).toNat = r.length := by omega
  rw [e, List.take_left]
  refine Ans.bind (haEnds_a r r (by simp at hl; omega)) ?_
  rintro _ rfl
  exact Ans.pure (by simp)
end Go.Proofs.Ytiocgkggegahhaa.P

/- What table laws draw; what a table with one more end is. -/
namespace Go.Proofs.Ytiocgkggegahhaa.P
open Go.RowKit Go.Proofs.YtiocgkggegahhaaUFnMapPut.PrintWords Go.Proofs.YtiocgkggegahhaaUFnMapPut.PrintLast Go.Proofs.YtiocgkggegahhaaUFnMapPut.PrintMore
set_option linter.unusedVariables false
set_option linter.unusedSimpArgs false
theorem putAll_len (l : List S29) (a b : Int) : (putAll l a b).1.length ≤ l.length + 1 := by
  unfold putAll putV
  split
  · split
    · simp
    · split <;> simp
  · simp
/-- Two places in a row where a table may stand. -/
theorem table_a {l : List Int} (hl : Bys l) {s B : Int} (hs : At B s) (hB : B < 500000) (n : Int) : Ans (fun k => spec_l20Table.f k l s n) (fun r => At (B + 200) r.2 ∧ r.1.length ≤ 20) := by
  have L1 : ∀ (m : Nat) (x : List S29) (s B : Int), At B s → x.length + m = 20 → Ans (fun k => spec_l20Table.l1 k l s x) (fun r => At B r.2 ∧ r.1.length ≤ 20) := by
    intro m
    induction m with
    | zero =>
      intro x s B hs hm
      refine Ans.succ ?_
      unfold spec_l20Table.l1
      exact Ans.neg (by omega) (Ans.pure ⟨hs, by dsimp only; omega⟩)
    | succ m ih =>
      intro x s B hs hm
      refine Ans.succ ?_
      unfold spec_l20Table.l1
      refine Ans.ite (fun c => Ans.pos (by omega) (ih _ s B hs (by simp; omega))) (fun c => Ans.pure ⟨hs, by dsimp only; omega⟩)
  have L0 : ∀ (m : Nat) (x : List S29) (x6 s B : Int), At B s → B + 3 * (m : Int) < 600000 → x.length + m ≤ 10 → x6 ≤ m → m ≤ 10 → Ans (fun k => spec_l20Table.l0 k n x6 l s x) (fun r => At (B + 3 * m + 10) r.2 ∧ r.1.length ≤ 20) := by
    intro m
    have J : ∀ (x : List S29) (s B : Int), At B s → B < 700000 → x.length ≤ 10 → Ans (fun k => (spec_l20Rd_odd.f k l s n).bind fun bt566 => (if bt566.1 = true then ((spec_l20Rd_pick.f k l bt566.2 3).bind fun bt568 => (if bt568.1 = 0 then ((spec_l20Out.f k l bt568.2).bind fun bt570 => (if x.length < 8796093022208 then (some ((x ++ [(⟨bt570.1, bt570.2.1⟩ : S29)]), bt570.2.2)) else (none))) else (if bt568.1 = 1 then (if x.length < 8796093022208 then ((some (x ++ [(⟨9, 9⟩ : S29)] : List (S29))).bind fun y576 => (if y576.length < 8796093022208 then (some ((y576 ++ [(⟨9, 9⟩ : S29)]), bt568.2)) else (none))) else (none)) else (spec_l20Table.l1 k l bt568.2 x)))) else (some (x, bt566.2)))) (fun r => At (B + 10) r.2 ∧ r.1.length ≤ 20) := by
      intro x s B hs hB hx
      refine Ans.bind (odd_a hl hs (by omega) n) ?_
      rintro ⟨b, s1⟩ h1
      dsimp only at *
      refine Ans.ite (fun _ => ?_) (fun _ => Ans.pure ⟨at_le h1 (by omega), by dsimp only; omega⟩)
      refine Ans.bind (pick_a hl h1 (by omega) 3) ?_
      rintro ⟨v2, s2⟩ ⟨h2, p2⟩
      dsimp only at *
      refine Ans.ite (fun _ => ?_) (fun _ => Ans.ite (fun _ => ?_) (fun _ => ?_))
      · refine Ans.bind (out_a hl h2 (by omega)) ?_
        rintro ⟨a1, a2, s3⟩ ⟨h3, _⟩
        dsimp only at *
        exact Ans.pos (by omega) (Ans.pure ⟨at_le h3 (by omega), by simp; omega⟩)
      · exact Ans.pos (by omega) (Ans.bsome (Ans.pos (by simp; omega) (Ans.pure ⟨at_le h2 (by omega), by simp; omega⟩)))
      · refine (L1 (20 - x.length) x s2 _ h2 (by omega)).mono ?_
        rintro r ⟨a, b⟩
        exact ⟨at_le a (by omega), b⟩
    induction m with
    | zero =>
      intro x x6 s B hs hB hm hx hq
      refine Ans.succ ?_
      unfold spec_l20Table.l0
      refine Ans.neg (by omega) ((J x s B hs (by omega) (by omega)).mono ?_)
      rintro r ⟨a, b⟩
      exact ⟨at_le a (by omega), b⟩
    | succ m ih =>
      intro x x6 s B hs hB hm hx hq
      refine Ans.succ ?_
      unfold spec_l20Table.l0
      refine Ans.ite (fun c => ?_) (fun c => ?_)
      · refine Ans.bind (in_a hl hs (by omega)) ?_
        rintro ⟨a1, a2, s1⟩ ⟨h1, _⟩
        dsimp only at *
        refine Ans.bind (specMapPut_a x (by omega) a1 a2) ?_
        rintro _ rfl
        have hp := putAll_len x a1 a2
        have e : wrap64 (x6 - 1) = x6 - 1 := w64 _ (by omega)
        rw [e]
        refine (ih _ _ s1 _ h1 (by omega) (by omega) (by omega) (by omega)).mono ?_
        rintro r ⟨a, b⟩
        exact ⟨at_le a (by push_cast; omega), b⟩
      · refine (J x s B hs (by omega) (by omega)).mono ?_
        rintro r ⟨a, b⟩
        exact ⟨at_le a (by omega), b⟩
  unfold spec_l20Table.f
  refine Ans.bind (pick_a hl hs (by omega) 8) ?_
  rintro ⟨v1, s1⟩ ⟨h1, p1⟩
  dsimp only at *
  refine (L0 10 [] v1 s1 _ h1 (by omega) (by simp) (by omega) (by omega)).mono ?_
  rintro r ⟨a, b⟩
  exact ⟨at_le a (by omega), b⟩
theorem DrawMapPort_a {l : List Int} (hl : Bys l) : Ans (fun k => spec_DrawMapPort.f k l) (fun r => r.1.length ≤ 20) := by
  have J : ∀ {l : List Int}, Bys l → ∀ (c : Bool) (s B : Int) (x : List S29), At B s → B < 600000 → x.length ≤ 20 → (c = true → 0 < x.length) → Ans (fun k => spec_DrawMapPort.j0 k c l s x) (fun r => r.1.length ≤ 20) := by
    intro l hl c s B x hs hB hx hc
    refine Ans.succ ?_
    unfold spec_DrawMapPort.j0
    refine Ans.ite (fun h => ?_) (fun h => ?_)
    · have hp := hc h
      refine Ans.bind (pick_a hl hs (by omega) _) ?_
      rintro ⟨v, s1⟩ ⟨h1, p⟩
      dsimp only at *
      exact Ans.pos p.1 (Ans.pos (by omega) (Ans.pure hx))
    · refine Ans.bind (end_a hl hs (by omega) 9) ?_
      rintro ⟨a, b, s1⟩ ⟨h1, _⟩
      exact Ans.pure hx
  unfold spec_DrawMapPort.f
  obtain ⟨l', h, hl'⟩ := open_f l hl
  rw [h]
  refine Ans.bsome ?_
  refine Ans.bind (table_a hl' (B := 0) ⟨by omega, by omega⟩ (by omega) 9) ?_
  rintro ⟨x, s1⟩ ⟨h1, hx⟩
  dsimp only at *
  refine Ans.ite (fun c => ?_) (fun c => J hl' false s1 _ x h1 (by omega) hx (by simp))
  refine Ans.bind (pick_a hl' h1 (by omega) 2) ?_
  rintro ⟨v2, s2⟩ ⟨h2, p2⟩
  dsimp only at *
  exact J hl' _ s2 _ x h2 (by omega) hx (fun _ => by omega)
theorem DrawMapPut_a {l : List Int} (hl : Bys l) : Ans (fun k => spec_DrawMapPut.f k l) (fun r => r.1.length ≤ 20) := by
  unfold spec_DrawMapPut.f
  refine Ans.bind (DrawMapPort_a hl) ?_
  rintro ⟨x, a, b⟩ h
  exact Ans.pure h
theorem fnd_some {l : List S29} {a b : Int} (h : portV l a b ≠ 0) : ∃ i, fnd l a b = some i ∧ portV l a b = 500 + i := by
  unfold portV at *
  cases hf : fnd l a b with
  | none => rw [hf] at h; simp at h
  | some i => exact ⟨i, rfl, rfl⟩
theorem fnd_none {l : List S29} {a b : Int} (h : portV l a b = 0) : fnd l a b = none := by
  unfold portV at h
  cases hf : fnd l a b with
  | none => rfl
  | some i => rw [hf] at h; simp at h; omega
/-- A table that is good stays good with a new end inside. -/
theorem ok_snoc {l : List S29} {a b : Int} (h : okT l = true) (hl : l.length < 6) (he : endIn a b = true) (hn : fnd l a b = none) : okT (l ++ [⟨a, b⟩]) = true := by
  unfold okT at *
  simp only [Bool.and_eq_true, decide_eq_true_eq] at *
  refine ⟨by simp; omega, ?_⟩
  unfold goodFrom
  rw [List.all_eq_true]
  intro j hj
  simp [List.mem_range'] at hj
  by_cases hjl : j < l.length
  · have h2 := h.2
    unfold goodFrom at h2
    have := List.all_eq_true.mp h2 j (by simp [List.mem_range']; omega)
    have e1 : rd_T29 (l ++ [⟨a, b⟩]) (j : Int) = rd_T29 l (j : Int) := by
      rw [rd29_get (by simp; omega), rd29_get hjl, List.getElem_append_left]
    have e2 : List.take j (l ++ [(⟨a, b⟩ : S29)]) = l.take j := by rw [List.take_append_of_le_length (by omega)]
    rw [e1, e2]
    exact this
  · have hjj : j = l.length := by omega
    subst hjj
    have e1 : rd_T29 (l ++ [⟨a, b⟩]) (l.length : Int) = ⟨a, b⟩ := by
      rw [rd29_get (by simp)]
      simp
    rw [e1, List.take_left]
    simp [he, hn]
theorem put_ok {l : List S29} {a b : Int} (h : okT l = true) (he : endIn a b = true) : okT (putV l a b).1 = true := by
  have := okT_le h
  unfold putV
  by_cases c1 : portV l a b = 0
  · rw [if_neg (by simp [c1])]
    by_cases c2 : l.length = 6
    · rw [if_pos c2]; exact h
    · rw [if_neg c2]; exact ok_snoc h (by omega) he (fnd_none c1)
  · rw [if_pos c1]; exact h
theorem put_len {l : List S29} (h : l.length ≤ 6) (a b : Int) : (putV l a b).1.length = if portV l a b ≠ 0 then l.length else if l.length = 6 then 6 else l.length + 1 := by
  unfold putV
  split
  · rfl
  · split
    · rename_i h6; simp [h6]
    · simp
theorem portV_app {l : List S29} (r : List S29) {a b : Int} (h : portV l a b ≠ 0) : portV (l ++ r) a b = portV l a b := by
  obtain ⟨i, hi, hv⟩ := fnd_some h
  rw [hv]
  unfold portV
  rw [fnd_app, hi]
theorem put_port {l : List S29} {a b c d : Int} (h : portV l c d ≠ 0) : portV (putV l a b).1 c d = portV l c d := by
  unfold putV
  split
  · rfl
  · split
    · rfl
    · exact portV_app _ h
theorem put_self {l : List S29} (h : l.length < 6) (a b : Int) : portV (putV l a b).1 a b ≠ 0 := by
  unfold putV
  split
  · assumption
  · rename_i hn
    rw [if_neg (by omega)]
    unfold portV
    rw [fnd_snoc, fnd_none (by simpa using hn)]
    simp
    omega
theorem put_other {l : List S29} {a b c d : Int} (hne : ¬ (a = c ∧ b = d)) (h : portV l c d = 0) : portV (putV l a b).1 c d = 0 := by
  unfold putV
  split
  · exact h
  · split
    · exact h
    · unfold portV
      rw [fnd_snoc, fnd_none h]
      simp [hne]
end Go.Proofs.Ytiocgkggegahhaa.P

/- The plain law of FnMapPut: what the printed law computes is true. -/
namespace Go.Proofs.Ytiocgkggegahhaa.P
open Go.RowKit Go.Proofs.YtiocgkggegahhaaUFnMapPut.PrintWords Go.Proofs.YtiocgkggegahhaaUFnMapPut.PrintLast Go.Proofs.YtiocgkggegahhaaUFnMapPut.PrintMore
set_option linter.unusedVariables false
set_option linter.unusedSimpArgs false
theorem put_pre (l : List S29) (a b : Int) : ∃ t, (putV l a b).1 = l ++ t := by
  unfold putV
  split
  · exact ⟨[], by simp⟩
  · split
    · exact ⟨[], by simp⟩
    · exact ⟨_, rfl⟩
theorem put_two {l : List S29} (hl : l.length ≤ 6) {a b : Int} : ((putV l a b).2 = 0 ∧ portV l a b = 0 ∧ l.length = 6 ∧ (putV l a b).1 = l) ∨ ((putV l a b).2 ≠ 0 ∧ portV (putV l a b).1 a b = (putV l a b).2 ∧ (portV l a b = 0 ∨ portV l a b = (putV l a b).2)) := by
  have hr := portV_range (l := l) (by omega) a b
  by_cases c1 : portV l a b = 0
  · by_cases c2 : l.length = 6
    · exact .inl (by unfold putV; simp [c1, c2])
    · refine .inr ?_
      have e : putV l a b = (l ++ [⟨a, b⟩], (500 + l.length : Int)) := by unfold putV; simp [c1, c2]
      rw [e]
      refine ⟨by dsimp only; omega, ?_, .inl c1⟩
      unfold portV
      rw [fnd_snoc, fnd_none c1]
      simp
  · refine .inr ?_
    have e : putV l a b = (l, portV l a b) := by unfold putV; simp [c1]
    rw [e]
    exact ⟨c1, rfl, .inr rfl⟩
theorem portV_back {l : List S29} {a b p : Int} (hp : p ≠ 0) (h : portV l a b = p) : endV l p = some ⟨a, b⟩ := by
  subst h
  obtain ⟨i, hi, hv⟩ := fnd_some hp
  obtain ⟨h1, h2⟩ := fnd_lt hi
  unfold endV
  rw [hv, if_pos (by omega), show ((500 + (i : Int)) - 500).toNat = i by omega, List.getElem?_eq_getElem h1]
  have := h2 h1
  cases hx : l[i]
  rw [hx] at this
  simp at this
  simp [this.1, this.2]
theorem mapPut_l0 (l t : List S29) (hl : l.length ≤ 6) (ho : okT l = true) (ht : ∀ x ∈ l ++ t, endIn x.f0 x.f1 = true) (htl : t.length ≤ 1) : Ans (fun k => laws_FnMapPut.l0 k 0 l (l ++ t)) (fun r => r = true) := by
  have L : ∀ (m i : Nat), i + m = l.length → Ans (fun k => laws_FnMapPut.l0 k (i : Int) l (l ++ t)) (fun r => r = true) := by
    intro m
    induction m with
    | zero =>
      intro i hi
      refine Ans.succ ?_
      unfold laws_FnMapPut.l0
      have e : wrap64 ((l.length : Int) + 1) = l.length + 1 := w64 _ (by omega)
      rw [e]
      exact Ans.neg (by omega) (Ans.pure (by simp; omega))
    | succ m ih =>
      intro i hi
      refine Ans.succ ?_
      unfold laws_FnMapPut.l0
      refine Ans.pos (by omega) (Ans.pos (by omega) ?_)
      have hil : i < l.length := by omega
      have hx : rd_T29 l (i : Int) ∈ l := by rw [rd29_get hil]; exact List.getElem_mem hil
      have he := okT_all ho _ hx
      rw [implMapPort_f (by omega) (okT_all ho) he, implMapPort_f (by simp; omega) ht he, wi i (by omega)]
      refine Ans.bsome (Ans.bsome (Ans.pos ?_ (ih (i + 1) (by omega))))
      refine portV_app t ?_
      have hs := fnd_mem hx
      unfold portV
      cases hf : fnd l (rd_T29 l (i : Int)).f0 (rd_T29 l (i : Int)).f1 with
      | none => rw [hf] at hs; cases hs
      | some j => dsimp only; omega
  exact L l.length 0 (by omega)
theorem laws_FnMapPut.pure : laws_FnMapPut.Pure := by
  intro l0 hm0 _ hw0
  have A : Ans (fun k => laws_FnMapPut.f k l0) (fun r => r = true) := by
    unfold laws_FnMapPut.f
    refine Ans.ite (fun _ => Ans.pure rfl) (fun _ => ?_)
    refine Ans.bind (DrawMapPut_a (bys_of hw0)) ?_
    rintro ⟨l, a, b⟩ hl
    dsimp only at *
    refine Ans.bind (implMapPut_a l (by omega) a b) ?_
    rintro _ rfl
    refine Ans.bind (specMapPut_a l (by omega) a b) ?_
    rintro _ rfl
    have hp := putAll_len l a b
    refine Ans.bind (haEnds_a _ _ (by omega)) ?_
    rintro _ rfl
    refine Ans.pos (by simp) (Ans.pos rfl ?_)
    refine Ans.bind (implMapOk_a l (by omega)) ?_
    rintro _ rfl
    refine Ans.bind (specMapOk_a l (by omega)) ?_
    rintro _ rfl
    have e0 : (okT l != okT l) = false := by simp
    rw [e0]
    refine Ans.succ ?_
    unfold laws_FnMapPut.j0
    refine Ans.neg (by simp) ?_
    refine Ans.bind (specMapOk_a l (by omega)) ?_
    rintro _ rfl
    simp only [specEndInside_f, Option.bind_some]
    have J1 : okT l = false ∨ endIn a b = false → Ans (fun k => laws_FnMapPut.j1 k (putAll l a b).2 true l a b (putAll l a b).1) (fun r => r = true) := by
      intro h
      have e : putAll l a b = ([], 0) := by rcases h with h | h <;> simp [putAll, h]
      rw [e]
      refine Ans.succ ?_
      unfold laws_FnMapPut.j1
      simp only [haOk_f, Option.bind_some]
      exact Ans.pos (by simp) (Ans.pos (by simp) (Ans.pos (by simp) (Ans.pure rfl)))
    refine Ans.ite (fun ho => ?_) (fun ho => J1 (.inl (by simpa using ho)))
    cases he : endIn a b
    · have := J1 (.inr he)
      simpa using this
    have e1 : putAll l a b = putV l a b := by simp [putAll, ho, he]
    rw [e1]
    have h6 := okT_le ho
    have o1 := put_ok (a := a) (b := b) ho he
    have k1 := okT_le o1
    have P3 : Ans (fun k => laws_FnMapPut.j3 k false l (putV l a b).1) (fun r => r = true) := by
      refine Ans.succ ?_
      unfold laws_FnMapPut.j3
      refine Ans.neg (by simp) ?_
      obtain ⟨t, ht⟩ := put_pre l a b
      have hlen := hp
      have all := okT_all o1
      rw [e1] at hlen
      rw [ht] at all hlen ⊢
      refine mapPut_l0 l t h6 ho all ?_
      simp at hlen
      omega
    refine Ans.succ ?_
    unfold laws_FnMapPut.j1
    refine Ans.neg (by simp) ?_
    refine Ans.bind (implMapOk_a _ (by omega)) ?_
    rintro _ rfl
    refine Ans.pos o1 ?_
    refine Ans.bind (haFirst_a _ l (by omega) (put_pre l a b)) ?_
    rintro _ rfl
    refine Ans.succ ?_
    unfold laws_FnMapPut.j2
    refine Ans.neg (by simp) ?_
    rw [implMapPort_f (by omega) (okT_all ho) he]
    refine Ans.bsome ?_
    rcases put_two h6 (a := a) (b := b) with ⟨z1, z2, z3, z4⟩ | ⟨z1, z2, z3⟩
    · refine Ans.pos z1 (Ans.pos z2 (Ans.pos (by omega) ?_))
      refine Ans.bind (haEnds_a _ _ (by omega)) ?_
      rintro _ rfl
      exact Ans.pure (by simp [z4])
    · refine Ans.neg z1 ?_
      have hb := portV_back z1 z2
      have hr := portV_range (l := (putV l a b).1) (by omega) a b
      have hE : impl_MapEnd.f (putV l a b).1 (putV l a b).2 = some (a, b, true) := by
        unfold impl_MapEnd.f
        rw [if_pos ⟨by omega, all_wf (okT_all o1), (i64_iff _).mpr (by omega)⟩, hb]
      rw [hE]
      refine Ans.bsome (Ans.pos rfl (Ans.neg (by simp) ?_))
      rw [implMapPort_f (by omega) (okT_all o1) he]
      refine Ans.bsome (Ans.pos z2 ?_)
      refine Ans.ite (fun _ => P3) (fun c => ?_)
      have : (portV l a b != (putV l a b).2) = false := by
        rcases z3 with z | z
        · exact absurd z c
        · simp [z]
      rw [this]
      exact P3
  obtain ⟨k, v, rfl, h⟩ := A.got
  exact ⟨k, h⟩
end Go.Proofs.Ytiocgkggegahhaa.P

namespace Go.Proofs.Ytiocgkggegahhaa.Pure
theorem FnMapPut : P.laws_FnMapPut.Pure := P.laws_FnMapPut.pure
end Go.Proofs.Ytiocgkggegahhaa.Pure
