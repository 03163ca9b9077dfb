import Derived.Test.YtiocgkggegahhaaDoorGLawFnExactRulReadx2
-- written by hw.py for this claim
namespace Go.Proofs.YtiocgkggegahhaaDoor.P
open Go.RowKit Go.Proofs.YtiocgkggegahhaaDoorUFnExactRulRead.PrintWords Go.Proofs.YtiocgkggegahhaaDoorUFnExactRulRead.PrintLast Go.Proofs.YtiocgkggegahhaaDoorUFnExactRulRead.PrintMore
attribute [local go_sem] max2_int min2_int max_two min_two max_three min_three max_four min_four
set_option linter.unusedVariables false
set_option linter.unusedSimpArgs false

/-! ### spec_l20Open: function 25 -/
def spec_l20Open.f (l0 : List Int) : Option (List Int × Int) := if (l0.length : Int) > 2000 then (if 2000 ≤ (l0.length : Int) then (some (l0.take 2000, 0)) else (none)) else (some (l0, 0))
set_option maxHeartbeats 8000000 in
set_option maxRecDepth 100000 in
theorem spec_l20Open.calls (A0 : Option Addr) (c0 : Nat) (l0 : List Int) (r1 : List Int) (r2 : Int) (w0 w : World) (hB : Below w0.heap.size w0 w) (hr0 : Kd.C (Kd.int .u8) w0 A0 l0.length l0) (hc0 : l0.length ≤ c0) (h : spec_l20Open.f l0 = some (r1, r2)) :
    Calls Tryd.prog 25 #[.slice A0 l0.length c0] w fun e w' => ∃ g_ : Nat, e = .returned (.pointer (some ⟨g_, 0, none⟩)) ∧ IsS62 w0 w' g_ r1 r2 ∧ Below w0.heap.size w0 w' ∧ Below w.heap.size w w' := by
  have hu62 := Tryd.underlying62
  have HR0 := Aside0.mk hr0
  have HC0 := Aside0.mk hc0
  clear hr0 hc0
  have HBW := Aside0.mk (Below.refl w.heap.size w)
  have HW0 := Aside0.mk hB.size
  have HB := Aside0.mk hB
  clear hB
  have H : (if (l0.length : Int) > 2000 then (if 2000 ≤ (l0.length : Int) then (some (l0.take 2000, 0)) else (none)) else (some (l0, 0))) = some (r1, r2) := h
  clear h
  by_cases c2 : (l0.length : Int) > 2000
  · rw [if_pos c2] at H
    have c2b0 : decide (2000 < (l0.length : Int)) = true := decide_eq_true c2
    have c2b1 : decide (2000 < l0.length) = true := decide_eq_true (by omega)
    clear c2
    by_cases c3 : 2000 ≤ (l0.length : Int)
    · rw [if_pos c3] at H
      have c3b0 := eq_true c3
      have c3b1 : decide (2000 ≤ (l0.length : Int)) = true := decide_eq_true c3
      clear c3
      simp only [Option.some.injEq, Prod.mk.injEq] at H
      obtain ⟨rfl, rfl⟩ := H
      obtain ⟨i04, hi04, _, hsz4, _⟩ := info_parts info5
      obtain ⟨hcut4, hA4, hC4⟩ := print_take_of (P := Tryd.prog) (Value.int .u8) 0 32 5 .i64 Tryd.underlying32 hi04 hsz4 A0 c0 l0 2000 (by omega) (of_decide_eq_true (by first | (with_reducible assumption) | assumption)) HC0.out
      have HR289 := Aside0.mk (Kd.C_of_reads (h1 := fun _ => rfl) (hA4 _ (Kd.reads_of_C HR0.out)))
      have HC289 := Aside0.mk hC4
      clear hA4 hC4 hi04 hsz4
      go_enter Tryd.func25, Tryd.ntmps25
      go_wp2_with (first | ((with_reducible refine gate_dst (N := 10) rfl ?_); refine box_event ?hg (N := 10) ?hd (cs := #[.slice A0 (l0.take 2000).length c0, .int .i64 0]) (t := 62) ?hr ?_; (case hd => rfl); (case hg => rfl); (case hr => first | (go_simp; done) | (go_simp; rfl)); intro gb290 hg w5 hbox hb; have n0_ := Aside0.mk (below_step HBW.out hb); have n1_ := Aside0.mk (below_step (bl HB) hb); have n2_ := Aside0.mk (hbox); have n3_ := Aside0.mk ((by rw [hg]; exact (below_size (by repeat (first | (with_reducible first | exact HBW.out | apply below_alloc | apply pw_below_drewN | apply below_drew1) | exact HBW.out))) : w.heap.size ≤ gb290)); have n4_ := Aside0.mk ((Nat.le_trans HW0.out (by rw [hg]; exact (below_size (by repeat (first | (with_reducible first | exact HBW.out | apply below_alloc | apply pw_below_drewN | apply below_drew1) | exact HBW.out))) : w.heap.size ≤ gb290) : w0.heap.size ≤ gb290)); clear HBW; clear HB; have HBW := n0_; have HB := n1_; have BK290 := n2_; have GW290 := n3_; have GE290 := n4_; clear n0_ n1_ n2_ n3_ n4_; clear hb hbox hg))
      go_ret
      exact ⟨_, rfl, (show IsS62 w0 _ gb290 (l0.take 2000) 0 from ⟨_, _, by (with_reducible repeat refine bu ?_); exact BK290.out, GE290.out, HR289.out⟩), by repeat (first | (with_reducible first | exact HB.out | apply below_alloc | apply pw_below_drewN | apply below_drew1 | refine below_set ?_ GE290.out) | exact HB.out), by repeat (first | (with_reducible first | exact HBW.out | apply below_alloc | apply pw_below_drewN | apply below_drew1 | refine below_set ?_ GW290.out) | exact HBW.out)⟩
    · rw [if_neg c3] at H
      exact absurd H (by simp)
  · rw [if_neg c2] at H
    have c2b0 : decide (2000 < (l0.length : Int)) = false := decide_eq_false c2
    have c2b1 : decide (2000 < l0.length) = false := decide_eq_false (by omega)
    clear c2
    simp only [Option.some.injEq, Prod.mk.injEq] at H
    obtain ⟨rfl, rfl⟩ := H
    go_enter Tryd.func25, Tryd.ntmps25
    go_wp2_with (first | ((with_reducible refine gate_dst (N := 10) rfl ?_); refine box_event ?hg (N := 10) ?hd (cs := #[.slice A0 l0.length c0, .int .i64 0]) (t := 62) ?hr ?_; (case hd => rfl); (case hg => rfl); (case hr => first | (go_simp; done) | (go_simp; rfl)); intro gb291 hg w6 hbox hb; have n0_ := Aside0.mk (below_step HBW.out hb); have n1_ := Aside0.mk (below_step (bl HB) hb); have n2_ := Aside0.mk (hbox); have n3_ := Aside0.mk ((by rw [hg]; exact (below_size (by repeat (first | (with_reducible first | exact HBW.out | apply below_alloc | apply pw_below_drewN | apply below_drew1) | exact HBW.out))) : w.heap.size ≤ gb291)); have n4_ := Aside0.mk ((Nat.le_trans HW0.out (by rw [hg]; exact (below_size (by repeat (first | (with_reducible first | exact HBW.out | apply below_alloc | apply pw_below_drewN | apply below_drew1) | exact HBW.out))) : w.heap.size ≤ gb291) : w0.heap.size ≤ gb291)); clear HBW; clear HB; have HBW := n0_; have HB := n1_; have BK291 := n2_; have GW291 := n3_; have GE291 := n4_; clear n0_ n1_ n2_ n3_ n4_; clear hb hbox hg))
    go_ret
    exact ⟨_, rfl, (show IsS62 w0 _ gb291 l0 0 from ⟨_, _, by (with_reducible repeat refine bu ?_); exact BK291.out, GE291.out, HR0.out⟩), by repeat (first | (with_reducible first | exact HB.out | apply below_alloc | apply pw_below_drewN | apply below_drew1 | refine below_set ?_ GE291.out) | exact HB.out), by repeat (first | (with_reducible first | exact HBW.out | apply below_alloc | apply pw_below_drewN | apply below_drew1 | refine below_set ?_ GW291.out) | exact HBW.out)⟩

end Go.Proofs.YtiocgkggegahhaaDoor.P

-- written by hw.py for this claim
namespace Go.Proofs.YtiocgkggegahhaaDoor.P
open Go.RowKit Go.Proofs.YtiocgkggegahhaaDoorUFnExactRulRead.PrintWords Go.Proofs.YtiocgkggegahhaaDoorUFnExactRulRead.PrintLast Go.Proofs.YtiocgkggegahhaaDoorUFnExactRulRead.PrintMore
attribute [local go_sem] max2_int min2_int max_two min_two max_three min_three max_four min_four
set_option linter.unusedVariables false
set_option linter.unusedSimpArgs false

/-! ### spec_l20Rd_odd: function 37 -/
def spec_l20Rd_odd.f (k : Nat) (s0_0 : List Int) (s0_1 : Int) (a1 : Int) : Option (Bool × Int) := if a1 < 9000 then ((spec_l20Rd_pick.f k s0_0 s0_1 a1).bind fun bt241 => (some ((bt241.1 == (wrap64 (a1 - 1))), bt241.2))) else (some (false, s0_1))
theorem spec_l20Rd_odd.mono : ∀ a0 a1 a2 k, LeO (spec_l20Rd_odd.f k a0 a1 a2) (spec_l20Rd_odd.f (k + 1) a0 a1 a2) := by
  intro a0 a1 a2 k
  unfold spec_l20Rd_odd.f
  repeat' first
      | (with_reducible exact spec_l20Rd_pick.mono _ _ _ _)
      | (with_reducible exact LeO.refl _)
      | (with_reducible exact LeO.none _)
      | (with_reducible refine LeO.ite ?_ ?_)
      | (with_reducible refine LeO.bind ?_ (fun _ => ?_))
      | exact spec_l20Rd_pick.mono _ _ _ _
      | exact LeO.none _
      | refine LeO.ite ?_ ?_
      | refine LeO.bind ?_ (fun _ => ?_)
set_option maxHeartbeats 8000000 in
set_option maxRecDepth 100000 in
theorem spec_l20Rd_odd.calls (k : Nat) (g : Nat) (s0_0 : List Int) (s0_1 : Int) (a1 : Int) (r1 : Bool) (r2 : Int) (w0 w : World) (hI : IsS62 w0 w g s0_0 s0_1) (hB : Below w0.heap.size w0 w) (h : spec_l20Rd_odd.f k s0_0 s0_1 a1 = some (r1, r2)) :
    Calls Tryd.prog 37 #[.pointer (some ⟨g, 0, none⟩), .int .i64 a1] w fun e w' => e = .returned (.bool r1) ∧ IsS62 w0 w' g s0_0 r2 ∧ Below w0.heap.size w0 w' ∧ KeepBut w w' g none := by
  have HI0 := Aside0.mk hI
  have HK := Aside0.mk (KeepBut.refl w g none)
  have HL := Aside0.mk hB.size
  clear hI
  have HW0 := Aside0.mk hB.size
  have HB := Aside0.mk hB
  clear hB
  have H : (if a1 < 9000 then ((spec_l20Rd_pick.f k s0_0 s0_1 a1).bind fun bt241 => (some ((bt241.1 == (wrap64 (a1 - 1))), bt241.2))) else (some (false, s0_1))) = some (r1, r2) := h
  clear h
  by_cases c3 : a1 < 9000
  · rw [if_pos c3] at H
    have c3b0 : decide (a1 < 9000) = true := decide_eq_true c3
    clear c3
    replace H := Option.bind_eq_some_iff.mp H
    obtain ⟨⟨t241, t242⟩, A40, H⟩ := H
    replace H : (some ((t241 == (wrap64 (a1 - 1))), t242)) = some (r1, r2) := H
    have A4 := Aside0.mk A40
    clear A40
    simp only [Option.some.injEq, Prod.mk.injEq] at H
    obtain ⟨rfl, rfl⟩ := H
    go_enter Tryd.func37, Tryd.ntmps37
    go_wp2_with (first | (go_at_call 26; (with_reducible refine (spec_l20Rd_pick.calls k g s0_0 s0_1 a1 t241 t242 w0 _ ?side1 ?side2 A4.out).mono ?_); (case side1 => repeat (first | (with_reducible first | exact HI0.out | apply IsS62.alloc | apply IsS62.drewN | apply IsS62.drew | apply IsS62.set_1) | exact HI0.out)); (case side2 => repeat (first | (with_reducible first | exact HB.out | apply below_alloc | apply pw_below_drewN | apply below_drew1 | refine below_set ?_ (IsS62.ge HI0.out)) | exact HB.out)); rintro e w5 ⟨rfl, hi, hb, hk⟩; have n0_ := Aside0.mk (KeepBut.trans (by repeat (first | (with_reducible first | exact HK.out | apply KeepBut.set_ | apply keep_drewN | apply keep_drew | apply keep_alloc) | exact HK.out)) hk (.inl rfl)); have n1_ := Aside0.mk (hb); have n2_ := Aside0.mk (hi); clear HK; clear HB; clear HI0; have HK := n0_; have HB := n1_; have HI0 := n2_; clear n0_ n1_ n2_; (try clear hb); (try clear hb2); (try clear hk); (try clear hi)))
    go_ret
    exact ⟨by first | rfl | (simp [errW_none, errW_some] <;> rfl) | (simp [*, errW_none, errW_some] <;> rfl), by repeat (first | (with_reducible first | exact HI0.out | apply IsS62.alloc | apply IsS62.drewN | apply IsS62.drew | apply IsS62.set_1) | exact HI0.out), by repeat (first | (with_reducible first | exact HB.out | apply below_alloc | apply pw_below_drewN | apply below_drew1 | refine below_set ?_ (IsS62.ge HI0.out)) | exact HB.out), by repeat (first | (with_reducible first | exact HK.out | apply KeepBut.set_ | apply keep_drewN | apply keep_drew | apply keep_alloc) | exact HK.out)⟩
  · rw [if_neg c3] at H
    have c3b0 : decide (a1 < 9000) = false := decide_eq_false c3
    clear c3
    simp only [Option.some.injEq, Prod.mk.injEq] at H
    obtain ⟨rfl, rfl⟩ := H
    go_enter Tryd.func37, Tryd.ntmps37
    go_wp2
    go_ret
    exact ⟨by first | rfl | (simp [errW_none, errW_some] <;> rfl) | (simp [*, errW_none, errW_some] <;> rfl), by repeat (first | (with_reducible first | exact HI0.out | apply IsS62.alloc | apply IsS62.drewN | apply IsS62.drew | apply IsS62.set_1) | exact HI0.out), by repeat (first | (with_reducible first | exact HB.out | apply below_alloc | apply pw_below_drewN | apply below_drew1 | refine below_set ?_ (IsS62.ge HI0.out)) | exact HB.out), by repeat (first | (with_reducible first | exact HK.out | apply KeepBut.set_ | apply keep_drewN | apply keep_drew | apply keep_alloc) | exact HK.out)⟩

end Go.Proofs.YtiocgkggegahhaaDoor.P

/- What the reader of drawn bytes answers: one pick. -/
namespace Go.Proofs.YtiocgkggegahhaaDoor.P
open Go.RowKit Go.Proofs.YtiocgkggegahhaaDoorUFnExactRulRead.PrintWords Go.Proofs.YtiocgkggegahhaaDoorUFnExactRulRead.PrintLast Go.Proofs.YtiocgkggegahhaaDoorUFnExactRulRead.PrintMore
set_option linter.unusedVariables false
set_option linter.unusedSimpArgs false
theorem i64_xor_nat (a b : Nat) (ha : a < 2 ^ 62) (hb : b < 2 ^ 62) : Go.bits .xor .i64 (a : Int) (b : Int) = ((a ^^^ b : Nat) : Int) := by
  have hx : a ^^^ b < 2 ^ 62 := Nat.xor_lt_two_pow ha hb
  show IntKind.i64.wrap ((BitVec.ofInt 64 (a : Int) ^^^ BitVec.ofInt 64 (b : Int)).toNat : Int) = _
  have e : ∀ n : Nat, n < 2 ^ 62 → (BitVec.ofInt 64 (n : Int)).toNat = n := by
    intro n hn
    rw [BitVec.ofInt_natCast, BitVec.toNat_ofNat]; exact Nat.mod_eq_of_lt (by omega)
  rw [BitVec.toNat_xor, e a ha, e b hb]
  rw [i64_w]; unfold wrap64; omega
theorem i64_xor_nonneg (a b : Int) (h1 : 0 ≤ a) (h2 : a < 2 ^ 62) (h3 : 0 ≤ b) (h4 : b < 2 ^ 62) : 0 ≤ Go.bits .xor .i64 a b := by
  obtain ⟨A, rfl⟩ := Int.eq_ofNat_of_zero_le h1
  obtain ⟨B, rfl⟩ := Int.eq_ofNat_of_zero_le h3
  rw [i64_xor_nat A B (by omega) (by omega)]
  omega
theorem w64 (n : Int) (h : -9223372036854775808 ≤ n ∧ n ≤ 9223372036854775807) : wrap64 n = n := by unfold wrap64; omega
/-- Every byte of the list. -/
def Bys (l : List Int) : Prop := ∀ x ∈ l, 0 ≤ x ∧ x ≤ 255
theorem rd_bys {l : List Int} (h : Bys l) (i : Int) : 0 ≤ rd l i ∧ rd l i ≤ 255 := by
  unfold rd
  by_cases hi : i.toNat < l.length
  · have e : l.getD i.toNat 0 = l[i.toNat] := by simp [List.getD, hi]
    rw [e]; exact h _ (List.getElem_mem hi)
  · have e : l.getD i.toNat 0 = 0 := by simp [List.getD, Nat.not_lt.mp hi]
    rw [e]; omega
theorem tmod_in {a n : Int} (ha : 0 ≤ a) (hn : 1 ≤ n) : 0 ≤ Int.tmod a n ∧ Int.tmod a n < n := by
  rw [Int.tmod_eq_emod_of_nonneg ha]
  exact ⟨Int.emod_nonneg _ (by omega), Int.emod_lt_of_pos _ (by omega)⟩
theorem tdiv_in {a n : Int} (ha : 0 ≤ a) (hn : 1 ≤ n) : 0 ≤ Int.tdiv a n ∧ Int.tdiv a n ≤ a := by
  rw [Int.tdiv_eq_ediv_of_nonneg ha]
  exact ⟨Int.ediv_nonneg ha (by omega), Int.ediv_le_self _ ha⟩
/-- One pick: it answers, within its bound, and the place moves on by one. -/
theorem pick_f {l : List Int} (hl : Bys l) (s n : Int) (k : Nat) (hs : 0 ≤ s) (hs' : s < 1000000) : ∃ v, spec_l20Rd_pick.f (k + 1) l s n = some (v, s + 1) ∧ 0 ≤ v ∧ (v < n ∨ v = 0) := by
  unfold spec_l20Rd_pick.f spec_l20Rd_pick.j0
  dsimp only
  have e1 : wrap64 (s + 1) = s + 1 := w64 _ (by omega)
  have e2 : wrap64 (s + 1 - 1) = s := by rw [show s + 1 - 1 = s by omega]; exact w64 _ (by omega)
  by_cases c : n < 1
  · exact ⟨0, by simp [c, e1], by omega, .inr rfl⟩
  · rw [if_neg c, e1]
    simp only [e2]
    by_cases c0 : (l.length : Int) = 0
    · exact ⟨0, by simp [c0], by omega, .inr rfl⟩
    · have cb : ¬ (((l.length : Int) == 0) = true) := by simpa using c0
      have cn : ¬ (n = 0) := by omega
      rw [if_neg cb]
      by_cases c1 : s < (l.length : Int)
      · have hb := rd_bys hl s
        have hm := tmod_in hb.1 (show 1 ≤ n by omega)
        refine ⟨_, by rw [if_pos c1, if_pos hs, if_neg cn, w64 (rd l s) (by omega)], hm.1, .inl hm.2⟩
      · have hL : 1 ≤ (l.length : Int) := by omega
        have m1 := tmod_in hs hL
        have f1 : wrap64 (s * 7) = s * 7 := w64 _ (by omega)
        have f2 : wrap64 (s * 7 + 3) = s * 7 + 3 := w64 _ (by omega)
        have m2 := tmod_in (show 0 ≤ s * 7 + 3 by omega) hL
        rw [if_neg c1, if_neg c0, if_pos m1.1, if_pos m1.2]
        simp only [f1, f2]
        rw [if_pos m2.1, if_pos m2.2, if_neg cn]
        have r1 := rd_bys hl (Int.tmod s (l.length : Int))
        have r2 := rd_bys hl (Int.tmod (s * 7 + 3) (l.length : Int))
        have d1 := tdiv_in hs hL
        generalize rd l (Int.tmod s (l.length : Int)) = u1 at *
        generalize rd l (Int.tmod (s * 7 + 3) (l.length : Int)) = u2 at *
        generalize Int.tdiv s (l.length : Int) = u3 at *
        have g1 : wrap64 u1 = u1 := w64 _ (by omega)
        have g2 : wrap64 u2 = u2 := w64 _ (by omega)
        have g3 : wrap64 u3 = u3 := w64 _ (by omega)
        have g4 : wrap64 (u1 * 131) = u1 * 131 := w64 _ (by omega)
        have g5 : wrap64 (u2 * 1117) = u2 * 1117 := w64 _ (by omega)
        have g6 : wrap64 (s * 29) = s * 29 := w64 _ (by omega)
        have g7 : wrap64 (u3 * 53) = u3 * 53 := w64 _ (by omega)
        simp only [g1, g2, g3, g4, g5, g6, g7]
        have g8 : wrap64 (u1 * 131 + u2 * 1117) = u1 * 131 + u2 * 1117 := w64 _ (by omega)
        rw [g8]
        have g9 : wrap64 (u1 * 131 + u2 * 1117 + s * 29) = u1 * 131 + u2 * 1117 + s * 29 := w64 _ (by omega)
        rw [g9]
        have g10 : wrap64 (u1 * 131 + u2 * 1117 + s * 29 + u3 * 53) = u1 * 131 + u2 * 1117 + s * 29 + u3 * 53 := w64 _ (by omega)
        rw [g10]
        have hX0 : 0 ≤ u1 * 131 + u2 * 1117 + s * 29 + u3 * 53 := by omega
        have hX1 : u1 * 131 + u2 * 1117 + s * 29 + u3 * 53 < 1000000000 := by omega
        generalize u1 * 131 + u2 * 1117 + s * 29 + u3 * 53 = X at *
        have d2 := tdiv_in hX0 (show (1:Int) ≤ 64 by omega)
        have g11 : wrap64 (Int.tdiv X 64) = Int.tdiv X 64 := w64 _ (by omega)
        rw [g11]
        have hz := i64_xor_nonneg X (Int.tdiv X 64) hX0 (by omega) d2.1 (by omega)
        have hm := tmod_in hz (show 1 ≤ n by omega)
        exact ⟨_, rfl, hm.1, .inl hm.2⟩
theorem odd_f {l : List Int} (hl : Bys l) (s n : Int) (k : Nat) (hs : 0 ≤ s) (hs' : s < 1000000) : ∃ b s', spec_l20Rd_odd.f (k + 1) l s n = some (b, s') ∧ s ≤ s' ∧ s' ≤ s + 1 := by
  unfold spec_l20Rd_odd.f
  by_cases c : n < 9000
  · obtain ⟨v, h, _⟩ := pick_f hl s n k hs hs'
    exact ⟨_, s + 1, by rw [if_pos c, h]; rfl, by omega, by omega⟩
  · exact ⟨_, _, by rw [if_neg c], by omega, by omega⟩
theorem open_f (l : List Int) (hl : Bys l) : ∃ l', spec_l20Open.f l = some (l', 0) ∧ Bys l' := by
  unfold spec_l20Open.f
  by_cases c : (l.length : Int) > 2000
  · exact ⟨l.take 2000, by rw [if_pos c, if_pos (by omega)], fun x h => hl x (List.mem_of_mem_take h)⟩
  · exact ⟨l, by rw [if_neg c], hl⟩

theorem rd_three (a b c i : Int) (h : 0 ≤ i ∧ (i < 3 ∨ i = 0)) : rd ([a, b, c] : List Int) i = a ∨ rd ([a, b, c] : List Int) i = b ∨ rd ([a, b, c] : List Int) i = c := by
  have : i = 0 ∨ i = 1 ∨ i = 2 := by omega
  rcases this with rfl | rfl | rfl
  · exact .inl rfl
  · exact .inr (.inl rfl)
  · exact .inr (.inr rfl)
theorem rd_two (a b i : Int) (h : 0 ≤ i ∧ (i < 2 ∨ i = 0)) : rd ([a, b] : List Int) i = a ∨ rd ([a, b] : List Int) i = b := by
  have : i = 0 ∨ i = 1 := by omega
  rcases this with rfl | rfl
  · exact .inl rfl
  · exact .inr rfl
/-- Small whole numbers. -/
def Sm (n : Int) : Prop := -10 ≤ n ∧ n ≤ 1200
end Go.Proofs.YtiocgkggegahhaaDoor.P

/- Functions with rounds: what they answer from some round on. -/
namespace Go.Proofs.YtiocgkggegahhaaDoor.P
open Go.RowKit Go.Proofs.YtiocgkggegahhaaDoorUFnExactRulRead.PrintWords Go.Proofs.YtiocgkggegahhaaDoorUFnExactRulRead.PrintLast Go.Proofs.YtiocgkggegahhaaDoorUFnExactRulRead.PrintMore
set_option linter.unusedVariables false
set_option linter.unusedSimpArgs false
/-- From some round on, the function answers one value, of which P holds. -/
def Ans {α : Type} (f : Nat → Option α) (P : α → Prop) : Prop := ∃ K v, P v ∧ ∀ k, K ≤ k → f k = some v
namespace Ans
variable {α β : Type} {f g : Nat → Option α} {P Q : α → Prop}
theorem of {v : α} (h : ∀ k, f k = some v) (p : P v) : Ans f P := ⟨0, v, p, fun k _ => h k⟩
theorem pure {v : α} (p : P v) : Ans (fun _ => some v) P := ⟨0, v, p, fun k _ => rfl⟩
theorem mono (h : Ans f P) (hq : ∀ v, P v → Q v) : Ans f Q := by obtain ⟨K, v, p, e⟩ := h; exact ⟨K, v, hq v p, e⟩
theorem succ (h : Ans (fun k => f (k + 1)) P) : Ans f P := by
  obtain ⟨K, v, p, e⟩ := h
  refine ⟨K + 1, v, p, fun k hk => ?_⟩
  obtain ⟨k', rfl⟩ : ∃ k', k = k' + 1 := ⟨k - 1, by omega⟩
  exact e k' (by omega)
theorem bind {a : Nat → Option β} {R : β → Prop} {b : Nat → β → Option α} (h : Ans a R) (hb : ∀ v, R v → Ans (fun k => b k v) P) : Ans (fun k => (a k).bind (b k)) P := by
  obtain ⟨K, v, p, e⟩ := h
  obtain ⟨K', u, q, e'⟩ := hb v p
  exact ⟨max K K', u, q, fun k hk => by show (a k).bind (b k) = some u; rw [e k (by omega)]; exact e' k (by omega)⟩
theorem bsome {v : β} {b : Nat → β → Option α} (h : Ans (fun k => b k v) P) : Ans (fun k => (some v).bind (b k)) P := h
theorem congr (h : Ans g P) (e : ∀ k, f k = g k) : Ans f P := by obtain ⟨K, v, p, e'⟩ := h; exact ⟨K, v, p, fun k hk => (e k).trans (e' k hk)⟩
theorem got (h : Ans f P) : ∃ k v, P v ∧ f k = some v := by obtain ⟨K, v, p, e⟩ := h; exact ⟨K, v, p, e K (Nat.le_refl _)⟩
theorem pos {c : Prop} [Decidable c] (h : c) (ht : Ans f P) : Ans (fun k => if c then f k else g k) P := congr ht (fun k => if_pos h)
theorem neg {c : Prop} [Decidable c] (h : ¬ c) (ht : Ans g P) : Ans (fun k => if c then f k else g k) P := congr ht (fun k => if_neg h)
theorem ite {c : Prop} [Decidable c] (ht : c → Ans f P) (he : ¬ c → Ans g P) : Ans (fun k => if c then f k else g k) P := by
  by_cases h : c
  · exact pos h (ht h)
  · exact neg h (he h)
end Ans
/-- A place among the drawn bytes, at most n. -/
def At (n s : Int) : Prop := 0 ≤ s ∧ s ≤ n
theorem pick_a {l : List Int} (hl : Bys l) {s B : Int} (hs : At B s) (hB : B < 900000) (n : Int) : Ans (fun k => spec_l20Rd_pick.f k l s n) (fun r => At (B + 1) r.2 ∧ 0 ≤ r.1 ∧ (r.1 < n ∨ r.1 = 0)) := by
  obtain ⟨h0, h1⟩ := hs
  refine Ans.succ ?_
  obtain ⟨v, h, p⟩ := pick_f hl s n 0 h0 (by omega)
  refine Ans.of (v := (v, s + 1)) (fun k => ?_) ⟨⟨by omega, by first | omega | (dsimp only; omega)⟩, p⟩
  obtain ⟨v', h', _⟩ := pick_f hl s n k h0 (by omega)
  have e : spec_l20Rd_pick.f (k + 1) l s n = spec_l20Rd_pick.f (0 + 1) l s n := by
    unfold spec_l20Rd_pick.f spec_l20Rd_pick.j0
    rfl
  rw [e, h]
theorem odd_a {l : List Int} (hl : Bys l) {s B : Int} (hs : At B s) (hB : B < 900000) (n : Int) : Ans (fun k => spec_l20Rd_odd.f k l s n) (fun r => At (B + 1) r.2) := by
  unfold spec_l20Rd_odd.f
  refine Ans.ite (fun _ => ?_) (fun _ => Ans.pure ⟨hs.1, by have := hs.2; dsimp only; omega⟩)
  refine Ans.bind (pick_a hl hs hB n) ?_
  rintro ⟨v, s'⟩ ⟨h, _⟩
  exact Ans.pure h
theorem at_le {B B' s : Int} (h : At B s) (hb : B ≤ B') : At B' s := ⟨h.1, by have := h.2; omega⟩
theorem sm_rd {xs : List Int} (h : ∀ x ∈ xs, Sm x) (i : Int) : Sm (rd xs i) := by
  unfold rd
  by_cases hi : i.toNat < xs.length
  · have e : xs.getD i.toNat 0 = xs[i.toNat] := by simp [List.getD, hi]
    rw [e]; exact h _ (List.getElem_mem hi)
  · have e : xs.getD i.toNat 0 = 0 := by simp [List.getD, Nat.not_lt.mp hi]
    rw [e]; unfold Sm; omega
end Go.Proofs.YtiocgkggegahhaaDoor.P

/- Plain words of numbers and of words: what spec.l1Plain, spec.l1Words, spec.l1Num answer, over lists. -/
namespace Go.Proofs.YtiocgkggegahhaaDoor.P
open Go.RowKit Go.Proofs.YtiocgkggegahhaaDoorUFnExactRulRead.PrintWords Go.Proofs.YtiocgkggegahhaaDoorUFnExactRulRead.PrintLast Go.Proofs.YtiocgkggegahhaaDoorUFnExactRulRead.PrintMore
set_option linter.unusedVariables false
set_option linter.unusedSimpArgs false
theorem ba_ext {a b : ByteArray} (h : a.data.toList = b.data.toList) : a = b := by
  cases a; cases b; simp at h; rw [h]
theorem numB_small {n : Nat} (h : n < 10) : numB n = strOfNums [((48 + n : Nat) : Int)] := by
  apply ba_ext
  unfold numB Lib.itoa
  rw [if_neg (by omega)]
  simp only [Int.toNat_natCast, Lib.decDigits_one h, strOfNums]
  rfl
theorem numB_big {n : Nat} (h : ¬ n < 10) : numB n = numB (n / 10 : Nat) ++ strOfNums [((48 + n % 10 : Nat) : Int)] := by
  apply ba_ext
  unfold numB Lib.itoa
  rw [if_neg (by omega), if_neg (by omega)]
  simp only [Int.toNat_natCast, ByteArray.data_append, Array.toList_append]
  rw [Lib.decDigits, dif_neg h]
  simp only [Int.toNat_natCast, strOfNums]
  rfl
theorem strOfNums_size (l : List Int) : (strOfNums l).size = l.length := by simp [strOfNums, ByteArray.size]
theorem plain_l0 : ∀ (N n : Nat), n < N → n < 1000000 → ∀ x3 : ByteArray, x3.size + N ≤ 1000000000 → Ans (fun k => spec_l1Plain.l0 k n x3) (fun b => b = numB n ++ x3)
  | 0, n, h, _, _, _ => by omega
  | N + 1, n, h, hn, x3, hx => by
    refine Ans.succ ?_
    unfold spec_l1Plain.l0
    by_cases h9 : n < 10
    · refine Ans.neg (by omega) ?_
      have e : (wrap64 (48 + (n : Int))) % 256 = ((48 + n : Nat) : Int) := by unfold wrap64; omega
      rw [e]
      refine Ans.bsome (Ans.pos (by rw [strOfNums_size]; simp; omega) (Ans.pure ?_))
      rw [numB_small h9]
    · refine Ans.pos (by omega) ?_
      have e1 : Int.tmod (n : Int) 10 = ((n % 10 : Nat) : Int) := by rw [Int.tmod_eq_emod_of_nonneg (by omega)]; rfl
      have e2 : Int.tdiv (n : Int) 10 = ((n / 10 : Nat) : Int) := by rw [Int.tdiv_eq_ediv_of_nonneg (by omega)]; rfl
      have e : (wrap64 (48 + Int.tmod (n : Int) 10)) % 256 = ((48 + n % 10 : Nat) : Int) := by rw [e1]; unfold wrap64; omega
      have e3 : wrap64 (Int.tdiv (n : Int) 10) = ((n / 10 : Nat) : Int) := by rw [e2]; unfold wrap64; omega
      rw [e, e3]
      have hs : (strOfNums [((48 + n % 10 : Nat) : Int)]).size = 1 := by rw [strOfNums_size]; rfl
      refine Ans.bsome (Ans.pos (by rw [hs]; omega) ?_)
      refine (plain_l0 N (n / 10) (by omega) (by omega) (strOfNums [((48 + n % 10 : Nat) : Int)] ++ x3) (by rw [ByteArray.size_append, hs]; omega)).mono ?_
      rintro v rfl
      rw [numB_big h9, ByteArray.append_assoc]
theorem plain_a {n : Nat} (hn : n < 1000000) : Ans (fun k => spec_l1Plain.f k n) (fun b => b = numB n) := by
  refine (plain_l0 (n + 1) n (by omega) hn (⟨#[]⟩ : ByteArray) (by simp [ByteArray.size]; omega)).mono ?_
  rintro v rfl
  exact ba_ext (by simp)
/-! ### Words, a blank between two -/
theorem len_size (s : ByteArray) : s.data.toList.length = s.size := by rw [Array.length_toList]; rfl
def wlpB : ByteArray → List UInt8 → List ByteArray
  | w, [] => [w]
  | w, c :: r => if c = 32 then w :: wlpB ⟨#[]⟩ r else wlpB (w ++ ⟨#[c]⟩) r
theorem bt_get (s : ByteArray) (i : Nat) (h : i < s.size) : bt s i = ((s.data.toList[i]'(by rw [len_size]; exact h)).toNat : Int) := by
  unfold bt
  simp only [Int.toNat_natCast, dif_pos h]
  rfl
theorem extract_get (s : ByteArray) (i : Nat) (h : i < s.size) : s.extract i (i + 1) = ⟨#[s.data.toList[i]'(by rw [len_size]; exact h)]⟩ := by
  apply ba_ext
  have hl : i < s.data.toList.length := by rw [len_size]; exact h
  rw [Lib.extract_data]
  have e : s.data.toList.drop i = s.data.toList[i] :: s.data.toList.drop (i + 1) := List.drop_eq_getElem_cons hl
  rw [e, show i + 1 - i = 1 by omega]
  rfl
theorem words_l0 (s : ByteArray) (hs : s.size ≤ 1048576) : ∀ (m i : Nat), s.size - i = m → i ≤ s.size → ∀ (x3 : List ByteArray) (x4 : ByteArray), x3.length ≤ i → x4.size ≤ i →
    Ans (fun k => spec_l1Words.l0 k s x3 x4 i) (fun r => r = x3 ++ wlpB x4 (s.data.toList.drop i))
  | 0, i, hm, hi, x3, x4, h3, h4 => by
    refine Ans.succ ?_
    unfold spec_l1Words.l0
    refine Ans.neg (by omega) (Ans.pos (by omega) (Ans.pure ?_))
    rw [List.drop_eq_nil_of_le (by rw [len_size]; omega)]
    rfl
  | m + 1, i, hm, hi, x3, x4, h3, h4 => by
    have hlt : i < s.size := by omega
    have hl : i < s.data.toList.length := by rw [len_size]; exact hlt
    have hw : wrap64 ((i : Int) + 1) = ((i + 1 : Nat) : Int) := by unfold wrap64; omega
    have e : s.data.toList.drop i = s.data.toList[i] :: s.data.toList.drop (i + 1) := List.drop_eq_getElem_cons hl
    refine Ans.succ ?_
    unfold spec_l1Words.l0
    refine Ans.pos (by omega) (Ans.pos (by omega) ?_)
    rw [bt_get s i hlt, hw, e]
    by_cases hc : s.data.toList[i] = 32
    · refine Ans.pos (by rw [hc]; rfl) (Ans.pos (by omega) ?_)
      refine (words_l0 s hs m (i + 1) (by omega) (by omega) (x3 ++ [x4]) (⟨#[]⟩ : ByteArray) (by simp; omega) (Nat.zero_le _)).mono ?_
      rintro v rfl
      rw [wlpB, if_pos hc]
      simp
    · refine Ans.neg (fun h => hc (UInt8.toNat_inj.mp (by have : ((32 : UInt8).toNat : Int) = 32 := rfl; omega))) (Ans.pos (by omega) (Ans.pos (by omega) ?_))
      have ex : s.extract ((i : Int)).toNat ((((i + 1 : Nat) : Int))).toNat = ⟨#[s.data.toList[i]]⟩ := by simp only [Int.toNat_natCast]; exact extract_get s i hlt
      rw [ex]
      have h1 : (⟨#[s.data.toList[i]]⟩ : ByteArray).size = 1 := rfl
      refine Ans.pos (by rw [h1]; omega) ?_
      refine (words_l0 s hs m (i + 1) (by omega) (by omega) x3 (x4 ++ ⟨#[s.data.toList[i]]⟩) (by omega) (by rw [ByteArray.size_append, h1]; omega)).mono ?_
      rintro v rfl
      rw [wlpB, if_neg hc]
theorem wlpB_data : ∀ (l : List UInt8) (w : ByteArray), wlpB w l = match wlpB ⟨#[]⟩ l with
    | [] => []
    | h :: t => (w ++ h) :: t
  | [], w => by simp only [wlpB]; congr 1; exact ba_ext (by simp)
  | c :: r, w => by
    by_cases hc : c = 32
    · subst hc
      simp only [wlpB, if_true]
      congr 1; exact ba_ext (by simp)
    · simp only [wlpB, if_neg hc]
      rw [wlpB_data r (w ++ ⟨#[c]⟩), wlpB_data r (⟨#[]⟩ ++ ⟨#[c]⟩)]
      cases wlpB ⟨#[]⟩ r with
      | nil => rfl
      | cons h t => simp only [List.cons.injEq, and_true]; exact ba_ext (by simp)
theorem wlp_eq : ∀ (l : List UInt8), Lib.splitK [32] 0 (Lib.count l [32]) l = (wlpB ⟨#[]⟩ l).map (·.data.toList)
  | [] => by rw [Lib.count_miss (by simp [Lib.index])]; rfl
  | b :: l => by
    by_cases h : b = 32
    · subst h
      rw [Lib.count_cons_eq, Nat.add_comm]
      have hix : Lib.index (32 :: l) [32] = 0 := by rw [Lib.index]; simp [List.isPrefixOf]
      unfold Lib.splitK
      rw [hix]
      simp only [wlpB, if_true, List.map_cons]
      simp [wlp_eq l]
    · rw [Lib.count_cons_ne b 32 l h]
      have hp : ([32] : List UInt8).isPrefixOf (b :: l) = false := by simp [List.isPrefixOf, Ne.symm h]
      have hix : Lib.index (b :: l) [32] = if Lib.index l [32] == -1 then -1 else Lib.index l [32] + 1 := by rw [Lib.index, hp]; simp
      have ih := wlp_eq l
      simp only [wlpB, if_neg h]
      rw [wlpB_data l (⟨#[]⟩ ++ ⟨#[b]⟩)]
      by_cases hm : Lib.index l [32] = -1
      · rw [Lib.count_miss hm] at ih ⊢
        simp only [Lib.splitK] at ih ⊢
        cases hw : wlpB ⟨#[]⟩ l with
        | nil => rw [hw] at ih; simp at ih
        | cons x t => rw [hw] at ih; simp at ih ⊢; exact ⟨ih.1, ih.2⟩
      · have hge := Lib.index_ge l [32]
        obtain ⟨j, hj⟩ : ∃ j : Nat, Lib.index l [32] = j := ⟨(Lib.index l [32]).toNat, by omega⟩
        have hix' : Lib.index (b :: l) [32] = ((j + 1 : Nat) : Int) := by rw [hix, if_neg (fun e => hm (beq_iff_eq.1 e)), hj]; omega
        rw [Lib.count_hit (by simp) hj, Nat.add_comm] at ih ⊢
        unfold Lib.splitK at ih ⊢
        rw [hix', if_neg (fun h => by have := beq_iff_eq.1 h; omega)]
        rw [hj, if_neg (fun h => by have := beq_iff_eq.1 h; omega)] at ih
        cases hw : wlpB ⟨#[]⟩ l with
        | nil => rw [hw] at ih; simp at ih
        | cons x t => rw [hw] at ih; simp at ih ⊢; exact ⟨ih.1, ih.2⟩
theorem map_inj_data : ∀ {a b : List ByteArray}, a.map (·.data.toList) = b.map (·.data.toList) → a = b
  | [], [], _ => rfl
  | [], _ :: _, h => by simp at h
  | _ :: _, [], h => by simp at h
  | x :: a, y :: b, h => by
    simp only [List.map_cons, List.cons.injEq] at h
    rw [ba_ext h.1, map_inj_data h.2]
theorem wordsB_eq (s : ByteArray) : wordsB s = wlpB ⟨#[]⟩ s.data.toList := by
  apply map_inj_data
  unfold wordsB
  rw [Lib.splitB_data, ← wlp_eq]
  try rfl
theorem words_a (s : ByteArray) (hs : s.size ≤ 1048576) : Ans (fun k => spec_l1Words.f k s) (fun r => r = wordsB s) := by
  refine (words_l0 s hs _ 0 rfl (Nat.zero_le _) [] ⟨#[]⟩ (Nat.le_refl _) (Nat.le_refl _)).mono ?_
  rintro v rfl
  rw [wordsB_eq]; rfl
/-! ### Words that are put together -/
def joinB (w : ByteArray) (l : List ByteArray) : ByteArray := l.foldl (fun s x => s ++ ((⟨#[32]⟩ : ByteArray) ++ x)) w
def noBlank (b : ByteArray) : Prop := ∀ c ∈ b.data.toList, c ≠ 32
theorem wlpB_noBlank : ∀ (l : List UInt8) (w : ByteArray) (r : List UInt8), (∀ c ∈ l, c ≠ 32) → wlpB w (l ++ r) = wlpB (w ++ ⟨l.toArray⟩) r
  | [], w, r, _ => by simp only [List.nil_append]; congr 1; exact ba_ext (by simp)
  | c :: l, w, r, h => by
    have hc : c ≠ 32 := h c (by simp)
    simp only [List.cons_append, wlpB, if_neg hc]
    rw [wlpB_noBlank l (w ++ ⟨#[c]⟩) r (fun x hx => h x (by simp [hx]))]
    congr 1; exact ba_ext (by simp)
theorem wlpB_join : ∀ (l : List ByteArray) (w u : ByteArray), noBlank w → (∀ x ∈ l, noBlank x) → wlpB u (joinB w l).data.toList = (u ++ w) :: l
  | [], w, u, hw, _ => by
    have := wlpB_noBlank w.data.toList u [] hw
    rw [List.append_nil] at this
    show wlpB u w.data.toList = _
    rw [this]
    rfl
  | x :: l, w, u, hw, hl => by
    have e : ∀ (l : List ByteArray) (w x : ByteArray), (joinB (w ++ ((⟨#[32]⟩ : ByteArray) ++ x)) l).data.toList = w.data.toList ++ 32 :: (joinB x l).data.toList := by
      intro l
      induction l with
      | nil => intro w x; simp [joinB]
      | cons y l ih =>
        intro w x
        have h1 := ih (w ++ ((⟨#[32]⟩ : ByteArray) ++ x)) y
        have h2 := ih x y
        simp only [joinB, List.foldl_cons] at h1 h2 ⊢
        rw [h1, h2]
        simp
    have h0 : joinB w (x :: l) = joinB (w ++ ((⟨#[32]⟩ : ByteArray) ++ x)) l := rfl
    rw [h0, e, wlpB_noBlank w.data.toList u _ hw]
    simp only [wlpB, if_true]
    rw [wlpB_join l x ⟨#[]⟩ (hl x (by simp)) (fun y hy => hl y (by simp [hy]))]
    have e2 : (⟨#[]⟩ : ByteArray) ++ x = x := ba_ext (by simp)
    have e3 : u ++ ⟨w.data.toList.toArray⟩ = u ++ w := ba_ext (by simp)
    rw [e2]
theorem words_join (w : ByteArray) (l : List ByteArray) (hw : noBlank w) (hl : ∀ x ∈ l, noBlank x) : wordsB (joinB w l) = w :: l := by
  have e2 : (⟨#[]⟩ : ByteArray) ++ w = w := ba_ext (by simp)
  rw [wordsB_eq, wlpB_join l w ⟨#[]⟩ hw hl, e2]
theorem wlpB_ne : ∀ (r : List UInt8) (w : ByteArray), wlpB w r ≠ []
  | [], w => by simp [wlpB]
  | c :: r, w => by
    unfold wlpB
    split
    · simp
    · exact wlpB_ne r _
theorem join_wlpB : ∀ (r : List UInt8) (w : ByteArray), (match wlpB w r with | [] => (⟨#[]⟩ : ByteArray) | h :: t => joinB h t).data.toList = w.data.toList ++ r
  | [], w => by simp [wlpB, joinB]
  | c :: r, w => by
    by_cases hc : c = 32
    · subst hc
      simp only [wlpB, if_true]
      have ih := join_wlpB r ⟨#[]⟩
      cases hw : wlpB ⟨#[]⟩ r with
      | nil => exact absurd hw (wlpB_ne r _)
      | cons x t =>
        rw [hw] at ih
        have e : ∀ (t : List ByteArray) (w x : ByteArray), (joinB w (x :: t)).data.toList = w.data.toList ++ 32 :: (joinB x t).data.toList := by
          intro t
          induction t with
          | nil => intro w x; simp [joinB]
          | cons y t ih =>
            intro w x
            have h1 := ih (w ++ ((⟨#[32]⟩ : ByteArray) ++ x)) y
            have h2 := ih x y
            simp only [joinB, List.foldl_cons] at h1 h2 ⊢
            rw [h1, h2]
            simp
        show (joinB w (x :: t)).data.toList = _
        rw [e]
        simp only [List.append_cancel_left_eq, List.cons.injEq, true_and]
        simpa using ih
    · simp only [wlpB, if_neg hc]
      have ih := join_wlpB r (w ++ ⟨#[c]⟩)
      rw [ih]
      simp
theorem join_words (s w : ByteArray) (l : List ByteArray) (h : wordsB s = w :: l) : joinB w l = s := by
  have := join_wlpB s.data.toList ⟨#[]⟩
  rw [← wordsB_eq, h] at this
  exact ba_ext (by simpa using this)
theorem textB_join (w : ByteArray) (l : List Int) : textB w l = joinB w (l.map numB) := by
  unfold textB joinB
  rw [List.foldl_map]
end Go.Proofs.YtiocgkggegahhaaDoor.P

/- Plain words of numbers: what spec.l1Num answers; what strconv.Atoi answers of a numeral. -/
namespace Go.Proofs.YtiocgkggegahhaaDoor.P
open Go.RowKit Go.Proofs.YtiocgkggegahhaaDoorUFnExactRulRead.PrintWords Go.Proofs.YtiocgkggegahhaaDoorUFnExactRulRead.PrintLast Go.Proofs.YtiocgkggegahhaaDoorUFnExactRulRead.PrintMore
set_option linter.unusedVariables false
set_option linter.unusedSimpArgs false
def isDg (c : UInt8) : Prop := 48 ≤ c.toNat ∧ c.toNat ≤ 57
def valF (a : Nat) (l : List UInt8) : Nat := l.foldl (fun a b => a * 10 + (b.toNat - 48)) a
theorem dg_of {d : Nat} (h : d < 10) : isDg (UInt8.ofNat (48 + d)) ∧ (UInt8.ofNat (48 + d)).toNat - 48 = d := by
  have e : (UInt8.ofNat (48 + d)).toNat = 48 + d := by simp; omega
  unfold isDg; rw [e]; omega
theorem numB_data_small {n : Nat} (h : n < 10) : (numB n).data.toList = [UInt8.ofNat (48 + n)] := by
  rw [numB_small h]; rfl
theorem numB_data_big {n : Nat} (h : ¬ n < 10) : (numB n).data.toList = (numB (n / 10 : Nat)).data.toList ++ [UInt8.ofNat (48 + n % 10)] := by
  rw [numB_big h, ByteArray.data_append, Array.toList_append]; rfl
theorem numB_dg : ∀ (N n : Nat), n < N → (∀ c ∈ (numB n).data.toList, isDg c) ∧ valF 0 (numB n).data.toList = n ∧ (numB n).data.toList ≠ []
  | 0, n, h => by omega
  | N + 1, n, h => by
    by_cases h9 : n < 10
    · rw [numB_data_small h9]
      refine ⟨fun c hc => ?_, ?_, by simp⟩
      · simp at hc; subst hc; have := (dg_of h9).1; simpa using this
      · have := (dg_of h9).2; simp only [valF, List.foldl_cons, List.foldl_nil]; omega
    · rw [numB_data_big h9]
      obtain ⟨i1, i2, i3⟩ := numB_dg N (n / 10) (by omega)
      have hd : n % 10 < 10 := by omega
      refine ⟨fun c hc => ?_, ?_, by simp⟩
      · rcases List.mem_append.1 hc with hc | hc
        · exact i1 c hc
        · have e := List.mem_singleton.1 hc; subst e; exact (dg_of hd).1
      · have := (dg_of hd).2
        unfold valF at i2 ⊢
        rw [List.foldl_append, i2]
        simp only [List.foldl_cons, List.foldl_nil]
        omega
theorem numB_inj {a b : Nat} (h : numB a = numB b) : a = b := by
  have h1 := (numB_dg (a + 1) a (by omega)).2.1
  have h2 := (numB_dg (b + 1) b (by omega)).2.1
  rw [h] at h1; omega
theorem numB_size4 {n : Nat} (h : n ≤ 9999) : (numB n).size ≤ 4 ∧ 1 ≤ (numB n).size := by
  have e : (numB n).size = Lib.nDigits n := by
    unfold numB Lib.itoa
    rw [if_neg (by omega)]
    show (Lib.decDigits (n : Int).toNat).toArray.size = _
    rw [List.size_toArray, Lib.decDigits_length]; rfl
  rw [e]
  by_cases a : n < 10
  · rw [Lib.nDigits_small a]; omega
  · rw [Lib.nDigits_big a]
    by_cases b : n / 10 < 10
    · rw [Lib.nDigits_small b]; omega
    · rw [Lib.nDigits_big b]
      by_cases c : n / 10 / 10 < 10
      · rw [Lib.nDigits_small c]; omega
      · rw [Lib.nDigits_big c, Lib.nDigits_small (by omega)]; omega
theorem numB_noBlank (n : Nat) : noBlank (numB n) := by
  intro c hc e
  have := (numB_dg (n + 1) n (by omega)).1 c hc
  subst e
  unfold isDg at this
  simp at this
theorem valF_lt : ∀ (l : List UInt8) (a : Nat), (∀ c ∈ l, isDg c) → valF a l + 1 ≤ (a + 1) * 10 ^ l.length
  | [], a, _ => by simp [valF]
  | c :: l, a, h => by
    have hc := h c (by simp)
    have ih := valF_lt l (a * 10 + (c.toNat - 48)) (fun x hx => h x (by simp [hx]))
    unfold isDg at hc
    have : (a * 10 + (c.toNat - 48) + 1) * 10 ^ l.length ≤ ((a + 1) * 10) * 10 ^ l.length := Nat.mul_le_mul_right _ (by omega)
    simp only [valF, List.foldl_cons, List.length_cons, Nat.pow_succ] at ih ⊢
    rw [Nat.mul_assoc, Nat.mul_comm 10] at this
    omega
theorem parse_dg : ∀ (l : List UInt8) (a : Nat), (∀ c ∈ l, isDg c) → (a + 1) * 10 ^ l.length ≤ 10 ^ 18 → Lib.parseUint10 a l = .ok (valF a l)
  | [], a, _, _ => rfl
  | c :: l, a, h, hb => by
    have hc := h c (by simp)
    unfold isDg at hc
    have hp : 1 ≤ 10 ^ l.length := Nat.one_le_pow _ _ (by decide)
    have h1 : ((a + 1) * 10) * 1 ≤ ((a + 1) * 10) * 10 ^ l.length := Nat.mul_le_mul_left _ hp
    have h2 : (a + 1) * 10 ^ (l.length + 1) = ((a + 1) * 10) * 10 ^ l.length := by rw [Nat.pow_succ, Nat.mul_comm (10 ^ l.length) 10, Nat.mul_assoc]
    simp only [List.length_cons] at hb
    have h3 : (a * 10 + (c.toNat - 48) + 1) * 10 ^ l.length ≤ ((a + 1) * 10) * 10 ^ l.length := Nat.mul_le_mul_right _ (by omega)
    unfold Lib.parseUint10
    rw [if_pos hc, if_neg (by omega), if_neg (by omega), parse_dg l _ (fun x hx => h x (by simp [hx])) (by omega)]
    rfl
theorem atoiO_num {n : Nat} (h : n ≤ 9999) : atoiO (numB n) = some (n : Int) := by
  obtain ⟨h1, h2, h3⟩ := numB_dg (n + 1) n (by omega)
  have hs : (numB n).data.toList.length ≤ 4 := by rw [len_size]; exact (numB_size4 h).1
  have hp := parse_dg (numB n).data.toList 0 h1 (by
    have : 10 ^ (numB n).data.toList.length ≤ 10 ^ 4 := Nat.pow_le_pow_right (by decide) hs
    omega)
  rw [h2] at hp
  have e : Lib.atoiAll (numB n).data.toList = .ok (n : Int) := by
    generalize (numB n).data.toList = l at h1 h3 hp
    match l, h3 with
    | c :: r, _ =>
      have hc := h1 c (by simp)
      unfold isDg at hc
      unfold Lib.atoiAll
      simp only
      rw [if_neg (by omega)]
      unfold Lib.parseMag
      rw [if_neg (by simp), hp]
      simp only
      rw [if_neg (by omega), if_neg (by omega), if_neg (by omega)]
  unfold atoiO
  rw [e]
/-- What a word reads as. -/
def NumIs (s : ByteArray) (v : Int) : Prop := (∃ n : Nat, n ≤ 9999 ∧ s = numB n ∧ v = n) ∨ (v = -1 ∧ ∀ n : Nat, n ≤ 9999 → s ≠ numB n)
theorem num_step (V c : Nat) (hV : V ≤ 9999) (h0 : 48 ≤ c) (h1 : c ≤ 57) : wrap64 (wrap64 ((V : Int) * 10) + ((c : Int) - 48) % 256) = ((V * 10 + (c - 48) : Nat) : Int) := by
  have e1 : wrap64 ((V : Int) * 10) = (V : Int) * 10 := w64 _ (by omega)
  have e2 : ((c : Int) - 48) % 256 = (c : Int) - 48 := by omega
  rw [e1, e2, w64 _ (by omega)]
  omega
theorem num_l0 (s : ByteArray) (hs : s.size ≤ 4) : ∀ (m i : Nat), s.size - i = m → i ≤ s.size → (∀ c ∈ s.data.toList.take i, isDg c) →
    Ans (fun k => spec_l1Num.l0 k s (valF 0 (s.data.toList.take i) : Nat) i) (NumIs s)
  | 0, i, hm, hi, hd => by
    have hl : s.data.toList.length ≤ i := by rw [len_size]; omega
    rw [List.take_of_length_le hl] at hd ⊢
    have hv := valF_lt s.data.toList 0 hd
    have hp : 10 ^ s.data.toList.length ≤ 10 ^ 4 := Nat.pow_le_pow_right (by decide) (by rw [len_size]; exact hs)
    refine Ans.succ ?_
    unfold spec_l1Num.l0
    refine Ans.neg (by omega) ?_
    refine Ans.bind (plain_a (n := valF 0 s.data.toList) (by omega)) ?_
    rintro v rfl
    refine Ans.ite (fun h => Ans.pure (.inl ⟨_, by omega, (toList_inj h).symm, rfl⟩)) (fun h => Ans.pure (.inr ⟨rfl, ?_⟩))
    intro n hn e
    refine h ?_
    have := (numB_dg (n + 1) n (by omega)).2.1
    rw [← e] at this
    rw [this, ← e]
  | m + 1, i, hm, hi, hd => by
    have hlt : i < s.size := by omega
    have hl : i < s.data.toList.length := by rw [len_size]; exact hlt
    have hw : wrap64 ((i : Int) + 1) = ((i + 1 : Nat) : Int) := by unfold wrap64; omega
    have hno : ∀ (h : ¬ isDg s.data.toList[i]) (n : Nat), n ≤ 9999 → s ≠ numB n := by
      intro h n hn e
      have := (numB_dg (n + 1) n (by omega)).1 (s.data.toList[i]) (by rw [← e]; exact List.getElem_mem hl)
      exact h this
    refine Ans.succ ?_
    unfold spec_l1Num.l0
    refine Ans.pos (by omega) (Ans.pos (by omega) ?_)
    rw [bt_get s i hlt, hw]
    have hc8 := (s.data.toList[i]).toNat_lt
    refine Ans.ite (fun h => Ans.pure (.inr ⟨rfl, hno (fun q => by unfold isDg at q; omega)⟩)) (fun h1 => ?_)
    refine Ans.ite (fun h => Ans.pure (.inr ⟨rfl, hno (fun q => by unfold isDg at q; omega)⟩)) (fun h2 => ?_)
    have hdi : isDg s.data.toList[i] := by unfold isDg; omega
    have ht : s.data.toList.take (i + 1) = s.data.toList.take i ++ [s.data.toList[i]] := List.take_succ_eq_append_getElem hl
    have hd' : ∀ c ∈ s.data.toList.take (i + 1), isDg c := by
      rw [ht]
      intro c hc
      rcases List.mem_append.1 hc with hc | hc
      · exact hd c hc
      · have e := List.mem_singleton.1 hc; subst e; exact hdi
    have hv := valF_lt _ 0 hd
    have hp : 10 ^ (s.data.toList.take i).length ≤ 10 ^ 4 := Nat.pow_le_pow_right (by decide) (by rw [List.length_take]; omega)
    have e : wrap64 (wrap64 ((valF 0 (s.data.toList.take i) : Nat) * 10) + (((s.data.toList[i]).toNat : Int) - 48) % 256) = (valF 0 (s.data.toList.take (i + 1)) : Nat) := by
      have e1 : valF 0 (s.data.toList.take (i + 1)) = valF 0 (s.data.toList.take i) * 10 + ((s.data.toList[i]).toNat - 48) := by
        rw [ht]; unfold valF; rw [List.foldl_append]; rfl
      rw [e1]
      unfold isDg at hdi
      exact num_step _ _ (by omega) hdi.1 hdi.2
    rw [e]
    exact num_l0 s hs m (i + 1) (by omega) (by omega) hd'
theorem num_a (s : ByteArray) : Ans (fun k => spec_l1Num.f k s) (NumIs s) := by
  unfold spec_l1Num.f
  refine Ans.ite (fun h => ?_) (fun h => ?_)
  · refine Ans.succ ?_
    unfold spec_l1Num.j0
    refine Ans.pos rfl (Ans.pure (.inr ⟨rfl, fun n hn e => ?_⟩))
    have := (numB_size4 hn).2
    rw [← e] at this; omega
  · refine Ans.succ ?_
    unfold spec_l1Num.j0
    refine Ans.ite (fun h4 => Ans.pure (.inr ⟨rfl, fun n hn e => ?_⟩)) (fun h4 => ?_)
    · have := (numB_size4 hn).1
      rw [← e] at this
      have := of_decide_eq_true h4
      omega
    · have h4' : ¬ ((s.size : Int) > 4) := fun q => h4 (decide_eq_true q)
      exact num_l0 s (by omega) _ 0 rfl (Nat.zero_le _) (by simp)
end Go.Proofs.YtiocgkggegahhaaDoor.P

-- written by hw.py for this claim
namespace Go.Proofs.YtiocgkggegahhaaDoor.P
open Go.RowKit Go.Proofs.YtiocgkggegahhaaDoorUFnExactRulRead.PrintWords Go.Proofs.YtiocgkggegahhaaDoorUFnExactRulRead.PrintLast Go.Proofs.YtiocgkggegahhaaDoorUFnExactRulRead.PrintMore
attribute [local go_sem] max2_int min2_int max_two min_two max_three min_three max_four min_four
set_option linter.unusedVariables false
set_option linter.unusedSimpArgs false

/-! ### spec_RulText: function 6 -/
mutual
def spec_RulText.j0 : Nat → ByteArray → Bool → Int → Int → Int → Int → Int → Int → Option (ByteArray)
  | 0, _, _, _, _, _, _, _, _ => none
  | k + 1, x3, x112000, x112001, x112002, x112003, x112004, x112005, x112006 => spec_RulText.l0 k x3 (([x112001, x112002, x112003, x112004, x112005, x112006] : List Int)) 0
def spec_RulText.l0 : Nat → ByteArray → List Int → Int → Option (ByteArray)
  | 0, _, _, _ => none
  | k + 1, x3, x4, x5 => if x5 < (x4.length : Int) then (if x3.size + 1 ≤ 9223372036854775807 then (if 0 ≤ x5 then ((spec_l1Plain.f k (rd x4 x5)).bind fun t117 => (if (x3 ++ (⟨#[32]⟩ : ByteArray)).size + t117.size ≤ 9223372036854775807 then (spec_RulText.l0 k ((x3 ++ (⟨#[32]⟩ : ByteArray)) ++ t117) x4 (wrap64 (x5 + 1))) else (none))) else (none)) else (none)) else (some x3)
end
def spec_RulText.f (k : Nat) (a0_0 : Bool) (a0_1 : Int) (a0_2 : Int) (a0_3 : Int) (a0_4 : Int) (a0_5 : Int) (a0_6 : Int) : Option (ByteArray) := (spec_RulOk.f a0_0 a0_1 a0_2 a0_3 a0_4 a0_5 a0_6).bind fun t112 => (if t112 = true then (if a0_0 = true then (spec_RulText.j0 k (⟨#[97, 108, 108, 111, 119]⟩ : ByteArray) a0_0 a0_1 a0_2 a0_3 a0_4 a0_5 a0_6) else (spec_RulText.j0 k (⟨#[100, 101, 110, 121]⟩ : ByteArray) a0_0 a0_1 a0_2 a0_3 a0_4 a0_5 a0_6)) else (some (⟨#[]⟩ : ByteArray)))
theorem spec_RulText.mono_l : ∀ k, (∀ y0 y1 y2 y3 y4 y5 y6 y7, LeO (spec_RulText.j0 k y0 y1 y2 y3 y4 y5 y6 y7) (spec_RulText.j0 (k + 1) y0 y1 y2 y3 y4 y5 y6 y7)) ∧ (∀ y0 y1 y2, LeO (spec_RulText.l0 k y0 y1 y2) (spec_RulText.l0 (k + 1) y0 y1 y2))
  | 0 => ⟨fun _ _ _ _ _ _ _ _ r h => by simp [spec_RulText.j0] at h, fun _ _ _ r h => by simp [spec_RulText.l0] at h⟩
  | k + 1 => by
    obtain ⟨ih0, ih1⟩ := spec_RulText.mono_l k
    refine ⟨?_, ?_⟩
    · intro y0 y1 y2 y3 y4 y5 y6 y7
      unfold spec_RulText.j0
      repeat' first
      | (with_reducible exact ih0 _ _ _ _ _ _ _ _)
      | (with_reducible exact ih1 _ _ _)
      | (with_reducible exact spec_l1Plain.mono _ _)
      | (with_reducible exact LeO.refl _)
      | (with_reducible exact LeO.none _)
      | (with_reducible refine LeO.ite ?_ ?_)
      | (with_reducible refine LeO.bind ?_ (fun _ => ?_))
      | exact ih0 _ _ _ _ _ _ _ _
      | exact ih1 _ _ _
      | exact spec_l1Plain.mono _ _
      | exact LeO.none _
      | refine LeO.ite ?_ ?_
      | refine LeO.bind ?_ (fun _ => ?_)
    · intro y0 y1 y2
      unfold spec_RulText.l0
      repeat' first
      | (with_reducible exact ih0 _ _ _ _ _ _ _ _)
      | (with_reducible exact ih1 _ _ _)
      | (with_reducible exact spec_l1Plain.mono _ _)
      | (with_reducible exact LeO.refl _)
      | (with_reducible exact LeO.none _)
      | (with_reducible refine LeO.ite ?_ ?_)
      | (with_reducible refine LeO.bind ?_ (fun _ => ?_))
      | exact ih0 _ _ _ _ _ _ _ _
      | exact ih1 _ _ _
      | exact spec_l1Plain.mono _ _
      | exact LeO.none _
      | refine LeO.ite ?_ ?_
      | refine LeO.bind ?_ (fun _ => ?_)
theorem spec_RulText.mono : ∀ a0 a1 a2 a3 a4 a5 a6 k, LeO (spec_RulText.f k a0 a1 a2 a3 a4 a5 a6) (spec_RulText.f (k + 1) a0 a1 a2 a3 a4 a5 a6) := by
  intro a0 a1 a2 a3 a4 a5 a6 k
  obtain ⟨ih0, ih1⟩ := spec_RulText.mono_l k
  unfold spec_RulText.f
  repeat' first
      | (with_reducible exact ih0 _ _ _ _ _ _ _ _)
      | (with_reducible exact ih1 _ _ _)
      | (with_reducible exact spec_l1Plain.mono _ _)
      | (with_reducible exact LeO.refl _)
      | (with_reducible exact LeO.none _)
      | (with_reducible refine LeO.ite ?_ ?_)
      | (with_reducible refine LeO.bind ?_ (fun _ => ?_))
      | exact ih0 _ _ _ _ _ _ _ _
      | exact ih1 _ _ _
      | exact spec_l1Plain.mono _ _
      | exact LeO.none _
      | refine LeO.ite ?_ ?_
      | refine LeO.bind ?_ (fun _ => ?_)
set_option maxHeartbeats 8000000 in
set_option maxRecDepth 100000 in
theorem spec_RulText.calls (k : Nat) (a0_0 : Bool) (a0_1 : Int) (a0_2 : Int) (a0_3 : Int) (a0_4 : Int) (a0_5 : Int) (a0_6 : Int) (r : ByteArray) (w : World) (h : spec_RulText.f k a0_0 a0_1 a0_2 a0_3 a0_4 a0_5 a0_6 = some r) :
    Calls Tryd.prog 6 #[.agg #[.bool a0_0, .int .i64 a0_1, .int .i64 a0_2, .int .i64 a0_3, .int .i64 a0_4, .int .i64 a0_5, .int .i64 a0_6]] w fun e w' => e = .returned (.string r) ∧ Below w.heap.size w w' := by
  have hu25 := Tryd.underlying25
  have HB := Aside0.mk (Below.refl w.heap.size w)
  have H : ((spec_RulOk.f a0_0 a0_1 a0_2 a0_3 a0_4 a0_5 a0_6).bind fun t112 => (if t112 = true then (if a0_0 = true then (spec_RulText.j0 k (⟨#[97, 108, 108, 111, 119]⟩ : ByteArray) a0_0 a0_1 a0_2 a0_3 a0_4 a0_5 a0_6) else (spec_RulText.j0 k (⟨#[100, 101, 110, 121]⟩ : ByteArray) a0_0 a0_1 a0_2 a0_3 a0_4 a0_5 a0_6)) else (some (⟨#[]⟩ : ByteArray)))) = some r := h
  clear h
  replace H := Option.bind_eq_some_iff.mp H
  obtain ⟨t112, A20, H⟩ := H
  replace H : (if t112 = true then (if a0_0 = true then (spec_RulText.j0 k (⟨#[97, 108, 108, 111, 119]⟩ : ByteArray) a0_0 a0_1 a0_2 a0_3 a0_4 a0_5 a0_6) else (spec_RulText.j0 k (⟨#[100, 101, 110, 121]⟩ : ByteArray) a0_0 a0_1 a0_2 a0_3 a0_4 a0_5 a0_6)) else (some (⟨#[]⟩ : ByteArray))) = some r := H
  have A2 := Aside0.mk A20
  clear A20
  by_cases c3 : t112 = true
  · subst c3
    have H1 : (if a0_0 = true then (spec_RulText.j0 k (⟨#[97, 108, 108, 111, 119]⟩ : ByteArray) a0_0 a0_1 a0_2 a0_3 a0_4 a0_5 a0_6) else (spec_RulText.j0 k (⟨#[100, 101, 110, 121]⟩ : ByteArray) a0_0 a0_1 a0_2 a0_3 a0_4 a0_5 a0_6)) = some r := by rw [if_pos rfl] at H; exact H
    clear H
    have H := H1
    clear H1
    have HC4 := Aside0.mk H
    clear H
    go_enter Tryd.func6, Tryd.ntmps6
    go_upto_if 10 with (first | ((with_reducible refine gate_dst (N := 1) rfl ?_); refine box_event ?hg (N := 1) ?hd (cs := #[.bool a0_0, .int .i64 a0_1, .int .i64 a0_2, .int .i64 a0_3, .int .i64 a0_4, .int .i64 a0_5, .int .i64 a0_6]) (t := 25) ?hr ?_; (case hd => rfl); (case hg => rfl); (case hr => first | (go_simp; done) | (go_simp; rfl)); intro gb111 hg w5 hbox hb; have n0_ := Aside0.mk (below_step (bl HB) hb); have n1_ := Aside0.mk (hbox); have n2_ := Aside0.mk ((by rw [hg]; exact (below_size (bl HB)) : w.heap.size ≤ gb111)); have n3_ := Aside0.mk ((by rw [hg]; exact (below_size (bl HB)) : w.heap.size ≤ gb111)); clear HB; have HB := n0_; have BK111 := n1_; have GW111 := n2_; have GE111 := n3_; clear n0_ n1_ n2_ n3_; clear hb hbox hg; have hcz6_0 : w5.cell? ⟨gb111, 0, none⟩ = some (.bool a0_0) := (blk_cell BK111.out 0).trans rfl; have hcz6_1 : w5.cell? ⟨gb111, 1, none⟩ = some (.int .i64 a0_1) := (blk_cell BK111.out 1).trans rfl; have hcz6_2 : w5.cell? ⟨gb111, 2, none⟩ = some (.int .i64 a0_2) := (blk_cell BK111.out 2).trans rfl; have hcz6_3 : w5.cell? ⟨gb111, 3, none⟩ = some (.int .i64 a0_3) := (blk_cell BK111.out 3).trans rfl; have hcz6_4 : w5.cell? ⟨gb111, 4, none⟩ = some (.int .i64 a0_4) := (blk_cell BK111.out 4).trans rfl; have hcz6_5 : w5.cell? ⟨gb111, 5, none⟩ = some (.int .i64 a0_5) := (blk_cell BK111.out 5).trans rfl; have hcz6_6 : w5.cell? ⟨gb111, 6, none⟩ = some (.int .i64 a0_6) := (blk_cell BK111.out 6).trans rfl; have hfz6_0 := blk_frozen BK111.out 0; have hfz6_1 := blk_frozen BK111.out 1; have hfz6_2 := blk_frozen BK111.out 2; have hfz6_3 := blk_frozen BK111.out 3; have hfz6_4 := blk_frozen BK111.out 4; have hfz6_5 := blk_frozen BK111.out 5; have hfz6_6 := blk_frozen BK111.out 6) | ((with_reducible refine gate_callee (f := 15) rfl ?_); refine goesL_ (some 7) rfl rfl Tryd.func15 (by kernel_rfl) rfl #[.agg #[.bool a0_0, .int .i64 a0_1, .int .i64 a0_2, .int .i64 a0_3, .int .i64 a0_4, .int .i64 a0_5, .int .i64 a0_6]] rfl (by (try simp only [List.map_toArray, List.map_cons, List.map_nil]); first | done | rfl | (simp only [List.length_drop, List.length_take]; rfl)) ?_; (with_reducible refine (spec_RulOk.calls a0_0 a0_1 a0_2 a0_3 a0_4 a0_5 a0_6 true _ A2.out).mono ?_); rintro e w7 ⟨rfl, hb⟩; refine ⟨_, rfl, ?_⟩; have n0_ := bkB BK111 hb; have n1_ := Aside0.mk (below_step (bl HB) hb); clear BK111; clear HB; have BK111 := n0_; have HB := n1_; clear n0_ n1_; (try clear hb); (try clear hb2); (try clear hk); (try clear hi); have hcz8_0 : w7.cell? ⟨gb111, 0, none⟩ = some (.bool a0_0) := (blk_cell BK111.out 0).trans rfl; have hcz8_1 : w7.cell? ⟨gb111, 1, none⟩ = some (.int .i64 a0_1) := (blk_cell BK111.out 1).trans rfl; have hcz8_2 : w7.cell? ⟨gb111, 2, none⟩ = some (.int .i64 a0_2) := (blk_cell BK111.out 2).trans rfl; have hcz8_3 : w7.cell? ⟨gb111, 3, none⟩ = some (.int .i64 a0_3) := (blk_cell BK111.out 3).trans rfl; have hcz8_4 : w7.cell? ⟨gb111, 4, none⟩ = some (.int .i64 a0_4) := (blk_cell BK111.out 4).trans rfl; have hcz8_5 : w7.cell? ⟨gb111, 5, none⟩ = some (.int .i64 a0_5) := (blk_cell BK111.out 5).trans rfl; have hcz8_6 : w7.cell? ⟨gb111, 6, none⟩ = some (.int .i64 a0_6) := (blk_cell BK111.out 6).trans rfl; have hfz8_0 := blk_frozen BK111.out 0; have hfz8_1 := blk_frozen BK111.out 1; have hfz8_2 := blk_frozen BK111.out 2; have hfz8_3 := blk_frozen BK111.out 3; have hfz8_4 := blk_frozen BK111.out 4; have hfz8_5 := blk_frozen BK111.out 5; have hfz8_6 := blk_frozen BK111.out 6))
    (try simp only [Act.put, List.setIfInBounds_toArray, List.set_cons_zero, List.set_cons_succ])
    go_cut [3] (fun v3 wc => ∃ (kq : Nat) (x3_3 : ByteArray), v3 = .string x3_3 ∧ Aside0 (spec_RulText.j0 kq x3_3 a0_0 a0_1 a0_2 a0_3 a0_4 a0_5 a0_6 = some r) ∧ Aside0 (kq ≤ k) ∧ Aside0 (wc.heap[gb111]? = some (.cells #[.bool a0_0, .int .i64 a0_1, .int .i64 a0_2, .int .i64 a0_3, .int .i64 a0_4, .int .i64 a0_5, .int .i64 a0_6] 25 (0, 0))) ∧ Aside0 (Below w.heap.size w wc))
    case first =>
      have H := HC4.out
      clear HC4
      by_cases c9 : a0_0 = true
      · subst c9
        have H1 : (spec_RulText.j0 k (⟨#[97, 108, 108, 111, 119]⟩ : ByteArray) true a0_1 a0_2 a0_3 a0_4 a0_5 a0_6) = some r := by rw [if_pos rfl] at H; exact H
        clear H
        have H := H1
        clear H1
        have H' := Aside0.mk H
        clear H
        go_wp2
        go_meet
        case rel => exact ⟨_, ((⟨#[97, 108, 108, 111, 119]⟩ : ByteArray)), (by first | rfl | (simp; done) | (simp [*]; done)), H', ⟨by first | omega | exact Nat.le_refl _⟩, ⟨by (with_reducible repeat refine bu ?_); exact BK111.out⟩, ⟨by repeat (first | (with_reducible first | exact HB.out | apply below_alloc | apply pw_below_drewN | apply below_drew1 | refine below_set ?_ GE111.out) | exact HB.out)⟩⟩
      · replace c9 := Bool.eq_false_iff.mpr c9
        subst c9
        have H1 : (spec_RulText.j0 k (⟨#[100, 101, 110, 121]⟩ : ByteArray) false a0_1 a0_2 a0_3 a0_4 a0_5 a0_6) = some r := by rw [if_neg (show ¬ (false = true) by decide)] at H; exact H
        clear H
        have H := H1
        clear H1
        have H' := Aside0.mk H
        clear H
        go_wp2
        go_meet
        case rel => exact ⟨_, ((⟨#[100, 101, 110, 121]⟩ : ByteArray)), (by first | rfl | (simp; done) | (simp [*]; done)), H', ⟨by first | omega | exact Nat.le_refl _⟩, ⟨by (with_reducible repeat refine bu ?_); exact BK111.out⟩, ⟨by repeat (first | (with_reducible first | exact HB.out | apply below_alloc | apply pw_below_drewN | apply below_drew1 | refine below_set ?_ GE111.out) | exact HB.out)⟩⟩
    case rest =>
      clear HC4
      try clear c1
      try clear p2
      try clear c3
      try clear c6
      try clear c9
      try clear hcz6_0
      try clear hcz6_1
      try clear hcz6_2
      try clear hcz6_3
      try clear hcz6_4
      try clear hcz6_5
      try clear hcz6_6
      try clear hcz8_0
      try clear hcz8_1
      try clear hcz8_2
      try clear hcz8_3
      try clear hcz8_4
      try clear hcz8_5
      try clear hcz8_6
      try clear hfz6_0
      try clear hfz6_1
      try clear hfz6_2
      try clear hfz6_3
      try clear hfz6_4
      try clear hfz6_5
      try clear hfz6_6
      try clear hfz8_0
      try clear hfz8_1
      try clear hfz8_2
      try clear hfz8_3
      try clear hfz8_4
      try clear hfz8_5
      try clear hfz8_6
      obtain ⟨kq, x3_3, rfl, HA, HJ3, BK111, HB⟩ := hcut
      cases kq with
      | zero => exact absurd HA.out (by simp [spec_RulText.j0])
      | succ kj3 =>
        have H := HA.out
        clear HA
        simp only [spec_RulText.j0] at H
        obtain ⟨y113, hy113⟩ : ∃ y_ : List Int, y_ = (([a0_1, a0_2, a0_3, a0_4, a0_5, a0_6] : List Int)) := ⟨_, rfl⟩
        replace H : (spec_RulText.l0 kj3 x3_3 y113 0) = some r := by first | (rw [hy113]; with_reducible exact H) | (have H2_ := (Option.bind_some _ _).symm.trans H; rw [hy113]; with_reducible exact H2_) | (have H2_ := (Option.bind_some _ _).symm.trans H; with_reducible exact H2_) | with_reducible exact H | (rw [hy113]; exact H) | exact H
        have Ny113 := Aside0.mk hy113
        clear hy113
        have H' := Aside0.mk H
        clear H
        have hcz10_0 : wc.cell? ⟨gb111, 0, none⟩ = some (.bool a0_0) := (blk_cell BK111.out 0).trans rfl
        have hcz10_1 : wc.cell? ⟨gb111, 1, none⟩ = some (.int .i64 a0_1) := (blk_cell BK111.out 1).trans rfl
        have hcz10_2 : wc.cell? ⟨gb111, 2, none⟩ = some (.int .i64 a0_2) := (blk_cell BK111.out 2).trans rfl
        have hcz10_3 : wc.cell? ⟨gb111, 3, none⟩ = some (.int .i64 a0_3) := (blk_cell BK111.out 3).trans rfl
        have hcz10_4 : wc.cell? ⟨gb111, 4, none⟩ = some (.int .i64 a0_4) := (blk_cell BK111.out 4).trans rfl
        have hcz10_5 : wc.cell? ⟨gb111, 5, none⟩ = some (.int .i64 a0_5) := (blk_cell BK111.out 5).trans rfl
        have hcz10_6 : wc.cell? ⟨gb111, 6, none⟩ = some (.int .i64 a0_6) := (blk_cell BK111.out 6).trans rfl
        have hfz10_0 := blk_frozen BK111.out 0
        have hfz10_1 := blk_frozen BK111.out 1
        have hfz10_2 := blk_frozen BK111.out 2
        have hfz10_3 := blk_frozen BK111.out 3
        have hfz10_4 := blk_frozen BK111.out 4
        have hfz10_5 := blk_frozen BK111.out 5
        have hfz10_6 := blk_frozen BK111.out 6
        go_wp2_with (first | ((with_reducible refine gate_dst (N := 23) rfl ?_); refine Kd.R_lit (Kd.int .i64) _ 3 ?hg (N := 23) ?hd (xs := ([a0_1, a0_2, a0_3, a0_4, a0_5, a0_6] : List Int)) (inner := [.int .i64 a0_1, .int .i64 a0_2, .int .i64 a0_3, .int .i64 a0_4, .int .i64 a0_5, .int .i64 a0_6]) (ok := fun _ => True) (okp := fun _ => True) ?hr ?hp (fun _ hk => hk) trivial (Below.refl _ _) (Nat.le_refl _) (by simp) ?_; (case hd => rfl); (case hg => rfl); (case hr => first | (go_simp; done) | (go_simp; rfl)); (case hp => exact (Reps.one (show Kd.M (Kd.int .i64) _ _ _ a0_1 [.int .i64 a0_1] from rfl) (Reps.one (show Kd.M (Kd.int .i64) _ _ _ a0_2 [.int .i64 a0_2] from rfl) (Reps.one (show Kd.M (Kd.int .i64) _ _ _ a0_3 [.int .i64 a0_3] from rfl) (Reps.one (show Kd.M (Kd.int .i64) _ _ _ a0_4 [.int .i64 a0_4] from rfl) (Reps.one (show Kd.M (Kd.int .i64) _ _ _ a0_5 [.int .i64 a0_5] from rfl) (Reps.one (show Kd.M (Kd.int .i64) _ _ _ a0_6 [.int .i64 a0_6] from rfl) (Reps.none _ _)))))))); intro v114 w11 ho12 hb hg_ hnew_; clear hg_ hnew_; (first | rw [← Ny113.out] at ho12 | (simp only [Int.reduceToNat] at ho12; rw [← Ny113.out] at ho12)); have n0_ := Aside0.mk (Kd.R_lower ho12 (below_size (bl HB))); have n1_ := bkB BK111 hb; have n2_ := Aside0.mk (below_step (bl HB) hb); clear BK111; clear HB; have HO115 := n0_; have BK111 := n1_; have HB := n2_; clear n0_ n1_ n2_; clear hb ho12))
        go_loopg [3, 5] kj3 (fun kq v3 v5 w' => ∃ (x3_2 : ByteArray) (x5_2 : Int), v3 = .string x3_2 ∧ v5 = .int .i64 x5_2 ∧ Aside0 (spec_RulText.l0 kq x3_2 y113 x5_2 = some r) ∧ Aside0 (kq ≤ kj3) ∧ Aside0 (Kd.R (Kd.int .i64) 3 w' w.heap.size (fun _ => True) v114 y113) ∧ Aside0 (w'.heap[gb111]? = some (.cells #[.bool a0_0, .int .i64 a0_1, .int .i64 a0_2, .int .i64 a0_3, .int .i64 a0_4, .int .i64 a0_5, .int .i64 a0_6] 25 (0, 0))) ∧ Aside0 (Below w.heap.size w w'))
        case atStart => exact ⟨(x3_3), (0), (by first | rfl | (simp; done) | (simp [*]; done)), (by first | rfl | (simp; done) | (simp [*]; done)), H', ⟨Nat.le_refl _⟩, ⟨by (with_reducible repeat apply ru); exact HO115.out⟩, ⟨by (with_reducible repeat refine bu ?_); exact BK111.out⟩, ⟨by repeat (first | (with_reducible first | exact HB.out | apply below_alloc | apply pw_below_drewN | apply below_drew1 | refine below_set ?_ GE111.out) | exact HB.out)⟩⟩
        case round =>
          clear H'
          try clear c1
          try clear p2
          try clear c3
          try clear c6
          try clear c9
          try clear hcz10_0
          try clear hcz10_1
          try clear hcz10_2
          try clear hcz10_3
          try clear hcz10_4
          try clear hcz10_5
          try clear hcz10_6
          try clear hcz6_0
          try clear hcz6_1
          try clear hcz6_2
          try clear hcz6_3
          try clear hcz6_4
          try clear hcz6_5
          try clear hcz6_6
          try clear hcz8_0
          try clear hcz8_1
          try clear hcz8_2
          try clear hcz8_3
          try clear hcz8_4
          try clear hcz8_5
          try clear hcz8_6
          try clear hfz10_0
          try clear hfz10_1
          try clear hfz10_2
          try clear hfz10_3
          try clear hfz10_4
          try clear hfz10_5
          try clear hfz10_6
          try clear hfz6_0
          try clear hfz6_1
          try clear hfz6_2
          try clear hfz6_3
          try clear hfz6_4
          try clear hfz6_5
          try clear hfz6_6
          try clear hfz8_0
          try clear hfz8_1
          try clear hfz8_2
          try clear hfz8_3
          try clear hfz8_4
          try clear hfz8_5
          try clear hfz8_6
          try clear p2
          obtain ⟨x3_2, x5_2, rfl, rfl, HA, HK2, HO_4, BK111, HB⟩ := hrel
          cases gk with
          | zero => exact absurd HA.out (by simp [spec_RulText.l0])
          | succ k2 =>
            have H := HA.out
            clear HA
            simp only [spec_RulText.l0] at H
            by_cases c13 : x5_2 < (y113.length : Int)
            · rw [if_pos c13] at H
              have c13b0 : decide (x5_2 < (y113.length : Int)) = true := decide_eq_true c13
              clear c13
              by_cases c14 : x3_2.size + 1 ≤ 9223372036854775807
              · rw [if_pos c14] at H
                have c14b0 := eq_true c14
                have c14b1 : decide (x3_2.size + 1 ≤ 9223372036854775807) = true := decide_eq_true c14
                try have c14b2 : (9223372036854775807 < x3_2.size + 1) = False := eq_false (Nat.not_lt.2 c14)
                by_cases c15 : 0 ≤ x5_2
                · rw [if_pos c15] at H
                  have c15b0 : decide (0 ≤ x5_2) = true := decide_eq_true c15
                  clear c15
                  replace H := Option.bind_eq_some_iff.mp H
                  obtain ⟨t117, A160, H⟩ := H
                  replace H : (if (x3_2 ++ (⟨#[32]⟩ : ByteArray)).size + t117.size ≤ 9223372036854775807 then (spec_RulText.l0 k2 ((x3_2 ++ (⟨#[32]⟩ : ByteArray)) ++ t117) y113 (wrap64 (x5_2 + 1))) else (none)) = some r := H
                  have A16 := Aside0.mk A160
                  clear A160
                  by_cases c17 : (x3_2 ++ (⟨#[32]⟩ : ByteArray)).size + t117.size ≤ 9223372036854775807
                  · rw [if_pos c17] at H
                    have c17b0 := eq_true c17
                    have c17b1 : decide ((x3_2 ++ (⟨#[32]⟩ : ByteArray)).size + t117.size ≤ 9223372036854775807) = true := decide_eq_true c17
                    try have c17b2 : (9223372036854775807 < (x3_2 ++ (⟨#[32]⟩ : ByteArray)).size + t117.size) = False := eq_false (Nat.not_lt.2 c17)
                    try have c17b3 : (9223372036854775807 < x3_2.size + 1 + t117.size) = False := (by have z_ := c17b2; simp only [ByteArray.size_append] at z_; exact z_)
                    have H' := Aside0.mk H
                    clear H
                    obtain ⟨Ao18, co18, eo18⟩ := Kd.R_slice HO_4.out
                    subst eo18
                    have p116 : 0 ≤ (x5_2 : Int) := of_decide_eq_true (by first | (with_reducible assumption) | assumption)
                    have q116 : x5_2 < (y113.length : Int) := of_decide_eq_true (by first | (with_reducible assumption) | assumption)
                    obtain ⟨ad116, e116, hx116_0⟩ := Kd.at_int (Kd.R_reads' HO_4.out).2.2 x5_2 p116 q116
                    cases e116
                    replace p116 := eq_true p116
                    replace q116 := eq_true q116
                    go_wp2_with (first | ((with_reducible refine gate_callee (f := 17) rfl ?_); refine goesL_ (some 36) rfl rfl Tryd.func17 (by kernel_rfl) rfl #[.int .i64 (rd y113 x5_2)] rfl (by (try simp only [List.map_toArray, List.map_cons, List.map_nil]); first | done | rfl | (simp only [List.length_drop, List.length_take]; rfl)) ?_; (with_reducible refine (spec_l1Plain.calls k2 (rd y113 x5_2) t117 _ A16.out).mono ?_); rintro e w19 ⟨rfl, hb⟩; refine ⟨_, rfl, ?_⟩; have n0_ := Aside0.mk (Kd.R_below (rs HO_4) hb); have n1_ := bkB BK111 hb; have n2_ := Aside0.mk (below_step (bl HB) hb); clear HO_4; clear BK111; clear HB; have HO_4 := n0_; have BK111 := n1_; have HB := n2_; clear n0_ n1_ n2_; (try clear hb); (try clear hb2); (try clear hk); (try clear hi)))
                    go_roundg k2
                    case measure => have := HJ3.out; have := HK2.out; omega
                    case rel => exact ⟨((x3_2 ++ (⟨#[32]⟩ : ByteArray)) ++ t117), (wrap64 (x5_2 + 1)), (by first | rfl | (simp; done) | (simp [*]; done)), (by first | rfl | (simp; done) | (simp [*]; done)), H', ⟨by have := HJ3.out; have := HK2.out; omega⟩, ⟨by (with_reducible repeat apply ru); exact HO_4.out⟩, ⟨by (with_reducible repeat refine bu ?_); exact BK111.out⟩, ⟨by repeat (first | (with_reducible first | exact HB.out | apply below_alloc | apply pw_below_drewN | apply below_drew1 | refine below_set ?_ GE111.out) | exact HB.out)⟩⟩
                  · rw [if_neg c17] at H
                    exact absurd H (by simp)
                · rw [if_neg c15] at H
                  exact absurd H (by simp)
              · rw [if_neg c14] at H
                exact absurd H (by simp)
            · rw [if_neg c13] at H
              have c13b0 : decide (x5_2 < (y113.length : Int)) = false := decide_eq_false c13
              clear c13
              obtain rfl := Option.some.inj H
              obtain ⟨Ao20, co20, eo20⟩ := Kd.R_slice HO_4.out
              subst eo20
              go_wp2
              go_ret
              exact ⟨by first | rfl | (simp [errW_none, errW_some] <;> rfl) | (simp [*, errW_none, errW_some] <;> rfl), by repeat (first | (with_reducible first | exact HB.out | apply below_alloc | apply pw_below_drewN | apply below_drew1 | refine below_set ?_ GE111.out) | exact HB.out)⟩
  · replace c3 := Bool.eq_false_iff.mpr c3
    subst c3
    have H1 : (some (⟨#[]⟩ : ByteArray)) = some r := by rw [if_neg (show ¬ (false = true) by decide)] at H; exact H
    clear H
    have H := H1
    clear H1
    obtain rfl := Option.some.inj H
    go_enter Tryd.func6, Tryd.ntmps6
    go_wp2_with (first | ((with_reducible refine gate_dst (N := 1) rfl ?_); refine box_event ?hg (N := 1) ?hd (cs := #[.bool a0_0, .int .i64 a0_1, .int .i64 a0_2, .int .i64 a0_3, .int .i64 a0_4, .int .i64 a0_5, .int .i64 a0_6]) (t := 25) ?hr ?_; (case hd => rfl); (case hg => rfl); (case hr => first | (go_simp; done) | (go_simp; rfl)); intro gb111 hg w21 hbox hb; have n0_ := Aside0.mk (below_step (bl HB) hb); have n1_ := Aside0.mk (hbox); have n2_ := Aside0.mk ((by rw [hg]; exact (below_size (bl HB)) : w.heap.size ≤ gb111)); have n3_ := Aside0.mk ((by rw [hg]; exact (below_size (bl HB)) : w.heap.size ≤ gb111)); clear HB; have HB := n0_; have BK111 := n1_; have GW111 := n2_; have GE111 := n3_; clear n0_ n1_ n2_ n3_; clear hb hbox hg; have hcz22_0 : w21.cell? ⟨gb111, 0, none⟩ = some (.bool a0_0) := (blk_cell BK111.out 0).trans rfl; have hcz22_1 : w21.cell? ⟨gb111, 1, none⟩ = some (.int .i64 a0_1) := (blk_cell BK111.out 1).trans rfl; have hcz22_2 : w21.cell? ⟨gb111, 2, none⟩ = some (.int .i64 a0_2) := (blk_cell BK111.out 2).trans rfl; have hcz22_3 : w21.cell? ⟨gb111, 3, none⟩ = some (.int .i64 a0_3) := (blk_cell BK111.out 3).trans rfl; have hcz22_4 : w21.cell? ⟨gb111, 4, none⟩ = some (.int .i64 a0_4) := (blk_cell BK111.out 4).trans rfl; have hcz22_5 : w21.cell? ⟨gb111, 5, none⟩ = some (.int .i64 a0_5) := (blk_cell BK111.out 5).trans rfl; have hcz22_6 : w21.cell? ⟨gb111, 6, none⟩ = some (.int .i64 a0_6) := (blk_cell BK111.out 6).trans rfl; have hfz22_0 := blk_frozen BK111.out 0; have hfz22_1 := blk_frozen BK111.out 1; have hfz22_2 := blk_frozen BK111.out 2; have hfz22_3 := blk_frozen BK111.out 3; have hfz22_4 := blk_frozen BK111.out 4; have hfz22_5 := blk_frozen BK111.out 5; have hfz22_6 := blk_frozen BK111.out 6) | ((with_reducible refine gate_callee (f := 15) rfl ?_); refine goesL_ (some 7) rfl rfl Tryd.func15 (by kernel_rfl) rfl #[.agg #[.bool a0_0, .int .i64 a0_1, .int .i64 a0_2, .int .i64 a0_3, .int .i64 a0_4, .int .i64 a0_5, .int .i64 a0_6]] rfl (by (try simp only [List.map_toArray, List.map_cons, List.map_nil]); first | done | rfl | (simp only [List.length_drop, List.length_take]; rfl)) ?_; (with_reducible refine (spec_RulOk.calls a0_0 a0_1 a0_2 a0_3 a0_4 a0_5 a0_6 false _ A2.out).mono ?_); rintro e w23 ⟨rfl, hb⟩; refine ⟨_, rfl, ?_⟩; have n0_ := bkB BK111 hb; have n1_ := Aside0.mk (below_step (bl HB) hb); clear BK111; clear HB; have BK111 := n0_; have HB := n1_; clear n0_ n1_; (try clear hb); (try clear hb2); (try clear hk); (try clear hi)))
    go_ret
    exact ⟨by first | rfl | (simp [errW_none, errW_some] <;> rfl) | (simp [*, errW_none, errW_some] <;> rfl), by repeat (first | (with_reducible first | exact HB.out | apply below_alloc | apply pw_below_drewN | apply below_drew1 | refine below_set ?_ GE111.out) | exact HB.out)⟩

end Go.Proofs.YtiocgkggegahhaaDoor.P

/- What spec.RulText and spec.RulRead answer, in plain words; they answer as impl.RulText and impl.RulRead. -/
namespace Go.Proofs.YtiocgkggegahhaaDoor.P
open Go.RowKit Go.Proofs.YtiocgkggegahhaaDoorUFnExactRulRead.PrintWords Go.Proofs.YtiocgkggegahhaaDoorUFnExactRulRead.PrintLast Go.Proofs.YtiocgkggegahhaaDoorUFnExactRulRead.PrintMore
set_option linter.unusedVariables false
set_option linter.unusedSimpArgs false
theorem specRulOk_f (f0 : Bool) (f1 f2 f3 f4 f5 f6 : Int) : spec_RulOk.f f0 f1 f2 f3 f4 f5 f6 = some (ruleOk7 f1 f2 f3 f4 f5 f6) := by
  have hi : ∀ a b c : Int, spec_l1In.f a b c = some (inB a b c) := by
    intro a b c
    unfold spec_l1In.f inB
    by_cases h : a ≥ b
    · rw [if_pos h]; simp [show b ≤ a from h]
    · rw [if_neg h]; simp [show ¬ b ≤ a from h]
  unfold spec_RulOk.f
  simp only [hi, Option.bind_some]
  have key : ∀ b1 b2 b3 : Bool, ∀ p1 p2 p3 : Prop, [Decidable p1] → [Decidable p2] → [Decidable p3] →
      (if b1 = true then (if p1 then (if b2 = true then (if p2 then (if b3 = true then some (decide p3) else some false) else some false) else some false) else some false) else some false) = some (b1 && decide p1 && b2 && decide p2 && b3 && decide p3) := by
    intro b1 b2 b3 p1 p2 p3 _ _ _
    cases b1 <;> cases b2 <;> cases b3 <;> by_cases p1 <;> by_cases p2 <;> by_cases p3 <;> simp_all
  rw [key]
  congr 1
  rw [Bool.eq_iff_iff]
  simp only [ruleOk7, inB, Bool.and_eq_true, decide_eq_true_eq]
  omega
def rtext (f0 : Bool) (f1 f2 f3 f4 f5 f6 : Int) : ByteArray := if ruleOk7 f1 f2 f3 f4 f5 f6 then textB (allowB f0) [f1, f2, f3, f4, f5, f6] else ⟨#[]⟩
theorem implRulText_f (f0 : Bool) (f1 f2 f3 f4 f5 f6 : Int) : impl_RulText.f f0 f1 f2 f3 f4 f5 f6 = some (rtext f0 f1 f2 f3 f4 f5 f6) := rfl
theorem rtext_l0 (l : List Int) (hl : ∀ n ∈ l, 0 ≤ n ∧ n ≤ 999) (hn : l.length ≤ 10) : ∀ (m i : Nat), l.length - i = m → i ≤ l.length → ∀ x3 : ByteArray, x3.size ≤ 100 + 10 * i →
    Ans (fun k => spec_RulText.l0 k x3 l i) (fun b => b = textB x3 (l.drop i))
  | 0, i, hm, hi, x3, h3 => by
    refine Ans.succ ?_
    unfold spec_RulText.l0
    refine Ans.neg (by omega) (Ans.pure ?_)
    rw [List.drop_eq_nil_of_le (by omega)]; rfl
  | m + 1, i, hm, hi, x3, h3 => by
    have hlt : i < l.length := by omega
    have hw : wrap64 ((i : Int) + 1) = ((i + 1 : Nat) : Int) := w64 _ (by omega)
    have hx := hl l[i] (List.getElem_mem hlt)
    have hr : rd l (i : Int) = l[i] := by simp [rd, List.getD, hlt]
    have hd : l.drop i = l[i] :: l.drop (i + 1) := List.drop_eq_getElem_cons hlt
    obtain ⟨n, hnn⟩ : ∃ n : Nat, l[i] = n := ⟨l[i].toNat, by omega⟩
    refine Ans.succ ?_
    unfold spec_RulText.l0
    refine Ans.pos (by omega) (Ans.pos (by omega) (Ans.pos (by omega) ?_))
    rw [hr, hw, hnn]
    refine Ans.bind (plain_a (n := n) (by omega)) ?_
    rintro v rfl
    have hz := numB_size (n := (n : Int)) (by omega) (by omega)
    have h1 : (x3 ++ (⟨#[32]⟩ : ByteArray)).size = x3.size + 1 := by rw [ByteArray.size_append]; rfl
    refine Ans.pos (by rw [h1]; omega) ?_
    refine (rtext_l0 l hl hn m (i + 1) (by omega) (by omega) (x3 ++ (⟨#[32]⟩ : ByteArray) ++ numB n) (by rw [ByteArray.size_append, h1]; omega)).mono ?_
    rintro v rfl
    rw [hd, hnn, ByteArray.append_assoc]
    rfl
theorem specRulText_a (f0 : Bool) (f1 f2 f3 f4 f5 f6 : Int) : Ans (fun k => spec_RulText.f k f0 f1 f2 f3 f4 f5 f6) (fun b => b = rtext f0 f1 f2 f3 f4 f5 f6) := by
  unfold spec_RulText.f
  rw [specRulOk_f]
  refine Ans.bsome ?_
  unfold rtext
  cases hk : ruleOk7 f1 f2 f3 f4 f5 f6 with
  | false => exact Ans.neg (by simp) (Ans.pure rfl)
  | true =>
    have hb := ruleOk7_le hk
    have hl : ∀ n ∈ ([f1, f2, f3, f4, f5, f6] : List Int), 0 ≤ n ∧ n ≤ 999 := by
      intro n hn
      simp only [List.mem_cons, List.mem_nil_iff, or_false] at hn
      rcases hn with rfl | rfl | rfl | rfl | rfl | rfl <;> omega
    refine Ans.pos rfl ?_
    cases f0 with
    | true =>
      refine Ans.pos rfl (Ans.succ ?_)
      unfold spec_RulText.j0
      exact rtext_l0 _ hl (by simp) _ 0 rfl (Nat.zero_le _) _ (by decide)
    | false =>
      refine Ans.neg (by simp) (Ans.succ ?_)
      unfold spec_RulText.j0
      exact rtext_l0 _ hl (by simp) _ 0 rfl (Nat.zero_le _) _ (by decide)
/-- What spec.RulRead makes of words. -/
def RulIs (a : ByteArray) (n1 n2 n3 n4 n5 n6 : Int) : RR :=
  if (a = allowB true ∨ a = allowB false) ∧ ruleOk7 n1 n2 n3 n4 n5 n6 = true then (decide (a = allowB true), n1, n2, n3, n4, n5, n6, true) else zeroRR
theorem nums_l0 (l : List ByteArray) (hl : l.length = 7) : ∀ (m i : Nat), 7 - i = m → 1 ≤ i → i ≤ 7 → ∀ x5 : List Int, x5.length + 1 = i → (∀ j : Nat, (h : j + 1 < i) → (h7 : j + 1 < 7) → NumIs (l[j + 1]'(by omega)) (x5.getD j 0)) → ∀ P : RR → Prop,
    (∀ xs : List Int, xs.length = 6 → (∀ j : Nat, (h : j < 6) → NumIs (l[j + 1]'(by omega)) (xs.getD j 0)) → P (if ruleOk7 (rd xs 0) (rd xs 1) (rd xs 2) (rd xs 3) (rd xs 4) (rd xs 5) then (((rdOf ByteArray.empty l 0).toList == ([97, 108, 108, 111, 119] : List UInt8)), rd xs 0, rd xs 1, rd xs 2, rd xs 3, rd xs 4, rd xs 5, true) else zeroRR)) →
    Ans (fun k => spec_RulRead.l0 k l x5 i) P
  | 0, i, hm, h1, hi, x5, h5, hj, P, hP => by
    refine Ans.succ ?_
    unfold spec_RulRead.l0
    refine Ans.neg (by omega) ?_
    refine Ans.pos (by omega) (Ans.pos (by omega) (Ans.pos (by omega) (Ans.pos (by omega) (Ans.pos (by omega) (Ans.pos (by omega) (Ans.pos (by omega) ?_))))))
    rw [specRulOk_f]
    refine Ans.bsome ?_
    have := hP x5 (by omega) (fun j h => hj j (by omega) (by omega))
    refine Ans.ite (fun h => Ans.pure ?_) (fun h => Ans.pure ?_)
    · rw [if_pos h] at this; exact this
    · rw [if_neg h] at this; exact this
  | m + 1, i, hm, h1, hi, x5, h5, hj, P, hP => by
    have hlt : i < 7 := by omega
    have hw : wrap64 ((i : Int) + 1) = ((i + 1 : Nat) : Int) := w64 _ (by omega)
    refine Ans.succ ?_
    unfold spec_RulRead.l0
    refine Ans.pos (by omega) (Ans.pos (by omega) (Ans.pos (by omega) ?_))
    have hr : rdOf ByteArray.empty l (i : Int) = l[i]'(by omega) := by simp [rdOf, List.getD, hl, hlt]
    rw [hr, hw]
    refine Ans.bind (num_a _) ?_
    intro v hv
    refine Ans.pos (by omega) ?_
    refine nums_l0 l hl m (i + 1) (by omega) (by omega) (by omega) (x5 ++ [v]) (by simp; omega) ?_ P hP
    intro j h h7
    by_cases hji : j + 1 < i
    · have := hj j hji h7
      have e : (x5 ++ [v]).getD j 0 = x5.getD j 0 := by simp [List.getD, List.getElem?_append_left (show j < x5.length by omega)]
      rw [e]; exact this
    · have hji' : j = x5.length := by omega
      subst hji'
      have e : (x5 ++ [v]).getD x5.length 0 = v := by simp [List.getD]
      rw [e]
      have : l[x5.length + 1]'(by omega) = l[i]'(by omega) := by congr 1
      rw [this]; exact hv
def rulReadO (s a b1 b2 b3 b4 b5 b6 : ByteArray) : Option RR :=
  (atoiO b1).bind fun n1 => (atoiO b2).bind fun n2 => (atoiO b3).bind fun n3 => (atoiO b4).bind fun n4 => (atoiO b5).bind fun n5 => (atoiO b6).bind fun n6 =>
    (impl_RulText.f (decide (a = allowB true)) n1 n2 n3 n4 n5 n6).bind fun t => if t = s then some (decide (a = allowB true), n1, n2, n3, n4, n5, n6, true) else none
theorem allow_noBlank (b : Bool) : noBlank (allowB b) := by
  cases b <;> (intro c hc; simp [allowB] at hc; rcases hc with rfl | rfl | rfl | rfl | rfl <;> decide)
theorem numI_noBlank {n : Int} (h : 0 ≤ n) : noBlank (numB n) := by
  obtain ⟨k, rfl⟩ : ∃ k : Nat, n = k := ⟨n.toNat, by omega⟩
  exact numB_noBlank k
theorem words_nil : wordsB (⟨#[]⟩ : ByteArray) = [⟨#[]⟩] := by rw [wordsB_eq]; rfl
theorem read_some {s a b1 b2 b3 b4 b5 b6 : ByteArray} (hw : wordsB s = [a, b1, b2, b3, b4, b5, b6]) {r : RR} (h : rulReadO s a b1 b2 b3 b4 b5 b6 = some r) :
    ∃ n1 n2 n3 n4 n5 n6 : Int, ruleOk7 n1 n2 n3 n4 n5 n6 = true ∧ a = allowB (decide (a = allowB true)) ∧ b1 = numB n1 ∧ b2 = numB n2 ∧ b3 = numB n3 ∧ b4 = numB n4 ∧ b5 = numB n5 ∧ b6 = numB n6 ∧ r = (decide (a = allowB true), n1, n2, n3, n4, n5, n6, true) := by
  unfold rulReadO at h
  simp only [Option.bind_eq_some_iff] at h
  obtain ⟨n1, e1, n2, e2, n3, e3, n4, e4, n5, e5, n6, e6, t, et, h⟩ := h
  rw [implRulText_f] at et
  have et := Option.some.inj et
  by_cases ht : t = s
  · rw [if_pos ht] at h
    have h := Option.some.inj h
    subst ht
    unfold rtext at et
    by_cases hk : ruleOk7 n1 n2 n3 n4 n5 n6 = true
    · rw [if_pos hk, textB_join] at et
      have hb := ruleOk7_le hk
      have hj := words_join (allowB (decide (a = allowB true))) ([n1, n2, n3, n4, n5, n6].map numB) (allow_noBlank _) (by
        intro x hx
        simp only [List.map_cons, List.map_nil, List.mem_cons, List.mem_nil_iff, or_false] at hx
        rcases hx with rfl | rfl | rfl | rfl | rfl | rfl <;> exact numI_noBlank (by omega))
      rw [et, hw] at hj
      simp only [List.map_cons, List.map_nil, List.cons.injEq, and_true] at hj
      obtain ⟨h0, h1, h2, h3, h4, h5, h6⟩ := hj
      exact ⟨n1, n2, n3, n4, n5, n6, hk, h0, h1, h2, h3, h4, h5, h6, h.symm⟩
    · rw [if_neg hk] at et
      rw [← et, words_nil] at hw
      simp at hw
  · rw [if_neg ht] at h; cases h
theorem num_same {b : ByteArray} {n x : Int} (h : b = numB n) (h0 : 0 ≤ n) (h1 : n ≤ 999) (hx : NumIs b x) : x = n := by
  obtain ⟨k, rfl⟩ : ∃ k : Nat, n = k := ⟨n.toNat, by omega⟩
  rcases hx with ⟨m, hm, e, rfl⟩ | ⟨_, hno⟩
  · have := numB_inj (e.symm.trans h); omega
  · exact absurd h (hno k (by omega))
theorem num_pos {b : ByteArray} {x : Int} (h : 1 ≤ x) (hx : NumIs b x) : b = numB x ∧ atoiO b = some x := by
  rcases hx with ⟨m, hm, e, rfl⟩ | ⟨e, _⟩
  · exact ⟨e, by rw [e]; exact atoiO_num hm⟩
  · omega
theorem read_key {s a b1 b2 b3 b4 b5 b6 : ByteArray} (hw : wordsB s = [a, b1, b2, b3, b4, b5, b6]) (ha : a = allowB true ∨ a = allowB false) {x1 x2 x3 x4 x5 x6 : Int}
    (h1 : NumIs b1 x1) (h2 : NumIs b2 x2) (h3 : NumIs b3 x3) (h4 : NumIs b4 x4) (h5 : NumIs b5 x5) (h6 : NumIs b6 x6) :
    (if ruleOk7 x1 x2 x3 x4 x5 x6 = true then (decide (a = allowB true), x1, x2, x3, x4, x5, x6, true) else zeroRR) = rulReadW s [a, b1, b2, b3, b4, b5, b6] := by
  show _ = (rulReadO s a b1 b2 b3 b4 b5 b6).getD zeroRR
  by_cases hk : ruleOk7 x1 x2 x3 x4 x5 x6 = true
  · rw [if_pos hk]
    have hb := ruleOk7_le hk
    obtain ⟨q1, r1⟩ := num_pos (by omega) h1
    obtain ⟨q2, r2⟩ := num_pos (by omega) h2
    obtain ⟨q3, r3⟩ := num_pos (by omega) h3
    obtain ⟨q4, r4⟩ := num_pos (by omega) h4
    obtain ⟨q5, r5⟩ := num_pos (by omega) h5
    obtain ⟨q6, r6⟩ := num_pos (by omega) h6
    have hal : allowB (decide (a = allowB true)) = a := by
      rcases ha with e | e
      · rw [decide_eq_true e, e]
      · have : a ≠ allowB true := by rw [e]; decide
        rw [decide_eq_false this, e]
    have ht : rtext (decide (a = allowB true)) x1 x2 x3 x4 x5 x6 = s := by
      unfold rtext
      rw [if_pos hk, textB_join, hal]
      simp only [List.map_cons, List.map_nil]
      rw [← q1, ← q2, ← q3, ← q4, ← q5, ← q6]
      exact join_words s a _ hw
    unfold rulReadO
    rw [r1, r2, r3, r4, r5, r6]
    simp only [Option.bind_some, implRulText_f, ht, if_true, Option.getD_some]
  · rw [if_neg hk]
    cases h : rulReadO s a b1 b2 b3 b4 b5 b6 with
    | none => rfl
    | some r =>
      obtain ⟨n1, n2, n3, n4, n5, n6, hn, _, e1, e2, e3, e4, e5, e6, _⟩ := read_some hw h
      have hb := ruleOk7_le hn
      have g1 := num_same e1 (by omega) (by omega) h1
      have g2 := num_same e2 (by omega) (by omega) h2
      have g3 := num_same e3 (by omega) (by omega) h3
      have g4 := num_same e4 (by omega) (by omega) h4
      have g5 := num_same e5 (by omega) (by omega) h5
      have g6 := num_same e6 (by omega) (by omega) h6
      rw [g1, g2, g3, g4, g5, g6] at hk
      exact absurd hn hk
theorem read_not {s a b1 b2 b3 b4 b5 b6 : ByteArray} (hw : wordsB s = [a, b1, b2, b3, b4, b5, b6]) (ha : a ≠ allowB true) (ha' : a ≠ allowB false) :
    rulReadW s [a, b1, b2, b3, b4, b5, b6] = zeroRR := by
  show (rulReadO s a b1 b2 b3 b4 b5 b6).getD zeroRR = _
  cases h : rulReadO s a b1 b2 b3 b4 b5 b6 with
  | none => rfl
  | some r =>
    obtain ⟨n1, n2, n3, n4, n5, n6, hn, e, _⟩ := read_some hw h
    rw [decide_eq_false ha] at e
    exact absurd e ha'
theorem list7 {l : List ByteArray} (h : l.length = 7) : ∃ a b1 b2 b3 b4 b5 b6, l = [a, b1, b2, b3, b4, b5, b6] := by
  match l, h with
  | [a, b1, b2, b3, b4, b5, b6], _ => exact ⟨a, b1, b2, b3, b4, b5, b6, rfl⟩
theorem deny_list : (allowB false).toList = [100, 101, 110, 121] := by rw [ByteArray.toList_eq]; rfl
theorem allow_list : (allowB true).toList = [97, 108, 108, 111, 119] := by rw [ByteArray.toList_eq]; rfl
theorem specRulRead_a (s : ByteArray) (hs : s.size ≤ 1048576) : Ans (fun k => spec_RulRead.f k s) (fun r => r = rulReadW s (wordsB s)) := by
  unfold spec_RulRead.f
  refine Ans.bind (words_a s hs) ?_
  rintro v rfl
  by_cases h7 : (wordsB s).length = 7
  · obtain ⟨a, b1, b2, b3, b4, b5, b6, hw⟩ := list7 h7
    rw [hw]
    have hfin : ∀ (ha : a = allowB true ∨ a = allowB false), Ans (fun k => spec_RulRead.l0 k [a, b1, b2, b3, b4, b5, b6] [] 1) (fun r => r = rulReadW s [a, b1, b2, b3, b4, b5, b6]) := by
      intro ha
      refine nums_l0 [a, b1, b2, b3, b4, b5, b6] rfl 6 1 rfl (by omega) (by omega) [] rfl (fun j h => by omega) _ ?_
      intro xs hx hn
      match xs, hx with
      | [x1, x2, x3, x4, x5, x6], _ =>
        have := read_key hw ha (hn 0 (by omega)) (hn 1 (by omega)) (hn 2 (by omega)) (hn 3 (by omega)) (hn 4 (by omega)) (hn 5 (by omega))
        rw [← this]
        show (if ruleOk7 x1 x2 x3 x4 x5 x6 = true then ((a.toList == ([97, 108, 108, 111, 119] : List UInt8)), x1, x2, x3, x4, x5, x6, true) else zeroRR) = _
        rw [← allowB_eq]
        rfl
    refine Ans.pos (by simp) (Ans.pos (by simp) ?_)
    have h0 : rdOf ByteArray.empty [a, b1, b2, b3, b4, b5, b6] 0 = a := rfl
    rw [h0]
    refine Ans.ite (fun hal => ?_) (fun hal => ?_)
    · refine Ans.succ ?_
      unfold spec_RulRead.j0
      refine Ans.neg (by simp) ?_
      exact hfin (.inl (toList_inj (hal.trans allow_list.symm)))
    · refine Ans.succ ?_
      unfold spec_RulRead.j0
      by_cases hd : a = allowB false
      · refine Ans.neg (by rw [hd, deny_list]; decide) ?_
        exact hfin (.inr hd)
      · refine Ans.pos (bne_iff_ne.mpr (fun e => hd (toList_inj (e.trans deny_list.symm)))) (Ans.pure ?_)
        rw [read_not hw (fun e => hal (by rw [e, allow_list])) hd]
        rfl
  · refine Ans.neg (by omega) (Ans.succ ?_)
    unfold spec_RulRead.j0
    refine Ans.pos rfl (Ans.pure ?_)
    rw [rulReadW_ne h7]; rfl
end Go.Proofs.YtiocgkggegahhaaDoor.P

/- The plain law of FnExactRulRead: what the printed law computes is true. -/
namespace Go.Proofs.YtiocgkggegahhaaDoor.P
open Go.RowKit Go.Proofs.YtiocgkggegahhaaDoorUFnExactRulRead.PrintWords Go.Proofs.YtiocgkggegahhaaDoorUFnExactRulRead.PrintLast Go.Proofs.YtiocgkggegahhaaDoorUFnExactRulRead.PrintMore
set_option linter.unusedVariables false
set_option linter.unusedSimpArgs false
theorem implRulRead_f {s : ByteArray} (hs : s.size ≤ 1048576) : impl_RulRead.f s = some (rulReadW s (wordsB s)) := by
  unfold impl_RulRead.f; rw [if_pos (by omega)]
theorem eqRulRule_f (b : Bool) (n1 n2 n3 n4 n5 n6 : Int) : laws_eqRulRule.f b n1 n2 n3 n4 n5 n6 b n1 n2 n3 n4 n5 n6 = some true := by
  unfold laws_eqRulRule.f; simp
theorem laws_FnExactRulRead.pure : laws_FnExactRulRead.Pure := by
  intro s hm
  have A : Ans (fun k => laws_FnExactRulRead.f k s) (fun r => r = true) := by
    unfold laws_FnExactRulRead.f
    by_cases c : (s.size : Int) > 1048576
    · exact Ans.pos c (Ans.pure rfl)
    · have hs : s.size ≤ 1048576 := by omega
      refine Ans.neg c ?_
      refine Ans.bind (specRulRead_a s hs) ?_
      rintro v rfl
      rw [implRulRead_f hs]
      obtain ⟨b, n1, n2, n3, n4, n5, n6, o⟩ := rulReadW s (wordsB s)
      refine Ans.bsome ?_
      simp only
      rw [eqRulRule_f]
      exact Ans.bsome (Ans.pos rfl (Ans.neg (by simp) (Ans.pure rfl)))
  obtain ⟨k, v, rfl, h⟩ := A.got
  exact ⟨k, h⟩
end Go.Proofs.YtiocgkggegahhaaDoor.P

namespace Go.Proofs.YtiocgkggegahhaaDoor.Pure
theorem FnExactRulRead : P.laws_FnExactRulRead.Pure := P.laws_FnExactRulRead.pure
end Go.Proofs.YtiocgkggegahhaaDoor.Pure
