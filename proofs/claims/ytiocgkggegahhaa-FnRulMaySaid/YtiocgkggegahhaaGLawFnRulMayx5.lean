import Derived.Test.YtiocgkggegahhaaGLawFnRulMayx4
-- written by hw.py for this claim
namespace Go.Proofs.Ytiocgkggegahhaa.P
open Go.RowKit Go.Proofs.YtiocgkggegahhaaW.PrintWords Go.Proofs.YtiocgkggegahhaaW.PrintLast Go.Proofs.YtiocgkggegahhaaW.PrintMore
attribute [local go_sem] max2_int min2_int max_two min_two max_three min_three max_four min_four
set_option linter.unusedVariables false
set_option linter.unusedSimpArgs false

/-! ### spec_DrawRulOk: function 11 -/
def spec_DrawRulOk.f (k : Nat) (l0 : List Int) : Option (Bool × Int × Int × Int × Int × Int × Int) := (spec_l20Open.f l0).bind fun bt156 => ((spec_l20Rule.f k bt156.1 bt156.2 2).bind fun bt159 => (some (bt159.1, bt159.2.1, bt159.2.2.1, bt159.2.2.2.1, bt159.2.2.2.2.1, bt159.2.2.2.2.2.1, bt159.2.2.2.2.2.2.1)))
theorem spec_DrawRulOk.mono : ∀ a0 k, LeO (spec_DrawRulOk.f k a0) (spec_DrawRulOk.f (k + 1) a0) := by
  intro a0 k
  unfold spec_DrawRulOk.f
  repeat' first
      | (with_reducible exact spec_l20Rule.mono _ _ _ _)
      | (with_reducible exact LeO.refl _)
      | (with_reducible exact LeO.none _)
      | (with_reducible refine LeO.ite ?_ ?_)
      | (with_reducible refine LeO.bind ?_ (fun _ => ?_))
      | exact spec_l20Rule.mono _ _ _ _
      | exact LeO.none _
      | refine LeO.ite ?_ ?_
      | refine LeO.bind ?_ (fun _ => ?_)
set_option maxHeartbeats 8000000 in
set_option maxRecDepth 100000 in
theorem spec_DrawRulOk.calls (k : Nat) (A0 : Option Addr) (c0 : Nat) (l0 : List Int) (r1 : Bool) (r2 : Int) (r3 : Int) (r4 : Int) (r5 : Int) (r6 : Int) (r7 : Int) (w : World) (hr0 : Kd.C (Kd.int .u8) w A0 l0.length l0) (hc0 : l0.length ≤ c0) (h : spec_DrawRulOk.f k l0 = some (r1, r2, r3, r4, r5, r6, r7)) :
    Calls Try.prog 11 #[.slice A0 l0.length c0] w fun e w' => e = .returned (.agg #[.bool r1, .int .i64 r2, .int .i64 r3, .int .i64 r4, .int .i64 r5, .int .i64 r6, .int .i64 r7]) ∧ Below w.heap.size w w' := by
  have hu24 := Try.underlying24
  have HR0 := Aside0.mk hr0
  have HC0 := Aside0.mk hc0
  clear hr0 hc0
  have HB := Aside0.mk (Below.refl w.heap.size w)
  have H : ((spec_l20Open.f l0).bind fun bt156 => ((spec_l20Rule.f k bt156.1 bt156.2 2).bind fun bt159 => (some (bt159.1, bt159.2.1, bt159.2.2.1, bt159.2.2.2.1, bt159.2.2.2.2.1, bt159.2.2.2.2.2.1, bt159.2.2.2.2.2.2.1)))) = some (r1, r2, r3, r4, r5, r6, r7) := h
  clear h
  replace H := Option.bind_eq_some_iff.mp H
  obtain ⟨⟨t156, t157⟩, A20, H⟩ := H
  replace H : ((spec_l20Rule.f k t156 t157 2).bind fun bt159 => (some (bt159.1, bt159.2.1, bt159.2.2.1, bt159.2.2.2.1, bt159.2.2.2.2.1, bt159.2.2.2.2.2.1, bt159.2.2.2.2.2.2.1))) = some (r1, r2, r3, r4, r5, r6, r7) := H
  have A2 := Aside0.mk A20
  clear A20
  replace H := Option.bind_eq_some_iff.mp H
  obtain ⟨⟨t159, t160, t161, t162, t163, t164, t165, t166⟩, A30, H⟩ := H
  replace H : (some (t159, t160, t161, t162, t163, t164, t165)) = some (r1, r2, r3, r4, r5, r6, r7) := H
  have A3 := Aside0.mk A30
  clear A30
  simp only [Option.some.injEq, Prod.mk.injEq] at H
  obtain ⟨rfl, rfl, rfl, rfl, rfl, rfl, rfl⟩ := H
  go_enter Try.func11, Try.ntmps11
  go_wp2_with (first | ((with_reducible refine gate_dst (N := 2) rfl ?_); refine box_event ?hg (N := 2) ?hd (cs := #[.bool false, .int .i64 0, .int .i64 0, .int .i64 0, .int .i64 0, .int .i64 0, .int .i64 0]) (t := 24) ?hr ?_; (case hd => rfl); (case hg => rfl); (case hr => first | (go_simp; done) | (go_simp; rfl)); intro gb155 hg w4 hbox hb; have n0_ := Aside0.mk (below_step (bl HB) hb); have n1_ := Aside0.mk (hbox); have n2_ := Aside0.mk ((by rw [hg]; exact (below_size (bl HB)) : w.heap.size ≤ gb155)); have n3_ := Aside0.mk ((by rw [hg]; exact (below_size (bl HB)) : w.heap.size ≤ gb155)); clear HB; have HB := n0_; have BK155 := n1_; have GW155 := n2_; have GE155 := n3_; clear n0_ n1_ n2_ n3_; clear hb hbox hg) | ((with_reducible refine gate_callee (f := 45) rfl ?_); refine goesL_ (some 4) rfl rfl Try.func45 (by kernel_rfl) rfl #[.slice A0 l0.length c0] rfl (by (try simp only [List.map_toArray, List.map_cons, List.map_nil]); first | done | rfl | (simp only [List.length_drop, List.length_take]; rfl)) ?_; (with_reducible refine (spec_l20Open.calls _ _ l0 t156 t157 w _ ?side1 ?side2 ?side3 A2.out).mono ?_); (case side1 => repeat (first | (with_reducible first | exact HB.out | apply below_alloc | apply pw_below_drewN | apply below_drew1 | refine below_set ?_ GE155.out) | exact HB.out)); (case side2 => exact HR0.out); (case side3 => exact HC0.out); rintro e w5 ⟨g158, rfl, hi, hb, hb2⟩; refine ⟨_, rfl, ?_⟩; have n0_ := Aside0.mk (blk_below (g := gb155) (o := .cells #[.bool false, .int .i64 0, .int .i64 0, .int .i64 0, .int .i64 0, .int .i64 0, .int .i64 0] 24 (0, 0)) (bk BK155) hb2); have n1_ := Aside0.mk (hb); have n2_ := Aside0.mk (hi); have n3_ := Aside0.mk (IsS102.ne_blk hi (blk_below (g := gb155) (o := .cells #[.bool false, .int .i64 0, .int .i64 0, .int .i64 0, .int .i64 0, .int .i64 0, .int .i64 0] 24 (0, 0)) (bk BK155) hb2) (by decide)); have n4_ := Aside0.mk (Ne.symm (IsS102.ne_blk hi (blk_below (g := gb155) (o := .cells #[.bool false, .int .i64 0, .int .i64 0, .int .i64 0, .int .i64 0, .int .i64 0, .int .i64 0] 24 (0, 0)) (bk BK155) hb2) (by decide))); clear BK155; clear HB; have BK155 := n0_; have HB := n1_; have HI158 := n2_; have NB158_155 := n3_; have NB155_158 := n4_; clear n0_ n1_ n2_ n3_ n4_; (try clear hb); (try clear hb2); (try clear hk); (try clear hi)) | ((with_reducible refine gate_callee (f := 44) rfl ?_); refine goesL_ (some 5) rfl rfl Try.func44 (by kernel_rfl) rfl #[.pointer (some ⟨g158, 0, none⟩), .int .i64 2] rfl (by (try simp only [List.map_toArray, List.map_cons, List.map_nil]); first | done | rfl | (simp only [List.length_drop, List.length_take]; rfl)) ?_; (with_reducible refine (spec_l20Rule.calls k g158 t156 t157 2 t159 t160 t161 t162 t163 t164 t165 t166 w _ ?side1 ?side2 A3.out).mono ?_); (case side1 => repeat (first | (with_reducible first | exact HI158.out | apply IsS102.alloc | apply IsS102.drewN | apply IsS102.drew | apply IsS102.set_1 | refine IsS102.far ?_ NB158_155.out _) | exact HI158.out)); (case side2 => repeat (first | (with_reducible first | exact HB.out | apply below_alloc | apply pw_below_drewN | apply below_drew1 | refine below_set ?_ (IsS102.ge HI158.out) | refine below_set ?_ GE155.out) | exact HB.out)); rintro e w6 ⟨rfl, hi, hb, hk⟩; refine ⟨_, rfl, ?_⟩; have n0_ := Aside0.mk (KeepBut.blk hk (g' := gb155) (o := .cells #[.bool false, .int .i64 0, .int .i64 0, .int .i64 0, .int .i64 0, .int .i64 0, .int .i64 0] 24 (0, 0)) (bk BK155) NB155_158.out (by simp)); have n1_ := Aside0.mk (hb); have n2_ := Aside0.mk (hi); clear BK155; clear HB; clear HI158; have BK155 := n0_; have HB := n1_; have HI158 := n2_; clear n0_ n1_ n2_; (try clear hb); (try clear hb2); (try clear hk); (try clear hi); have hnb7 := NB155_158.out; have hnc7 := NB158_155.out; have hcz8_0 : w6.cell? ⟨gb155, 0, none⟩ = some (.bool false) := (blk_cell BK155.out 0).trans rfl; have hcz8_1 : w6.cell? ⟨gb155, 1, none⟩ = some (.int .i64 0) := (blk_cell BK155.out 1).trans rfl; have hcz8_2 : w6.cell? ⟨gb155, 2, none⟩ = some (.int .i64 0) := (blk_cell BK155.out 2).trans rfl; have hcz8_3 : w6.cell? ⟨gb155, 3, none⟩ = some (.int .i64 0) := (blk_cell BK155.out 3).trans rfl; have hcz8_4 : w6.cell? ⟨gb155, 4, none⟩ = some (.int .i64 0) := (blk_cell BK155.out 4).trans rfl; have hcz8_5 : w6.cell? ⟨gb155, 5, none⟩ = some (.int .i64 0) := (blk_cell BK155.out 5).trans rfl; have hcz8_6 : w6.cell? ⟨gb155, 6, none⟩ = some (.int .i64 0) := (blk_cell BK155.out 6).trans rfl; have hfz8_0 := blk_frozen BK155.out 0; have hfz8_1 := blk_frozen BK155.out 1; have hfz8_2 := blk_frozen BK155.out 2; have hfz8_3 := blk_frozen BK155.out 3; have hfz8_4 := blk_frozen BK155.out 4; have hfz8_5 := blk_frozen BK155.out 5; have hfz8_6 := blk_frozen BK155.out 6))
  refine bodyPost_ret (results_cell_row rfl _ _ gb155 24 #[.bool t159, .int .i64 t160, .int .i64 t161, .int .i64 t162, .int .i64 t163, .int .i64 t164, .int .i64 t165] (0, 0) _ rfl (by (with_reducible repeat refine bu ?_); refine blk_put (cs := #[.bool t159, .int .i64 t160, .int .i64 t161, .int .i64 t162, .int .i64 t163, .int .i64 t164, .int .i64 0]) ?_ 6 _ rfl; (with_reducible repeat refine bu ?_); refine blk_put (cs := #[.bool t159, .int .i64 t160, .int .i64 t161, .int .i64 t162, .int .i64 t163, .int .i64 0, .int .i64 0]) ?_ 5 _ rfl; (with_reducible repeat refine bu ?_); refine blk_put (cs := #[.bool t159, .int .i64 t160, .int .i64 t161, .int .i64 t162, .int .i64 0, .int .i64 0, .int .i64 0]) ?_ 4 _ rfl; (with_reducible repeat refine bu ?_); refine blk_put (cs := #[.bool t159, .int .i64 t160, .int .i64 t161, .int .i64 0, .int .i64 0, .int .i64 0, .int .i64 0]) ?_ 3 _ rfl; (with_reducible repeat refine bu ?_); refine blk_put (cs := #[.bool t159, .int .i64 t160, .int .i64 0, .int .i64 0, .int .i64 0, .int .i64 0, .int .i64 0]) ?_ 2 _ rfl; (with_reducible repeat refine bu ?_); refine blk_put (cs := #[.bool t159, .int .i64 0, .int .i64 0, .int .i64 0, .int .i64 0, .int .i64 0, .int .i64 0]) ?_ 1 _ rfl; (with_reducible repeat refine bu ?_); refine blk_put (cs := #[.bool false, .int .i64 0, .int .i64 0, .int .i64 0, .int .i64 0, .int .i64 0, .int .i64 0]) ?_ 0 _ rfl; (with_reducible repeat refine bu ?_); exact BK155.out) Try.underlying24 rfl (by kernel_rfl)) rfl ?_
  exact ⟨by first | rfl | (simp [errW_none, errW_some] <;> rfl) | (simp [*, errW_none, errW_some] <;> rfl), by repeat (first | (with_reducible first | exact HB.out | apply below_alloc | apply pw_below_drewN | apply below_drew1 | refine below_set ?_ (IsS102.ge HI158.out) | refine below_set ?_ GE155.out) | exact HB.out)⟩

end Go.Proofs.Ytiocgkggegahhaa.P

/- What the reader of drawn bytes answers: one pick, one drawn rule. -/
namespace Go.Proofs.Ytiocgkggegahhaa.P
open Go.RowKit Go.Proofs.YtiocgkggegahhaaW.PrintWords Go.Proofs.YtiocgkggegahhaaW.PrintLast Go.Proofs.YtiocgkggegahhaaW.PrintMore
set_option linter.unusedVariables false
set_option linter.unusedSimpArgs false
theorem i64_xor_nat (a b : Nat) (ha : a < 2 ^ 62) (hb : b < 2 ^ 62) : Go.bits .xor .i64 (a : Int) (b : Int) = ((a ^^^ b : Nat) : Int) := by
  have hx : a ^^^ b < 2 ^ 62 := Nat.xor_lt_two_pow ha hb
  show IntKind.i64.wrap ((BitVec.ofInt 64 (a : Int) ^^^ BitVec.ofInt 64 (b : Int)).toNat : Int) = _
  have e : ∀ n : Nat, n < 2 ^ 62 → (BitVec.ofInt 64 (n : Int)).toNat = n := by
    intro n hn
    rw [BitVec.ofInt_natCast, BitVec.toNat_ofNat]; exact Nat.mod_eq_of_lt (by omega)
  rw [BitVec.toNat_xor, e a ha, e b hb]
  rw [i64_w]; unfold wrap64; omega
theorem i64_xor_nonneg (a b : Int) (h1 : 0 ≤ a) (h2 : a < 2 ^ 62) (h3 : 0 ≤ b) (h4 : b < 2 ^ 62) : 0 ≤ Go.bits .xor .i64 a b := by
  obtain ⟨A, rfl⟩ := Int.eq_ofNat_of_zero_le h1
  obtain ⟨B, rfl⟩ := Int.eq_ofNat_of_zero_le h3
  rw [i64_xor_nat A B (by omega) (by omega)]
  omega
theorem w64 (n : Int) (h : -9223372036854775808 ≤ n ∧ n ≤ 9223372036854775807) : wrap64 n = n := by unfold wrap64; omega
/-- Every byte of the list. -/
def Bys (l : List Int) : Prop := ∀ x ∈ l, 0 ≤ x ∧ x ≤ 255
theorem rd_bys {l : List Int} (h : Bys l) (i : Int) : 0 ≤ rd l i ∧ rd l i ≤ 255 := by
  unfold rd
  by_cases hi : i.toNat < l.length
  · have e : l.getD i.toNat 0 = l[i.toNat] := by simp [List.getD, hi]
    rw [e]; exact h _ (List.getElem_mem hi)
  · have e : l.getD i.toNat 0 = 0 := by simp [List.getD, Nat.not_lt.mp hi]
    rw [e]; omega
theorem tmod_in {a n : Int} (ha : 0 ≤ a) (hn : 1 ≤ n) : 0 ≤ Int.tmod a n ∧ Int.tmod a n < n := by
  rw [Int.tmod_eq_emod_of_nonneg ha]
  exact ⟨Int.emod_nonneg _ (by omega), Int.emod_lt_of_pos _ (by omega)⟩
theorem tdiv_in {a n : Int} (ha : 0 ≤ a) (hn : 1 ≤ n) : 0 ≤ Int.tdiv a n ∧ Int.tdiv a n ≤ a := by
  rw [Int.tdiv_eq_ediv_of_nonneg ha]
  exact ⟨Int.ediv_nonneg ha (by omega), Int.ediv_le_self _ ha⟩
/-- One pick: it answers, within its bound, and the place moves on by one. -/
theorem pick_f {l : List Int} (hl : Bys l) (s n : Int) (k : Nat) (hs : 0 ≤ s) (hs' : s < 1000000) : ∃ v, spec_l20Rd_pick.f (k + 1) l s n = some (v, s + 1) ∧ 0 ≤ v ∧ (v < n ∨ v = 0) := by
  unfold spec_l20Rd_pick.f spec_l20Rd_pick.j0
  dsimp only
  have e1 : wrap64 (s + 1) = s + 1 := w64 _ (by omega)
  have e2 : wrap64 (s + 1 - 1) = s := by rw [show s + 1 - 1 = s by omega]; exact w64 _ (by omega)
  by_cases c : n < 1
  · exact ⟨0, by simp [c, e1], by omega, .inr rfl⟩
  · rw [if_neg c, e1]
    simp only [e2]
    by_cases c0 : (l.length : Int) = 0
    · exact ⟨0, by simp [c0], by omega, .inr rfl⟩
    · have cb : ¬ (((l.length : Int) == 0) = true) := by simpa using c0
      have cn : ¬ (n = 0) := by omega
      rw [if_neg cb]
      by_cases c1 : s < (l.length : Int)
      · have hb := rd_bys hl s
        have hm := tmod_in hb.1 (show 1 ≤ n by omega)
        refine ⟨_, by rw [if_pos c1, if_pos hs, if_neg cn, w64 (rd l s) (by omega)], hm.1, .inl hm.2⟩
      · have hL : 1 ≤ (l.length : Int) := by omega
        have m1 := tmod_in hs hL
        have f1 : wrap64 (s * 7) = s * 7 := w64 _ (by omega)
        have f2 : wrap64 (s * 7 + 3) = s * 7 + 3 := w64 _ (by omega)
        have m2 := tmod_in (show 0 ≤ s * 7 + 3 by omega) hL
        rw [if_neg c1, if_neg c0, if_pos m1.1, if_pos m1.2]
        simp only [f1, f2]
        rw [if_pos m2.1, if_pos m2.2, if_neg cn]
        have r1 := rd_bys hl (Int.tmod s (l.length : Int))
        have r2 := rd_bys hl (Int.tmod (s * 7 + 3) (l.length : Int))
        have d1 := tdiv_in hs hL
        generalize rd l (Int.tmod s (l.length : Int)) = u1 at *
        generalize rd l (Int.tmod (s * 7 + 3) (l.length : Int)) = u2 at *
        generalize Int.tdiv s (l.length : Int) = u3 at *
        have g1 : wrap64 u1 = u1 := w64 _ (by omega)
        have g2 : wrap64 u2 = u2 := w64 _ (by omega)
        have g3 : wrap64 u3 = u3 := w64 _ (by omega)
        have g4 : wrap64 (u1 * 131) = u1 * 131 := w64 _ (by omega)
        have g5 : wrap64 (u2 * 1117) = u2 * 1117 := w64 _ (by omega)
        have g6 : wrap64 (s * 29) = s * 29 := w64 _ (by omega)
        have g7 : wrap64 (u3 * 53) = u3 * 53 := w64 _ (by omega)
        simp only [g1, g2, g3, g4, g5, g6, g7]
        have g8 : wrap64 (u1 * 131 + u2 * 1117) = u1 * 131 + u2 * 1117 := w64 _ (by omega)
        rw [g8]
        have g9 : wrap64 (u1 * 131 + u2 * 1117 + s * 29) = u1 * 131 + u2 * 1117 + s * 29 := w64 _ (by omega)
        rw [g9]
        have g10 : wrap64 (u1 * 131 + u2 * 1117 + s * 29 + u3 * 53) = u1 * 131 + u2 * 1117 + s * 29 + u3 * 53 := w64 _ (by omega)
        rw [g10]
        have hX0 : 0 ≤ u1 * 131 + u2 * 1117 + s * 29 + u3 * 53 := by omega
        have hX1 : u1 * 131 + u2 * 1117 + s * 29 + u3 * 53 < 1000000000 := by omega
        generalize u1 * 131 + u2 * 1117 + s * 29 + u3 * 53 = X at *
        have d2 := tdiv_in hX0 (show (1:Int) ≤ 64 by omega)
        have g11 : wrap64 (Int.tdiv X 64) = Int.tdiv X 64 := w64 _ (by omega)
        rw [g11]
        have hz := i64_xor_nonneg X (Int.tdiv X 64) hX0 (by omega) d2.1 (by omega)
        have hm := tmod_in hz (show 1 ≤ n by omega)
        exact ⟨_, rfl, hm.1, .inl hm.2⟩
theorem odd_f {l : List Int} (hl : Bys l) (s n : Int) (k : Nat) (hs : 0 ≤ s) (hs' : s < 1000000) : ∃ b s', spec_l20Rd_odd.f (k + 1) l s n = some (b, s') ∧ s ≤ s' ∧ s' ≤ s + 1 := by
  unfold spec_l20Rd_odd.f
  by_cases c : n < 9000
  · obtain ⟨v, h, _⟩ := pick_f hl s n k hs hs'
    exact ⟨_, s + 1, by rw [if_pos c, h]; rfl, by omega, by omega⟩
  · exact ⟨_, _, by rw [if_neg c], by omega, by omega⟩
theorem open_f (l : List Int) (hl : Bys l) : ∃ l', spec_l20Open.f l = some (l', 0) ∧ Bys l' := by
  unfold spec_l20Open.f
  by_cases c : (l.length : Int) > 2000
  · exact ⟨l.take 2000, by rw [if_pos c, if_pos (by omega)], fun x h => hl x (List.mem_of_mem_take h)⟩
  · exact ⟨l, by rw [if_neg c], hl⟩

theorem rd_three (a b c i : Int) (h : 0 ≤ i ∧ (i < 3 ∨ i = 0)) : rd ([a, b, c] : List Int) i = a ∨ rd ([a, b, c] : List Int) i = b ∨ rd ([a, b, c] : List Int) i = c := by
  have : i = 0 ∨ i = 1 ∨ i = 2 := by omega
  rcases this with rfl | rfl | rfl
  · exact .inl rfl
  · exact .inr (.inl rfl)
  · exact .inr (.inr rfl)
theorem rd_two (a b i : Int) (h : 0 ≤ i ∧ (i < 2 ∨ i = 0)) : rd ([a, b] : List Int) i = a ∨ rd ([a, b] : List Int) i = b := by
  have : i = 0 ∨ i = 1 := by omega
  rcases this with rfl | rfl
  · exact .inl rfl
  · exact .inr rfl
/-- Small whole numbers. -/
def Sm (n : Int) : Prop := -10 ≤ n ∧ n ≤ 1200
/-- One drawn rule: it answers, and all numbers are small. -/
theorem rule_f {l : List Int} (hl : Bys l) (s n : Int) (k : Nat) (hs : 0 ≤ s) (hs' : s < 900000) :
    ∃ b x1 x2 x3 x4 x5 x6 s', spec_l20Rule.f (k + 2) l s n = some (b, x1, x2, x3, x4, x5, x6, s') ∧ s ≤ s' ∧ s' ≤ s + 10 ∧ Sm x1 ∧ Sm x2 ∧ Sm x3 ∧ Sm x4 ∧ Sm x5 ∧ Sm x6 := by
  unfold spec_l20Rule.f
  obtain ⟨v0, h0, p0⟩ := pick_f hl s 2 (k + 1) hs (by omega)
  rw [h0, Option.bind_some]
  obtain ⟨v1, h1, p1⟩ := pick_f hl (s + 1) 4 (k + 1) (by omega) (by omega)
  dsimp only
  rw [h1, Option.bind_some]
  obtain ⟨v2, h2, p2⟩ := pick_f hl (s + 1 + 1) 4 (k + 1) (by omega) (by omega)
  dsimp only
  rw [h2, Option.bind_some, Option.bind_some]
  obtain ⟨v3, h3, p3⟩ := pick_f hl (s + 1 + 1 + 1) 3 (k + 1) (by omega) (by omega)
  dsimp only
  rw [h3, Option.bind_some]
  dsimp only
  rw [if_pos p3.1, if_pos (show v3 < (([1, 21, 7] : List Int).length : Int) by simp; omega)]
  obtain ⟨v4, h4, p4⟩ := pick_f hl (s + 1 + 1 + 1 + 1) 3 (k + 1) (by omega) (by omega)
  rw [h4, Option.bind_some]
  obtain ⟨v5, h5, p5⟩ := pick_f hl (s + 1 + 1 + 1 + 1 + 1) 3 (k + 1) (by omega) (by omega)
  dsimp only
  rw [h5, Option.bind_some, Option.bind_some]
  obtain ⟨v6, h6, p6⟩ := pick_f hl (s + 1 + 1 + 1 + 1 + 1 + 1) 3 (k + 1) (by omega) (by omega)
  dsimp only
  rw [h6, Option.bind_some]
  dsimp only
  have q3 := rd_three 1 21 7 v3 p3
  generalize rd ([1, 21, 7] : List Int) v3 = lo at *
  rw [if_pos p6.1, if_pos (show v6 < (([999, 21, lo] : List Int).length : Int) by simp; omega)]
  have q6 := rd_three 999 21 lo v6 p6
  generalize rd ([999, 21, lo] : List Int) v6 = hi at *
  have w1 : wrap64 (1 + v1) = 1 + v1 := w64 _ (by omega)
  have w2 : wrap64 (100 + v2) = 100 + v2 := w64 _ (by omega)
  have w3 : wrap64 (1 + v1 + v4) = 1 + v1 + v4 := w64 _ (by omega)
  have w4 : wrap64 (100 + v2 + v5) = 100 + v2 + v5 := w64 _ (by omega)
  rw [w1, w2, w3, w4]
  have J : ∀ (t : Int) (b : Bool) (x1 x2 x3 x4 x5 x6 : Int), s ≤ t → t ≤ s + 7 → Sm x1 → Sm x2 → Sm x3 → Sm x4 → Sm x5 → Sm x6 →
      ∃ b' x1' x2' x3' x4' x5' x6' s', spec_l20Rule.j0 (k + 2) n l t b x1 x2 x3 x4 x5 x6 = some (b', x1', x2', x3', x4', x5', x6', s') ∧ s ≤ s' ∧ s' ≤ s + 10 ∧ Sm x1' ∧ Sm x2' ∧ Sm x3' ∧ Sm x4' ∧ Sm x5' ∧ Sm x6' := by
    intro t b x1 x2 x3 x4 x5 x6 ht ht' m1 m2 m3 m4 m5 m6
    unfold spec_l20Rule.j0
    obtain ⟨o, t1, g0, u0, u0'⟩ := odd_f hl t n k (by omega) (by omega)
    dsimp only
    rw [g0, Option.bind_some]
    dsimp only
    by_cases c : o = true
    · rw [if_pos c]
      obtain ⟨a1, g1, z1⟩ := pick_f hl t1 4 k (by omega) (by omega)
      rw [g1, Option.bind_some]
      dsimp only
      by_cases c1 : a1 = 0
      · rw [if_pos c1, Option.bind_some]
        obtain ⟨a2, g2, z2⟩ := pick_f hl (t1 + 1) 3 k (by omega) (by omega)
        rw [g2, Option.bind_some]
        dsimp only
        rw [if_pos z2.1, if_pos (show a2 < (([0, 9, -1] : List Int).length : Int) by simp; omega)]
        have := rd_three 0 9 (-1) a2 z2
        refine ⟨_, _, _, _, _, _, _, _, rfl, by omega, by omega, ?_, m2, m3, m4, m5, m6⟩
        unfold Sm; omega
      · rw [if_neg c1]
        by_cases c2 : a1 = 1
        · rw [if_pos c2, Option.bind_some]
          obtain ⟨a2, g2, z2⟩ := pick_f hl (t1 + 1) 2 k (by omega) (by omega)
          rw [g2, Option.bind_some]
          dsimp only
          rw [if_pos z2.1, if_pos (show a2 < (([110, 99] : List Int).length : Int) by simp; omega)]
          have := rd_two 110 99 a2 z2
          refine ⟨_, _, _, _, _, _, _, _, rfl, by omega, by omega, m1, m2, m3, ?_, m5, m6⟩
          unfold Sm; omega
        · rw [if_neg c2]
          by_cases c3 : a1 = 2
          · rw [if_pos c3, Option.bind_some]
            obtain ⟨a2, g2, z2⟩ := pick_f hl (t1 + 1) 2 k (by omega) (by omega)
            rw [g2, Option.bind_some]
            dsimp only
            rw [if_pos z2.1, if_pos (show a2 < (([0, 1000] : List Int).length : Int) by simp; omega)]
            have := rd_two 0 1000 a2 z2
            refine ⟨_, _, _, _, _, _, _, _, rfl, by omega, by omega, m1, m2, m3, m4, m5, ?_⟩
            unfold Sm; omega
          · rw [if_neg c3]
            exact ⟨_, _, _, _, _, _, _, _, rfl, by omega, by omega, m1, by unfold Sm; omega, m3, m4, m5, m6⟩
    · rw [if_neg c]
      exact ⟨_, _, _, _, _, _, _, _, rfl, by omega, by omega, m1, m2, m3, m4, m5, m6⟩
  have n1 : Sm (1 + v1) := by unfold Sm; omega
  have n2 : Sm (1 + v1 + v4) := by unfold Sm; omega
  have n3 : Sm (100 + v2) := by unfold Sm; omega
  have n4 : Sm (100 + v2 + v5) := by unfold Sm; omega
  have n5 : Sm lo := by unfold Sm; omega
  have n6 : Sm hi := by unfold Sm; omega
  by_cases c : hi < lo
  · rw [if_pos c]
    exact J _ _ _ _ _ _ _ _ (by omega) (by omega) n1 n2 n3 n4 n5 n5
  · rw [if_neg c]
    exact J _ _ _ _ _ _ _ _ (by omega) (by omega) n1 n2 n3 n4 n5 n6
end Go.Proofs.Ytiocgkggegahhaa.P

/- Functions with rounds: what they answer from some round on. -/
namespace Go.Proofs.Ytiocgkggegahhaa.P
open Go.RowKit Go.Proofs.YtiocgkggegahhaaW.PrintWords Go.Proofs.YtiocgkggegahhaaW.PrintLast Go.Proofs.YtiocgkggegahhaaW.PrintMore
set_option linter.unusedVariables false
set_option linter.unusedSimpArgs false
/-- From some round on, the function answers one value, of which P holds. -/
def Ans {α : Type} (f : Nat → Option α) (P : α → Prop) : Prop := ∃ K v, P v ∧ ∀ k, K ≤ k → f k = some v
namespace Ans
variable {α β : Type} {f g : Nat → Option α} {P Q : α → Prop}
theorem of {v : α} (h : ∀ k, f k = some v) (p : P v) : Ans f P := ⟨0, v, p, fun k _ => h k⟩
theorem pure {v : α} (p : P v) : Ans (fun _ => some v) P := ⟨0, v, p, fun k _ => rfl⟩
theorem mono (h : Ans f P) (hq : ∀ v, P v → Q v) : Ans f Q := by obtain ⟨K, v, p, e⟩ := h; exact ⟨K, v, hq v p, e⟩
theorem succ (h : Ans (fun k => f (k + 1)) P) : Ans f P := by
  obtain ⟨K, v, p, e⟩ := h
  refine ⟨K + 1, v, p, fun k hk => ?_⟩
  obtain ⟨k', rfl⟩ : ∃ k', k = k' + 1 := ⟨k - 1, by omega⟩
  exact e k' (by omega)
theorem bind {a : Nat → Option β} {R : β → Prop} {b : Nat → β → Option α} (h : Ans a R) (hb : ∀ v, R v → Ans (fun k => b k v) P) : Ans (fun k => (a k).bind (b k)) P := by
  obtain ⟨K, v, p, e⟩ := h
  obtain ⟨K', u, q, e'⟩ := hb v p
  exact ⟨max K K', u, q, fun k hk => by show (a k).bind (b k) = some u; rw [e k (by omega)]; exact e' k (by omega)⟩
theorem bsome {v : β} {b : Nat → β → Option α} (h : Ans (fun k => b k v) P) : Ans (fun k => (some v).bind (b k)) P := h
theorem congr (h : Ans g P) (e : ∀ k, f k = g k) : Ans f P := by obtain ⟨K, v, p, e'⟩ := h; exact ⟨K, v, p, fun k hk => (e k).trans (e' k hk)⟩
theorem got (h : Ans f P) : ∃ k v, P v ∧ f k = some v := by obtain ⟨K, v, p, e⟩ := h; exact ⟨K, v, p, e K (Nat.le_refl _)⟩
theorem pos {c : Prop} [Decidable c] (h : c) (ht : Ans f P) : Ans (fun k => if c then f k else g k) P := congr ht (fun k => if_pos h)
theorem neg {c : Prop} [Decidable c] (h : ¬ c) (ht : Ans g P) : Ans (fun k => if c then f k else g k) P := congr ht (fun k => if_neg h)
theorem ite {c : Prop} [Decidable c] (ht : c → Ans f P) (he : ¬ c → Ans g P) : Ans (fun k => if c then f k else g k) P := by
  by_cases h : c
  · exact pos h (ht h)
  · exact neg h (he h)
end Ans
/-- A place among the drawn bytes, at most n. -/
def At (n s : Int) : Prop := 0 ≤ s ∧ s ≤ n
theorem pick_a {l : List Int} (hl : Bys l) {s B : Int} (hs : At B s) (hB : B < 900000) (n : Int) : Ans (fun k => spec_l20Rd_pick.f k l s n) (fun r => At (B + 1) r.2 ∧ 0 ≤ r.1 ∧ (r.1 < n ∨ r.1 = 0)) := by
  obtain ⟨h0, h1⟩ := hs
  refine Ans.succ ?_
  obtain ⟨v, h, p⟩ := pick_f hl s n 0 h0 (by omega)
  refine Ans.of (v := (v, s + 1)) (fun k => ?_) ⟨⟨by omega, by first | omega | (dsimp only; omega)⟩, p⟩
  obtain ⟨v', h', _⟩ := pick_f hl s n k h0 (by omega)
  have e : spec_l20Rd_pick.f (k + 1) l s n = spec_l20Rd_pick.f (0 + 1) l s n := by
    unfold spec_l20Rd_pick.f spec_l20Rd_pick.j0
    rfl
  rw [e, h]
theorem odd_a {l : List Int} (hl : Bys l) {s B : Int} (hs : At B s) (hB : B < 900000) (n : Int) : Ans (fun k => spec_l20Rd_odd.f k l s n) (fun r => At (B + 1) r.2) := by
  unfold spec_l20Rd_odd.f
  refine Ans.ite (fun _ => ?_) (fun _ => Ans.pure ⟨hs.1, by have := hs.2; dsimp only; omega⟩)
  refine Ans.bind (pick_a hl hs hB n) ?_
  rintro ⟨v, s'⟩ ⟨h, _⟩
  exact Ans.pure h
theorem at_le {B B' s : Int} (h : At B s) (hb : B ≤ B') : At B' s := ⟨h.1, by have := h.2; omega⟩
theorem rule_a {l : List Int} (hl : Bys l) {s B : Int} (hs : At B s) (hB : B < 800000) (n : Int) : Ans (fun k => spec_l20Rule.f k l s n) (fun r => At (B + 10) r.2.2.2.2.2.2.2 ∧ Sm r.2.1 ∧ Sm r.2.2.1 ∧ Sm r.2.2.2.1 ∧ Sm r.2.2.2.2.1 ∧ Sm r.2.2.2.2.2.1 ∧ Sm r.2.2.2.2.2.2.1) := by
  obtain ⟨h0, h1⟩ := hs
  obtain ⟨b, x1, x2, x3, x4, x5, x6, s', h, a, a', m⟩ := rule_f hl s n 0 h0 (by omega)
  refine ⟨2, (b, x1, x2, x3, x4, x5, x6, s'), ⟨⟨by show 0 ≤ s'; omega, by show s' ≤ B + 10; omega⟩, m⟩, ?_⟩
  intro k hk
  obtain ⟨j, rfl⟩ := Nat.exists_eq_add_of_le hk
  clear hk
  induction j with
  | zero => exact h
  | succ j ih => exact spec_l20Rule.mono _ _ _ _ _ ih
theorem sm_rd {xs : List Int} (h : ∀ x ∈ xs, Sm x) (i : Int) : Sm (rd xs i) := by
  unfold rd
  by_cases hi : i.toNat < xs.length
  · have e : xs.getD i.toNat 0 = xs[i.toNat] := by simp [List.getD, hi]
    rw [e]; exact h _ (List.getElem_mem hi)
  · have e : xs.getD i.toNat 0 = 0 := by simp [List.getD, Nat.not_lt.mp hi]
    rw [e]; unfold Sm; omega
end Go.Proofs.Ytiocgkggegahhaa.P

/- What the drawing functions answer: always something, its ends small. -/
namespace Go.Proofs.Ytiocgkggegahhaa.P
open Go.RowKit Go.Proofs.YtiocgkggegahhaaW.PrintWords Go.Proofs.YtiocgkggegahhaaW.PrintLast Go.Proofs.YtiocgkggegahhaaW.PrintMore
set_option linter.unusedVariables false
set_option linter.unusedSimpArgs false
theorem in_a {l : List Int} (hl : Bys l) {s B : Int} (hs : At B s) (hB : B < 800000) : Ans (fun k => spec_l20In.f k l s) (fun r => At (B + 3) r.2.2 ∧ Sm r.1 ∧ Sm r.2.1) := by
  unfold spec_l20In.f
  refine Ans.bind (pick_a hl hs (by omega) 4) ?_
  rintro ⟨v1, s1⟩ ⟨h1, p1⟩
  refine Ans.bind (pick_a hl h1 (by omega) 40) ?_
  rintro ⟨v2, s2⟩ ⟨h2, p2⟩
  dsimp only at *
  simp only [Option.bind_some]
  refine Ans.bind (pick_a hl h2 (by omega) 5) ?_
  rintro ⟨v3, s3⟩ ⟨h3, p3⟩
  dsimp only at *
  refine Ans.pos p3.1 (Ans.pos (by simp; omega) (Ans.pure ⟨at_le h3 (by omega), ?_, sm_rd ?_ _⟩))
  · rw [w64 _ (by omega)]; unfold Sm; omega
  · intro x hx
    have e : wrap64 (1 + v2) = 1 + v2 := w64 _ (by omega)
    rw [e] at hx
    simp at hx
    unfold Sm
    omega
theorem out_a {l : List Int} (hl : Bys l) {s B : Int} (hs : At B s) (hB : B < 800000) : Ans (fun k => spec_l20Out.f k l s) (fun r => At (B + 2) r.2.2 ∧ Sm r.1 ∧ Sm r.2.1) := by
  unfold spec_l20Out.f
  refine Ans.bind (pick_a hl hs (by omega) 3) ?_
  rintro ⟨v1, s1⟩ ⟨h1, p1⟩
  simp only [Option.bind_some]
  dsimp only at *
  refine Ans.bind (pick_a hl h1 (by omega) 4) ?_
  rintro ⟨v3, s3⟩ ⟨h3, p3⟩
  dsimp only at *
  refine Ans.pos p3.1 (Ans.pos (by simp; omega) (Ans.pure ⟨at_le h3 (by omega), ?_, sm_rd ?_ _⟩))
  · rw [w64 _ (by omega)]; unfold Sm; omega
  · intro x hx
    simp at hx
    unfold Sm
    omega
theorem sm_rd29 {xs : List S29} (h : ∀ x ∈ xs, Sm x.f0 ∧ Sm x.f1) (i : Int) : Sm (rd_T29 xs i).f0 ∧ Sm (rd_T29 xs i).f1 := by
  unfold rd_T29
  by_cases hi : i.toNat < xs.length
  · have e : xs.getD i.toNat z29 = xs[i.toNat] := by simp [List.getD, hi]
    rw [e]; exact h _ (List.getElem_mem hi)
  · have e : xs.getD i.toNat z29 = z29 := by simp [List.getD, Nat.not_lt.mp hi]
    rw [e]; unfold Sm z29; exact ⟨by decide, by decide⟩
theorem end_a {l : List Int} (hl : Bys l) {s B : Int} (hs : At B s) (hB : B < 700000) (n : Int) : Ans (fun k => spec_l20End.f k l s n) (fun r => At (B + 8) r.2.2 ∧ Sm r.1 ∧ Sm r.2.1) := by
  unfold spec_l20End.f
  refine Ans.bind (odd_a hl hs (by omega) n) ?_
  rintro ⟨b, s1⟩ h1
  dsimp only at *
  refine Ans.ite (fun _ => ?_) (fun _ => ?_)
  · simp only [Option.bind_some]
    refine Ans.bind (pick_a hl h1 (by omega) 6) ?_
    rintro ⟨v3, s3⟩ ⟨h3, p3⟩
    dsimp only at *
    refine Ans.pos p3.1 (Ans.pos (by simp; omega) (Ans.pure ⟨at_le h3 (by omega), sm_rd29 ?_ _⟩))
    intro x hx
    simp at hx
    unfold Sm
    rcases hx with rfl | rfl | rfl | rfl | rfl | rfl <;> exact ⟨by decide, by decide⟩
  · refine Ans.bind (in_a hl h1 (by omega)) ?_
    rintro ⟨a1, a2, s2⟩ ⟨h2, m1, m2⟩
    dsimp only at *
    refine Ans.bind (out_a hl h2 (by omega)) ?_
    rintro ⟨b1, b2, s3⟩ ⟨h3, m3, m4⟩
    dsimp only at *
    refine Ans.bind (pick_a hl h3 (by omega) 7) ?_
    rintro ⟨v4, s4⟩ ⟨h4, p4⟩
    simp only [Option.bind_some]
    dsimp only at *
    refine Ans.bind (pick_a hl h4 (by omega) 3) ?_
    rintro ⟨v5, s5⟩ ⟨h5, p5⟩
    dsimp only at *
    refine Ans.pos p5.1 (Ans.pos (by simp; omega) (Ans.pure ⟨at_le h5 (by omega), sm_rd29 ?_ _⟩))
    intro x hx
    have e : wrap64 (500 + v4) = 500 + v4 := w64 _ (by omega)
    rw [e] at hx
    simp at hx
    rcases hx with rfl | rfl | rfl
    · exact ⟨m1, m2⟩
    · exact ⟨m3, m4⟩
    · unfold Sm; exact ⟨by first | omega | (dsimp only; omega), by first | omega | (dsimp only; omega)⟩
/-- Drawn rules: at most six of them. -/
theorem rules_a {l : List Int} (hl : Bys l) {s B : Int} (hs : At B s) (hB : B < 500000) (n : Int) : Ans (fun k => spec_l20Rules.f k l s n) (fun r => At (B + 200) r.2 ∧ r.1.length ≤ 6) := by
  have L1 : ∀ (m : Nat) (x5 : List S24) (s B : Int), At B s → B + 10 * (m : Int) < 700000 → x5.length + m = 6 → Ans (fun k => spec_l20Rules.l1 k x5 l s) (fun r => At (B + 10 * m) r.2 ∧ r.1.length ≤ 6) := by
    intro m
    induction m with
    | zero =>
      intro x5 s B hs hB hm
      refine Ans.succ ?_
      unfold spec_l20Rules.l1
      exact Ans.neg (by omega) (Ans.pure ⟨at_le hs (by omega), by first | omega | (dsimp only; omega)⟩)
    | succ m ih =>
      intro x5 s B hs hB hm
      refine Ans.succ ?_
      unfold spec_l20Rules.l1
      refine Ans.pos (by omega) (Ans.bind (rule_a hl hs (by omega) 99999) ?_)
      rintro ⟨y0, y1, y2, y3, y4, y5, y6, s1⟩ ⟨h1, _⟩
      dsimp only at *
      refine Ans.pos (by omega) ?_
      refine (ih _ s1 _ h1 (by omega) (by simp; omega)).mono ?_
      rintro r ⟨a, b⟩
      exact ⟨at_le a (by push_cast; omega), b⟩
  have J1 : ∀ (x5 : List S24) (s B : Int), At B s → B < 550000 → x5.length ≤ 4 → Ans (fun k => spec_l20Rules.j1 k n x5 l s) (fun r => At (B + 80) r.2 ∧ r.1.length ≤ 6) := by
    intro x5 s B hs hB hm
    refine Ans.succ ?_
    unfold spec_l20Rules.j1
    refine Ans.bind (odd_a hl hs (by omega) n) ?_
    rintro ⟨b, s1⟩ h1
    dsimp only at *
    refine Ans.ite (fun _ => ?_) (fun _ => Ans.pure ⟨at_le h1 (by omega), by first | omega | (dsimp only; omega)⟩)
    refine Ans.bind (pick_a hl h1 (by omega) 2) ?_
    rintro ⟨v2, s2⟩ ⟨h2, p2⟩
    dsimp only at *
    refine Ans.ite (fun _ => ?_) (fun _ => ?_)
    · refine Ans.bind (rule_a hl h2 (by omega) 1) ?_
      rintro ⟨y0, y1, y2, y3, y4, y5, y6, s3⟩ ⟨h3, _⟩
      dsimp only at *
      exact Ans.pos (by omega) (Ans.pure ⟨at_le h3 (by omega), by simp; omega⟩)
    · refine (L1 (6 - x5.length) x5 s2 _ h2 (by omega) (by omega)).mono ?_
      rintro r ⟨a, b⟩
      exact ⟨at_le a (by omega), b⟩
  have L0 : ∀ (m : Nat) (x5 : List S24) (x6 s B : Int), At B s → B + 10 * (m : Int) < 540000 → x5.length + m ≤ 4 → x6 ≤ m → Ans (fun k => spec_l20Rules.l0 k n x5 x6 l s) (fun r => At (B + 10 * m + 80) r.2 ∧ r.1.length ≤ 6) := by
    intro m
    induction m with
    | zero =>
      intro x5 x6 s B hs hB hm hx
      refine Ans.succ ?_
      unfold spec_l20Rules.l0
      refine Ans.neg (by omega) ((J1 x5 s B hs (by omega) (by omega)).mono ?_)
      rintro r ⟨a, b⟩
      exact ⟨at_le a (by omega), b⟩
    | succ m ih =>
      intro x5 x6 s B hs hB hm hx
      refine Ans.succ ?_
      unfold spec_l20Rules.l0
      refine Ans.ite (fun c => ?_) (fun c => ?_)
      · refine Ans.bind (rule_a hl hs (by omega) 99999) ?_
        rintro ⟨y0, y1, y2, y3, y4, y5, y6, s1⟩ ⟨h1, _⟩
        dsimp only at *
        refine Ans.pos (by omega) ?_
        have e : wrap64 (x6 - 1) = x6 - 1 := w64 _ (by omega)
        rw [e]
        refine (ih _ _ s1 _ h1 (by omega) (by simp; omega) (by omega)).mono ?_
        rintro r ⟨a, b⟩
        exact ⟨at_le a (by push_cast; omega), b⟩
      · refine (J1 x5 s B hs (by omega) (by omega)).mono ?_
        rintro r ⟨a, b⟩
        exact ⟨at_le a (by omega), b⟩
  unfold spec_l20Rules.f
  simp only [Option.bind_some]
  refine Ans.bind (pick_a hl hs (by omega) 3) ?_
  rintro ⟨v1, s1⟩ ⟨h1, p1⟩
  dsimp only at *
  refine Ans.ite (fun _ => ?_) (fun _ => ?_)
  · refine Ans.bind (pick_a hl h1 (by omega) 4) ?_
    rintro ⟨v2, s2⟩ ⟨h2, p2⟩
    dsimp only at *
    refine (L0 3 [] v2 s2 _ h2 (by omega) (by simp) (by omega)).mono ?_
    rintro r ⟨a, b⟩
    exact ⟨at_le a (by omega), b⟩
  · refine (J1 [] s1 _ h1 (by omega) (by simp)).mono ?_
    rintro r ⟨a, b⟩
    exact ⟨at_le a (by omega), b⟩
/-- What FnRulMay and FnRulLess draw. -/
theorem DrawRulMay_a {l : List Int} (hl : Bys l) : Ans (fun k => spec_DrawRulMay.f k l) (fun r => r.1.length ≤ 6 ∧ Sm r.2.1 ∧ Sm r.2.2.1 ∧ Sm r.2.2.2.1 ∧ Sm r.2.2.2.2) := by
  have J : ∀ {l : List Int}, Bys l → ∀ (x6 : List S24) (s B : Int), At B s → B < 600000 → x6.length ≤ 6 → Ans (fun k => spec_DrawRulMay.j1 k x6 l s) (fun r => r.1.length ≤ 6 ∧ Sm r.2.1 ∧ Sm r.2.2.1 ∧ Sm r.2.2.2.1 ∧ Sm r.2.2.2.2) := by
    intro l hl x6 s B hs hB hm
    refine Ans.succ ?_
    unfold spec_DrawRulMay.j1
    refine Ans.bind (odd_a hl hs (by omega) 9) ?_
    rintro ⟨b, s1⟩ h1
    dsimp only at *
    refine Ans.ite (fun _ => ?_) (fun _ => ?_)
    · refine Ans.bind (end_a hl h1 (by omega) 3) ?_
      rintro ⟨a1, a2, s2⟩ ⟨h2, m1, m2⟩
      dsimp only at *
      refine Ans.bind (end_a hl h2 (by omega) 3) ?_
      rintro ⟨b1, b2, s3⟩ ⟨h3, m3, m4⟩
      exact Ans.pure ⟨hm, m1, m2, m3, m4⟩
    · refine Ans.bind (in_a hl h1 (by omega)) ?_
      rintro ⟨a1, a2, s2⟩ ⟨h2, m1, m2⟩
      dsimp only at *
      refine Ans.bind (out_a hl h2 (by omega)) ?_
      rintro ⟨b1, b2, s3⟩ ⟨h3, m3, m4⟩
      exact Ans.pure ⟨hm, m1, m2, m3, m4⟩
  have L : ∀ {l : List Int}, Bys l → ∀ (m : Nat) (x6 : List S24) (x7 s B : Int), At B s → B + 10 * (m : Int) < 550000 → x6.length ≤ 6 → x7 ≤ m → m ≤ 10 → Ans (fun k => spec_DrawRulMay.l0 k x6 x7 l s) (fun r => r.1.length ≤ 6 ∧ Sm r.2.1 ∧ Sm r.2.2.1 ∧ Sm r.2.2.2.1 ∧ Sm r.2.2.2.2) := by
    intro l hl m
    induction m with
    | zero =>
      intro x6 x7 s B hs hB hm hx _
      refine Ans.succ ?_
      unfold spec_DrawRulMay.l0
      exact Ans.neg (by omega) (J hl x6 s B hs (by omega) hm)
    | succ m ih =>
      intro x6 x7 s B hs hB hm hx hq
      refine Ans.succ ?_
      unfold spec_DrawRulMay.l0
      refine Ans.ite (fun c => ?_) (fun c => J hl x6 s B hs (by omega) hm)
      refine Ans.ite (fun c => ?_) (fun c => J hl x6 s B hs (by omega) hm)
      refine Ans.bind (rule_a hl hs (by omega) 99999) ?_
      rintro ⟨y0, y1, y2, y3, y4, y5, y6, s1⟩ ⟨h1, _⟩
      dsimp only at *
      refine Ans.pos (by omega) ?_
      have e : wrap64 (x7 - 1) = x7 - 1 := w64 _ (by omega)
      rw [e]
      exact ih _ _ s1 _ h1 (by omega) (by simp; omega) (by omega) (by omega)
  unfold spec_DrawRulMay.f
  obtain ⟨l', h, hl'⟩ := open_f l hl
  rw [h]
  simp only [Option.bind_some]
  refine Ans.bind (rules_a hl' (B := 0) ⟨by omega, by omega⟩ (by omega) 9) ?_
  rintro ⟨x6, s1⟩ ⟨h1, hm⟩
  dsimp only at *
  refine Ans.bind (pick_a hl' h1 (by omega) 3) ?_
  rintro ⟨v2, s2⟩ ⟨h2, p2⟩
  dsimp only at *
  exact L hl' 3 x6 v2 s2 _ h2 (by omega) hm (by omega) (by omega)
end Go.Proofs.Ytiocgkggegahhaa.P

/- Rules in plain words: what the program's RulMay and the spec's RulMay answer is one thing. -/
namespace Go.Proofs.Ytiocgkggegahhaa.P
open Go.RowKit Go.Proofs.YtiocgkggegahhaaW.PrintWords Go.Proofs.YtiocgkggegahhaaW.PrintLast Go.Proofs.YtiocgkggegahhaaW.PrintMore
set_option linter.unusedVariables false
set_option linter.unusedSimpArgs false
theorem bys_of {l : List Int} (hw : ∀ x ∈ l, (Lit.int .u8 x).wf = true) : Bys l := fun x hx => by
  have := hw x hx
  simp [Lit.wf, IntKind.min, IntKind.max, IntKind.signed, IntKind.bits] at this
  omega
theorem l1In_f (n lo hi : Int) : spec_l1In.f n lo hi = some (inB n lo hi) := by
  unfold spec_l1In.f inB
  by_cases h : lo ≤ n <;> simp [h]
theorem ruleOk_iff (x : S24) : ruleOk x = true ↔ (1 ≤ x.f1 ∧ x.f1 ≤ x.f2 ∧ x.f2 ≤ 9 ∧ 100 ≤ x.f3 ∧ x.f3 ≤ x.f4 ∧ x.f4 ≤ 109 ∧ 1 ≤ x.f5 ∧ x.f5 ≤ x.f6 ∧ x.f6 ≤ 999) := by
  simp only [ruleOk, inB, Bool.and_eq_true, decide_eq_true_eq]
  omega
theorem specRulOk_f (x : S24) : spec_RulOk.f x.f0 x.f1 x.f2 x.f3 x.f4 x.f5 x.f6 = some (ruleOk x) := by
  unfold spec_RulOk.f
  simp only [l1In_f, Option.bind_some]
  have e : ruleOk x = (inB x.f1 1 x.f2 && decide (x.f2 ≤ 9) && inB x.f3 100 x.f4 && decide (x.f4 ≤ 109) && inB x.f5 1 x.f6 && decide (x.f6 ≤ 999)) := by
    rw [Bool.eq_iff_iff, ruleOk_iff]
    simp only [inB, Bool.and_eq_true, decide_eq_true_eq]
    omega
  rw [e]
  cases inB x.f1 1 x.f2 <;> cases inB x.f3 100 x.f4 <;> cases inB x.f5 1 x.f6 <;> by_cases h1 : x.f2 ≤ 9 <;> by_cases h2 : x.f4 ≤ 109 <;> simp [h1, h2]
theorem haOk_f : laws_haOk.f = some true := by
  unfold laws_haOk.f impl_LinOk.f
  rfl
def rulesB (l : List S24) : Bool := decide ((l.length : Int) ≤ 5) && l.all ruleOk
/-- The answer of both. -/
def mayB (l : List S24) (a p b q : Int) : Bool := rulesB l && (endIn a p && (endOut b q && mayL l a b q))
theorem RulMay_f (l : List S24) (a p b q : Int) : impl_RulMay.f l a p b q = some (mayB l a p b q) := by
  unfold impl_RulMay.f impl_rulesOk.f impl_may.f mayB rulesB
  simp only [Option.bind_some]
  cases h : (decide ((l.length : Int) ≤ 5) && l.all ruleOk) <;> simp
theorem rd24_get {l : List S24} {i : Nat} (h : i < l.length) : rd_T24 l (i : Int) = l[i] := by
  unfold rd_T24
  simp [List.getD, h]
theorem drop24 {l : List S24} {i : Nat} (h : i < l.length) : l.drop i = rd_T24 l (i : Int) :: l.drop (i + 1) := by
  rw [rd24_get h]
  exact List.drop_eq_getElem_cons h
theorem wi (i : Nat) (h : i ≤ 100000) : wrap64 ((i : Int) + 1) = ((i + 1 : Nat) : Int) := by rw [w64 _ (by omega)]; push_cast; rfl
theorem l6Rules_a (l : List S24) : Ans (fun k => spec_l6Rules.f k l) (fun r => r = rulesB l) := by
  unfold spec_l6Rules.f rulesB
  refine Ans.ite (fun c => Ans.pure ?_) (fun c => ?_)
  · have : ¬ ((l.length : Int) ≤ 5) := by omega
    simp [this]
  · have L : ∀ (m i : Nat), i + m = l.length → Ans (fun k => spec_l6Rules.l0 k l (i : Int)) (fun r => r = (l.drop i).all ruleOk) := by
      intro m
      induction m with
      | zero =>
        intro i hi
        refine Ans.succ ?_
        unfold spec_l6Rules.l0
        refine Ans.neg (by omega) (Ans.pure ?_)
        rw [List.drop_eq_nil_of_le (by omega)]
        rfl
      | succ m ih =>
        intro i hi
        refine Ans.succ ?_
        unfold spec_l6Rules.l0
        refine Ans.pos (by omega) (Ans.pos (by omega) ?_)
        simp only [specRulOk_f, Option.bind_some]
        rw [drop24 (by omega : i < l.length), List.all_cons, wi i (by omega)]
        refine Ans.ite (fun h => ?_) (fun h => Ans.pure ?_)
        · rw [h]
          exact ih (i + 1) (by omega)
        · simp [h]
    have e : ((l.length : Int) ≤ 5) := by omega
    refine (L l.length 0 (by omega)).mono ?_
    rintro r rfl
    simp [e]
theorem fits_f (x : S24) (a p b q : Int) : spec_l6Fits.f x.f0 x.f1 x.f2 x.f3 x.f4 x.f5 x.f6 a p b q = some (fits x a b q) := by
  unfold spec_l6Fits.f fits
  simp only [l1In_f, Option.bind_some]
  cases inB a x.f1 x.f2 <;> cases inB b x.f3 x.f4 <;> simp
theorem l6May_a (l : List S24) (hl : l.length ≤ 6) (a p b q : Int) : Ans (fun k => spec_l6May.f k l a p b q) (fun r => r = mayL l a b q) := by
  unfold spec_l6May.f
  have L : ∀ (m i : Nat), i + m = l.length → Ans (fun k => spec_l6May.l0 k l (i : Int) a p b q) (fun r => r = mayL (l.drop i) a b q) := by
    intro m
    induction m with
    | zero =>
      intro i hi
      refine Ans.succ ?_
      unfold spec_l6May.l0
      refine Ans.neg (by omega) (Ans.pure ?_)
      rw [List.drop_eq_nil_of_le (by omega)]
      rfl
    | succ m ih =>
      intro i hi
      refine Ans.succ ?_
      unfold spec_l6May.l0
      refine Ans.pos (by omega) (Ans.pos (by omega) ?_)
      simp only [fits_f, Option.bind_some]
      rw [drop24 (by omega : i < l.length), wi i (by omega)]
      unfold mayL
      refine Ans.ite (fun h => Ans.pure ?_) (fun h => ?_)
      · rw [if_pos h]
      · rw [if_neg h]
        exact ih (i + 1) (by omega)
  exact L l.length 0 (by omega)
theorem specEndInside_f (a p : Int) : spec_EndInside.f a p = some (endIn a p) := by
  unfold spec_EndInside.f endIn
  simp only [l1In_f, Option.bind_some]
  cases inB a 1 9 <;> simp
theorem specEndOutside_f (a p : Int) : spec_EndOutside.f a p = some (endOut a p) := by
  unfold spec_EndOutside.f endOut
  simp only [l1In_f, Option.bind_some]
  cases inB a 100 109 <;> simp
theorem specRulMay_a (l : List S24) (hl : l.length ≤ 6) (a p b q : Int) : Ans (fun k => spec_RulMay.f k l a p b q) (fun r => r = mayB l a p b q) := by
  unfold spec_RulMay.f mayB
  refine Ans.bind (l6Rules_a l) ?_
  rintro _ rfl
  simp only [specEndInside_f, specEndOutside_f, Option.bind_some]
  cases rulesB l
  · exact Ans.neg (by simp) (Ans.pure (by simp))
  refine Ans.pos rfl ?_
  cases endIn a p
  · exact Ans.neg (by simp) (Ans.pure (by simp))
  refine Ans.pos rfl ?_
  cases endOut b q
  · exact Ans.neg (by simp) (Ans.pure (by simp))
  refine Ans.pos rfl ?_
  refine Ans.bind (l6May_a l hl a p b q) ?_
  rintro _ rfl
  exact Ans.pure (by simp)
theorem mayL_skip {l1 l2 : List S24} {a b c : Int} (h : ∀ x ∈ l1, fits x a b c = false) : mayL (l1 ++ l2) a b c = mayL l2 a b c := by
  induction l1 with
  | nil => rfl
  | cons x r ih =>
    show mayL (x :: (r ++ l2)) a b c = _
    unfold mayL
    rw [h x (List.mem_cons_self ..)]
    simp only [Bool.false_eq_true, if_false]
    rw [ih (fun y hy => h y (List.mem_cons_of_mem _ hy))]
    cases l2 <;> rfl
theorem mayL_cons (x : S24) (r : List S24) (a b c : Int) : mayL (x :: r) a b c = if fits x a b c then x.f0 else mayL r a b c := rfl
/-- A last rule that lets through says what no rule says. -/
theorem mayL_last (l : List S24) (x : S24) (hx : x.f0 = true) (a b c : Int) : mayL (l ++ [x]) a b c = mayL l a b c := by
  induction l with
  | nil => show mayL [x] a b c = true; rw [mayL_cons, hx]; cases fits x a b c <;> rfl
  | cons y r ih => show mayL (y :: (r ++ [x])) a b c = _; rw [mayL_cons, mayL_cons, ih]
/-- A rule that does not fit may go. -/
theorem mayL_drop (l1 l2 : List S24) (x : S24) (a b c : Int) (h : fits x a b c = false) : mayL (l1 ++ x :: l2) a b c = mayL (l1 ++ l2) a b c := by
  induction l1 with
  | nil => show mayL (x :: l2) a b c = _; rw [mayL_cons, h]; rfl
  | cons y r ih => show mayL (y :: (r ++ x :: l2)) a b c = mayL (y :: (r ++ l2)) a b c; rw [mayL_cons, mayL_cons, ih]
end Go.Proofs.Ytiocgkggegahhaa.P

/- The plain law of FnRulMay: what the printed law computes is true. -/
namespace Go.Proofs.Ytiocgkggegahhaa.P
open Go.RowKit Go.Proofs.YtiocgkggegahhaaW.PrintWords Go.Proofs.YtiocgkggegahhaaW.PrintLast Go.Proofs.YtiocgkggegahhaaW.PrintMore
set_option linter.unusedVariables false
set_option linter.unusedSimpArgs false
theorem end_rule {a p b q : Int} (h1 : endIn a p = true) (h2 : endOut b q = true) (f : Bool) : ruleOk ⟨f, a, a, b, b, q, q⟩ = true ∧ fits ⟨f, a, a, b, b, q, q⟩ a b q = true := by
  simp only [endIn, endOut, inB, Bool.and_eq_true, decide_eq_true_eq] at h1 h2
  refine ⟨?_, ?_⟩
  · rw [ruleOk_iff]; dsimp only; omega
  · simp [fits, inB]
theorem rulMay_j0 (l : List S24) (hl : l.length ≤ 6) (a p b q : Int) (e : Bool) (he : e = !(endIn a p && endOut b q)) : Ans (fun k => laws_FnRulMay.j0 k l (mayB l a p b q) e a p b q) (fun r => r = true) := by
  refine Ans.succ ?_
  unfold laws_FnRulMay.j0
  refine Ans.ite (fun h => ?_) (fun h => ?_)
  · have z : mayB l a p b q = false := by
      rw [h] at he
      unfold mayB
      cases h1 : endIn a p <;> cases h2 : endOut b q <;> simp [h1, h2] at he ⊢
    rw [z, haOk_f]
    exact Ans.neg (by simp) (Ans.pure rfl)
  · have h1 : endIn a p = true := by cases z : endIn a p <;> simp [z] at he; exact absurd he h; rfl
    have h2 : endOut b q = true := by cases z : endOut b q <;> simp [z] at he; exact absurd he h; rfl
    simp only [RulMay_f, Option.bind_some]
    have z : mayB [] a p b q = true := by simp [mayB, rulesB, h1, h2, mayL]
    refine Ans.pos z ?_
    refine Ans.ite (fun _ => Ans.pure rfl) (fun h5 => ?_)
    have hm : ∀ (x : S24) (r : List S24), r.length ≤ 4 → r.all ruleOk = true → ruleOk x = true → mayB (x :: r) a p b q = mayL (x :: r) a b q ∧ mayB (r ++ [x]) a p b q = mayL (r ++ [x]) a b q ∧ mayB r a p b q = mayL r a b q := by
      intro x r hr ha hx
      have c1 : decide (((x :: r).length : Int) ≤ 5) = true := by simp; omega
      have c2 : decide (((r ++ [x]).length : Int) ≤ 5) = true := by simp; omega
      have c3 : decide ((r.length : Int) ≤ 5) = true := by simp; omega
      unfold mayB rulesB
      rw [c1, c2, c3, h1, h2]
      simp [ha, hx]
    have L : ∀ (m i : Nat), i + m = l.length → (∀ x ∈ l.take i, ruleOk x = true) → Ans (fun k => laws_FnRulMay.l0 k l (mayB l a p b q) (i : Int) a p b q false a a b b q q) (fun r => r = true) := by
      intro m
      induction m with
      | zero =>
        intro i hi ha
        refine Ans.succ ?_
        unfold laws_FnRulMay.l0
        refine Ans.neg (by omega) ?_
        have hall : l.all ruleOk = true := by
          rw [List.take_of_length_le (by omega)] at ha
          rw [List.all_eq_true]; exact ha
        obtain ⟨g1, g2⟩ := end_rule h1 h2 false
        obtain ⟨g3, g4⟩ := end_rule h1 h2 true
        have k1 := hm _ l (by omega) hall g1
        have k2 := hm _ l (by omega) hall g3
        have e1 : mayB (⟨false, a, a, b, b, q, q⟩ :: l) a p b q = false := by rw [k1.1, mayL_cons, g2]; rfl
        have e2 : mayB (⟨true, a, a, b, b, q, q⟩ :: l) a p b q = true := by rw [k2.1, mayL_cons, g4]; rfl
        have e3 : mayB (l ++ [⟨true, a, a, b, b, q, q⟩]) a p b q = mayB l a p b q := by rw [k2.2.1, mayL_last _ _ rfl, k2.2.2]
        simp only [Option.bind_some, RulMay_f]
        refine Ans.pos (by simp; omega) (Ans.neg ?_ (Ans.pos (by simp; omega) (Ans.pos ?_ (Ans.pos (by simp; omega) (Ans.pos (by simp; omega) (Ans.pure ?_))))))
        · show ¬ (mayB (⟨false, a, a, b, b, q, q⟩ :: l) a p b q = true)
          rw [e1]; simp
        · exact e2
        · show (mayB (l ++ [⟨true, a, a, b, b, q, q⟩]) a p b q == mayB l a p b q) = true
          rw [e3]; simp
      | succ m ih =>
        intro i hi ha
        refine Ans.succ ?_
        unfold laws_FnRulMay.l0
        refine Ans.pos (by omega) (Ans.pos (by omega) ?_)
        simp only [specRulOk_f, Option.bind_some]
        rw [wi i (by omega)]
        refine Ans.ite (fun h => ?_) (fun h => Ans.pure ?_)
        · refine ih (i + 1) (by omega) ?_
          intro x hx
          rw [List.take_succ_eq_append_getElem (by omega : i < l.length), ← rd24_get (by omega : i < l.length)] at hx
          rcases List.mem_append.mp hx with hx | hx
          · exact ha x hx
          · obtain rfl := List.mem_singleton.mp hx
            exact h
        · have hn : l.all ruleOk = false := by
            rw [Bool.eq_false_iff]
            intro hall
            rw [List.all_eq_true] at hall
            rw [rd24_get (by omega : i < l.length)] at h
            exact h (hall _ (List.getElem_mem _))
          simp [mayB, rulesB, hn]
    exact L l.length 0 (by omega) (fun x hx => by simp at hx)
theorem laws_FnRulMay.pure : laws_FnRulMay.Pure := by
  intro l hm _ hw
  have A : Ans (fun k => laws_FnRulMay.f k l) (fun r => r = true) := by
    unfold laws_FnRulMay.f
    refine Ans.ite (fun _ => Ans.pure rfl) (fun _ => ?_)
    refine Ans.bind (DrawRulMay_a (bys_of hw)) ?_
    rintro ⟨x, a, p, b, q⟩ ⟨hl, _⟩
    dsimp only at *
    simp only [RulMay_f, Option.bind_some]
    refine Ans.bind (specRulMay_a x hl a p b q) ?_
    rintro _ rfl
    refine Ans.neg (by simp) ?_
    simp only [specEndInside_f, specEndOutside_f, Option.bind_some]
    refine Ans.ite (fun h => ?_) (fun h => ?_)
    · exact rulMay_j0 x hl a p b q _ (by rw [h]; simp)
    · exact rulMay_j0 x hl a p b q _ (by simp [h])
  obtain ⟨k, v, rfl, h⟩ := A.got
  exact ⟨k, h⟩
end Go.Proofs.Ytiocgkggegahhaa.P

namespace Go.Proofs.Ytiocgkggegahhaa.Pure
theorem FnRulMay : P.laws_FnRulMay.Pure := P.laws_FnRulMay.pure
end Go.Proofs.Ytiocgkggegahhaa.Pure
