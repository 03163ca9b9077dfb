import Derived.Test.YtiocgkggegahhaaGLawFnExactRulMayx2
import Derived.RangeFuncNested
import Derived.RangeFuncBound
import Derived.RangeFuncCalls
import Derived.RangeFuncLeaves
import Derived.Shelf.Abstract
import Derived.OwnWalkIn
import Derived.TacticsInMore
import Derived.LoopNIn
import Derived.LoopIn
import Derived.Lib.Hide
import Derived.Laws.EntriesVeiled
-- written by hw.py for this claim
namespace Go.Proofs.Ytiocgkggegahhaa.P
open Go.RowKit Go.Proofs.YtiocgkggegahhaaUFnExactRulMay.PrintWords Go.Proofs.YtiocgkggegahhaaUFnExactRulMay.PrintLast Go.Proofs.YtiocgkggegahhaaUFnExactRulMay.PrintMore
attribute [local go_sem] max2_int min2_int max_two min_two max_three min_three max_four min_four
set_option linter.unusedVariables false
set_option linter.unusedSimpArgs false

/-! ### spec_DrawRulOk: function 11 -/
def spec_DrawRulOk.f (k : Nat) (l0 : List Int) : Option (Bool × Int × Int × Int × Int × Int × Int) := (spec_l20Open.f l0).bind fun bt156 => ((spec_l20Rule.f k bt156.1 bt156.2 2).bind fun bt159 => (some (bt159.1, bt159.2.1, bt159.2.2.1, bt159.2.2.2.1, bt159.2.2.2.2.1, bt159.2.2.2.2.2.1, bt159.2.2.2.2.2.2.1)))
theorem spec_DrawRulOk.mono : ∀ a0 k, LeO (spec_DrawRulOk.f k a0) (spec_DrawRulOk.f (k + 1) a0) := by
  intro a0 k
  unfold spec_DrawRulOk.f
  repeat' first
      | (with_reducible exact spec_l20Rule.mono _ _ _ _)
      | (with_reducible exact LeO.refl _)
      | (with_reducible exact LeO.none _)
      | (with_reducible refine LeO.ite ?_ ?_)
      | (with_reducible refine LeO.bind ?_ (fun _ => ?_))
      | exact spec_l20Rule.mono _ _ _ _
      | exact LeO.none _
      | refine LeO.ite ?_ ?_
      | refine LeO.bind ?_ (fun _ => ?_)
set_option maxHeartbeats 8000000 in
set_option maxRecDepth 100000 in
theorem spec_DrawRulOk.calls (k : Nat) (A0 : Option Addr) (c0 : Nat) (l0 : List Int) (r1 : Bool) (r2 : Int) (r3 : Int) (r4 : Int) (r5 : Int) (r6 : Int) (r7 : Int) (w : World) (hr0 : Kd.C (Kd.int .u8) w A0 l0.length l0) (hc0 : l0.length ≤ c0) (h : spec_DrawRulOk.f k l0 = some (r1, r2, r3, r4, r5, r6, r7)) :
    Calls Try.prog 11 #[.slice A0 l0.length c0] w fun e w' => e = .returned (.agg #[.bool r1, .int .i64 r2, .int .i64 r3, .int .i64 r4, .int .i64 r5, .int .i64 r6, .int .i64 r7]) ∧ Below w.heap.size w w' := by
  have hu24 := Try.underlying24
  have HR0 := Aside0.mk hr0
  have HC0 := Aside0.mk hc0
  clear hr0 hc0
  have HB := Aside0.mk (Below.refl w.heap.size w)
  have H : ((spec_l20Open.f l0).bind fun bt156 => ((spec_l20Rule.f k bt156.1 bt156.2 2).bind fun bt159 => (some (bt159.1, bt159.2.1, bt159.2.2.1, bt159.2.2.2.1, bt159.2.2.2.2.1, bt159.2.2.2.2.2.1, bt159.2.2.2.2.2.2.1)))) = some (r1, r2, r3, r4, r5, r6, r7) := h
  clear h
  replace H := Option.bind_eq_some_iff.mp H
  obtain ⟨⟨t156, t157⟩, A20, H⟩ := H
  replace H : ((spec_l20Rule.f k t156 t157 2).bind fun bt159 => (some (bt159.1, bt159.2.1, bt159.2.2.1, bt159.2.2.2.1, bt159.2.2.2.2.1, bt159.2.2.2.2.2.1, bt159.2.2.2.2.2.2.1))) = some (r1, r2, r3, r4, r5, r6, r7) := H
  have A2 := Aside0.mk A20
  clear A20
  replace H := Option.bind_eq_some_iff.mp H
  obtain ⟨⟨t159, t160, t161, t162, t163, t164, t165, t166⟩, A30, H⟩ := H
  replace H : (some (t159, t160, t161, t162, t163, t164, t165)) = some (r1, r2, r3, r4, r5, r6, r7) := H
  have A3 := Aside0.mk A30
  clear A30
  simp only [Option.some.injEq, Prod.mk.injEq] at H
  obtain ⟨rfl, rfl, rfl, rfl, rfl, rfl, rfl⟩ := H
  go_enter Try.func11, Try.ntmps11
  go_wp2_with (first | ((with_reducible refine gate_dst (N := 2) rfl ?_); refine box_event ?hg (N := 2) ?hd (cs := #[.bool false, .int .i64 0, .int .i64 0, .int .i64 0, .int .i64 0, .int .i64 0, .int .i64 0]) (t := 24) ?hr ?_; (case hd => rfl); (case hg => rfl); (case hr => first | (go_simp; done) | (go_simp; rfl)); intro gb155 hg w4 hbox hb; have n0_ := Aside0.mk (below_step (bl HB) hb); have n1_ := Aside0.mk (hbox); have n2_ := Aside0.mk ((by rw [hg]; exact (below_size (bl HB)) : w.heap.size ≤ gb155)); have n3_ := Aside0.mk ((by rw [hg]; exact (below_size (bl HB)) : w.heap.size ≤ gb155)); clear HB; have HB := n0_; have BK155 := n1_; have GW155 := n2_; have GE155 := n3_; clear n0_ n1_ n2_ n3_; clear hb hbox hg) | ((with_reducible refine gate_callee (f := 45) rfl ?_); refine goesL_ (some 4) rfl rfl Try.func45 (by kernel_rfl) rfl #[.slice A0 l0.length c0] rfl (by (try simp only [List.map_toArray, List.map_cons, List.map_nil]); first | done | rfl | (simp only [List.length_drop, List.length_take]; rfl)) ?_; (with_reducible refine (spec_l20Open.calls _ _ l0 t156 t157 w _ ?side1 ?side2 ?side3 A2.out).mono ?_); (case side1 => repeat (first | (with_reducible first | exact HB.out | apply below_alloc | apply pw_below_drewN | apply below_drew1 | refine below_set ?_ GE155.out) | exact HB.out)); (case side2 => exact HR0.out); (case side3 => exact HC0.out); rintro e w5 ⟨g158, rfl, hi, hb, hb2⟩; refine ⟨_, rfl, ?_⟩; have n0_ := Aside0.mk (blk_below (g := gb155) (o := .cells #[.bool false, .int .i64 0, .int .i64 0, .int .i64 0, .int .i64 0, .int .i64 0, .int .i64 0] 24 (0, 0)) (bk BK155) hb2); have n1_ := Aside0.mk (hb); have n2_ := Aside0.mk (hi); have n3_ := Aside0.mk (IsS102.ne_blk hi (blk_below (g := gb155) (o := .cells #[.bool false, .int .i64 0, .int .i64 0, .int .i64 0, .int .i64 0, .int .i64 0, .int .i64 0] 24 (0, 0)) (bk BK155) hb2) (by decide)); have n4_ := Aside0.mk (Ne.symm (IsS102.ne_blk hi (blk_below (g := gb155) (o := .cells #[.bool false, .int .i64 0, .int .i64 0, .int .i64 0, .int .i64 0, .int .i64 0, .int .i64 0] 24 (0, 0)) (bk BK155) hb2) (by decide))); clear BK155; clear HB; have BK155 := n0_; have HB := n1_; have HI158 := n2_; have NB158_155 := n3_; have NB155_158 := n4_; clear n0_ n1_ n2_ n3_ n4_; (try clear hb); (try clear hb2); (try clear hk); (try clear hi)) | ((with_reducible refine gate_callee (f := 44) rfl ?_); refine goesL_ (some 5) rfl rfl Try.func44 (by kernel_rfl) rfl #[.pointer (some ⟨g158, 0, none⟩), .int .i64 2] rfl (by (try simp only [List.map_toArray, List.map_cons, List.map_nil]); first | done | rfl | (simp only [List.length_drop, List.length_take]; rfl)) ?_; (with_reducible refine (spec_l20Rule.calls k g158 t156 t157 2 t159 t160 t161 t162 t163 t164 t165 t166 w _ ?side1 ?side2 A3.out).mono ?_); (case side1 => repeat (first | (with_reducible first | exact HI158.out | apply IsS102.alloc | apply IsS102.drewN | apply IsS102.drew | apply IsS102.set_1 | refine IsS102.far ?_ NB158_155.out _) | exact HI158.out)); (case side2 => repeat (first | (with_reducible first | exact HB.out | apply below_alloc | apply pw_below_drewN | apply below_drew1 | refine below_set ?_ (IsS102.ge HI158.out) | refine below_set ?_ GE155.out) | exact HB.out)); rintro e w6 ⟨rfl, hi, hb, hk⟩; refine ⟨_, rfl, ?_⟩; have n0_ := Aside0.mk (KeepBut.blk hk (g' := gb155) (o := .cells #[.bool false, .int .i64 0, .int .i64 0, .int .i64 0, .int .i64 0, .int .i64 0, .int .i64 0] 24 (0, 0)) (bk BK155) NB155_158.out (by simp)); have n1_ := Aside0.mk (hb); have n2_ := Aside0.mk (hi); clear BK155; clear HB; clear HI158; have BK155 := n0_; have HB := n1_; have HI158 := n2_; clear n0_ n1_ n2_; (try clear hb); (try clear hb2); (try clear hk); (try clear hi); have hnb7 := NB155_158.out; have hnc7 := NB158_155.out; have hcz8_0 : w6.cell? ⟨gb155, 0, none⟩ = some (.bool false) := (blk_cell BK155.out 0).trans rfl; have hcz8_1 : w6.cell? ⟨gb155, 1, none⟩ = some (.int .i64 0) := (blk_cell BK155.out 1).trans rfl; have hcz8_2 : w6.cell? ⟨gb155, 2, none⟩ = some (.int .i64 0) := (blk_cell BK155.out 2).trans rfl; have hcz8_3 : w6.cell? ⟨gb155, 3, none⟩ = some (.int .i64 0) := (blk_cell BK155.out 3).trans rfl; have hcz8_4 : w6.cell? ⟨gb155, 4, none⟩ = some (.int .i64 0) := (blk_cell BK155.out 4).trans rfl; have hcz8_5 : w6.cell? ⟨gb155, 5, none⟩ = some (.int .i64 0) := (blk_cell BK155.out 5).trans rfl; have hcz8_6 : w6.cell? ⟨gb155, 6, none⟩ = some (.int .i64 0) := (blk_cell BK155.out 6).trans rfl; have hfz8_0 := blk_frozen BK155.out 0; have hfz8_1 := blk_frozen BK155.out 1; have hfz8_2 := blk_frozen BK155.out 2; have hfz8_3 := blk_frozen BK155.out 3; have hfz8_4 := blk_frozen BK155.out 4; have hfz8_5 := blk_frozen BK155.out 5; have hfz8_6 := blk_frozen BK155.out 6))
  refine bodyPost_ret (results_cell_row rfl _ _ gb155 24 #[.bool t159, .int .i64 t160, .int .i64 t161, .int .i64 t162, .int .i64 t163, .int .i64 t164, .int .i64 t165] (0, 0) _ rfl (by (with_reducible repeat refine bu ?_); refine blk_put (cs := #[.bool t159, .int .i64 t160, .int .i64 t161, .int .i64 t162, .int .i64 t163, .int .i64 t164, .int .i64 0]) ?_ 6 _ rfl; (with_reducible repeat refine bu ?_); refine blk_put (cs := #[.bool t159, .int .i64 t160, .int .i64 t161, .int .i64 t162, .int .i64 t163, .int .i64 0, .int .i64 0]) ?_ 5 _ rfl; (with_reducible repeat refine bu ?_); refine blk_put (cs := #[.bool t159, .int .i64 t160, .int .i64 t161, .int .i64 t162, .int .i64 0, .int .i64 0, .int .i64 0]) ?_ 4 _ rfl; (with_reducible repeat refine bu ?_); refine blk_put (cs := #[.bool t159, .int .i64 t160, .int .i64 t161, .int .i64 0, .int .i64 0, .int .i64 0, .int .i64 0]) ?_ 3 _ rfl; (with_reducible repeat refine bu ?_); refine blk_put (cs := #[.bool t159, .int .i64 t160, .int .i64 0, .int .i64 0, .int .i64 0, .int .i64 0, .int .i64 0]) ?_ 2 _ rfl; (with_reducible repeat refine bu ?_); refine blk_put (cs := #[.bool t159, .int .i64 0, .int .i64 0, .int .i64 0, .int .i64 0, .int .i64 0, .int .i64 0]) ?_ 1 _ rfl; (with_reducible repeat refine bu ?_); refine blk_put (cs := #[.bool false, .int .i64 0, .int .i64 0, .int .i64 0, .int .i64 0, .int .i64 0, .int .i64 0]) ?_ 0 _ rfl; (with_reducible repeat refine bu ?_); exact BK155.out) Try.underlying24 rfl (by kernel_rfl)) rfl ?_
  exact ⟨by first | rfl | (simp [errW_none, errW_some] <;> rfl) | (simp [*, errW_none, errW_some] <;> rfl), by repeat (first | (with_reducible first | exact HB.out | apply below_alloc | apply pw_below_drewN | apply below_drew1 | refine below_set ?_ (IsS102.ge HI158.out) | refine below_set ?_ GE155.out) | exact HB.out)⟩

end Go.Proofs.Ytiocgkggegahhaa.P

/- What the reader of drawn bytes answers: one drawn rule. -/
namespace Go.Proofs.Ytiocgkggegahhaa.P
open Go.RowKit Go.Proofs.YtiocgkggegahhaaUFnExactRulMay.PrintWords Go.Proofs.YtiocgkggegahhaaUFnExactRulMay.PrintLast Go.Proofs.YtiocgkggegahhaaUFnExactRulMay.PrintMore
set_option linter.unusedVariables false
set_option linter.unusedSimpArgs false
/-- One drawn rule: it answers, and all numbers are small. -/
theorem rule_f {l : List Int} (hl : Bys l) (s n : Int) (k : Nat) (hs : 0 ≤ s) (hs' : s < 900000) :
    ∃ b x1 x2 x3 x4 x5 x6 s', spec_l20Rule.f (k + 2) l s n = some (b, x1, x2, x3, x4, x5, x6, s') ∧ s ≤ s' ∧ s' ≤ s + 10 ∧ Sm x1 ∧ Sm x2 ∧ Sm x3 ∧ Sm x4 ∧ Sm x5 ∧ Sm x6 := by
  unfold spec_l20Rule.f
  obtain ⟨v0, h0, p0⟩ := pick_f hl s 2 (k + 1) hs (by omega)
  rw [h0, Option.bind_some]
  obtain ⟨v1, h1, p1⟩ := pick_f hl (s + 1) 4 (k + 1) (by omega) (by omega)
  dsimp only
  rw [h1, Option.bind_some]
  obtain ⟨v2, h2, p2⟩ := pick_f hl (s + 1 + 1) 4 (k + 1) (by omega) (by omega)
  dsimp only
  rw [h2, Option.bind_some, Option.bind_some]
  obtain ⟨v3, h3, p3⟩ := pick_f hl (s + 1 + 1 + 1) 3 (k + 1) (by omega) (by omega)
  dsimp only
  rw [h3, Option.bind_some]
  dsimp only
  rw [if_pos p3.1, if_pos (show v3 < (([1, 21, 7] : List Int).length : Int) by simp; omega)]
  obtain ⟨v4, h4, p4⟩ := pick_f hl (s + 1 + 1 + 1 + 1) 3 (k + 1) (by omega) (by omega)
  rw [h4, Option.bind_some]
  obtain ⟨v5, h5, p5⟩ := pick_f hl (s + 1 + 1 + 1 + 1 + 1) 3 (k + 1) (by omega) (by omega)
  dsimp only
  rw [h5, Option.bind_some, Option.bind_some]
  obtain ⟨v6, h6, p6⟩ := pick_f hl (s + 1 + 1 + 1 + 1 + 1 + 1) 3 (k + 1) (by omega) (by omega)
  dsimp only
  rw [h6, Option.bind_some]
  dsimp only
  have q3 := rd_three 1 21 7 v3 p3
  generalize rd ([1, 21, 7] : List Int) v3 = lo at *
  rw [if_pos p6.1, if_pos (show v6 < (([999, 21, lo] : List Int).length : Int) by simp; omega)]
  have q6 := rd_three 999 21 lo v6 p6
  generalize rd ([999, 21, lo] : List Int) v6 = hi at *
  have w1 : wrap64 (1 + v1) = 1 + v1 := w64 _ (by omega)
  have w2 : wrap64 (100 + v2) = 100 + v2 := w64 _ (by omega)
  have w3 : wrap64 (1 + v1 + v4) = 1 + v1 + v4 := w64 _ (by omega)
  have w4 : wrap64 (100 + v2 + v5) = 100 + v2 + v5 := w64 _ (by omega)
  rw [w1, w2, w3, w4]
  have J : ∀ (t : Int) (b : Bool) (x1 x2 x3 x4 x5 x6 : Int), s ≤ t → t ≤ s + 7 → Sm x1 → Sm x2 → Sm x3 → Sm x4 → Sm x5 → Sm x6 →
      ∃ b' x1' x2' x3' x4' x5' x6' s', spec_l20Rule.j0 (k + 2) n l t b x1 x2 x3 x4 x5 x6 = some (b', x1', x2', x3', x4', x5', x6', s') ∧ s ≤ s' ∧ s' ≤ s + 10 ∧ Sm x1' ∧ Sm x2' ∧ Sm x3' ∧ Sm x4' ∧ Sm x5' ∧ Sm x6' := by
    intro t b x1 x2 x3 x4 x5 x6 ht ht' m1 m2 m3 m4 m5 m6
    unfold spec_l20Rule.j0
    obtain ⟨o, t1, g0, u0, u0'⟩ := odd_f hl t n k (by omega) (by omega)
    dsimp only
    rw [g0, Option.bind_some]
    dsimp only
    by_cases c : o = true
    · rw [if_pos c]
      obtain ⟨a1, g1, z1⟩ := pick_f hl t1 4 k (by omega) (by omega)
      rw [g1, Option.bind_some]
      dsimp only
      by_cases c1 : a1 = 0
      · rw [if_pos c1, Option.bind_some]
        obtain ⟨a2, g2, z2⟩ := pick_f hl (t1 + 1) 3 k (by omega) (by omega)
        rw [g2, Option.bind_some]
        dsimp only
        rw [if_pos z2.1, if_pos (show a2 < (([0, 9, -1] : List Int).length : Int) by simp; omega)]
        have := rd_three 0 9 (-1) a2 z2
        refine ⟨_, _, _, _, _, _, _, _, rfl, by omega, by omega, ?_, m2, m3, m4, m5, m6⟩
        unfold Sm; omega
      · rw [if_neg c1]
        by_cases c2 : a1 = 1
        · rw [if_pos c2, Option.bind_some]
          obtain ⟨a2, g2, z2⟩ := pick_f hl (t1 + 1) 2 k (by omega) (by omega)
          rw [g2, Option.bind_some]
          dsimp only
          rw [if_pos z2.1, if_pos (show a2 < (([110, 99] : List Int).length : Int) by simp; omega)]
          have := rd_two 110 99 a2 z2
          refine ⟨_, _, _, _, _, _, _, _, rfl, by omega, by omega, m1, m2, m3, ?_, m5, m6⟩
          unfold Sm; omega
        · rw [if_neg c2]
          by_cases c3 : a1 = 2
          · rw [if_pos c3, Option.bind_some]
            obtain ⟨a2, g2, z2⟩ := pick_f hl (t1 + 1) 2 k (by omega) (by omega)
            rw [g2, Option.bind_some]
            dsimp only
            rw [if_pos z2.1, if_pos (show a2 < (([0, 1000] : List Int).length : Int) by simp; omega)]
            have := rd_two 0 1000 a2 z2
            refine ⟨_, _, _, _, _, _, _, _, rfl, by omega, by omega, m1, m2, m3, m4, m5, ?_⟩
            unfold Sm; omega
          · rw [if_neg c3]
            exact ⟨_, _, _, _, _, _, _, _, rfl, by omega, by omega, m1, by unfold Sm; omega, m3, m4, m5, m6⟩
    · rw [if_neg c]
      exact ⟨_, _, _, _, _, _, _, _, rfl, by omega, by omega, m1, m2, m3, m4, m5, m6⟩
  have n1 : Sm (1 + v1) := by unfold Sm; omega
  have n2 : Sm (1 + v1 + v4) := by unfold Sm; omega
  have n3 : Sm (100 + v2) := by unfold Sm; omega
  have n4 : Sm (100 + v2 + v5) := by unfold Sm; omega
  have n5 : Sm lo := by unfold Sm; omega
  have n6 : Sm hi := by unfold Sm; omega
  by_cases c : hi < lo
  · rw [if_pos c]
    exact J _ _ _ _ _ _ _ _ (by omega) (by omega) n1 n2 n3 n4 n5 n5
  · rw [if_neg c]
    exact J _ _ _ _ _ _ _ _ (by omega) (by omega) n1 n2 n3 n4 n5 n6
end Go.Proofs.Ytiocgkggegahhaa.P

/- One drawn rule, from some round on. -/
namespace Go.Proofs.Ytiocgkggegahhaa.P
open Go.RowKit Go.Proofs.YtiocgkggegahhaaUFnExactRulMay.PrintWords Go.Proofs.YtiocgkggegahhaaUFnExactRulMay.PrintLast Go.Proofs.YtiocgkggegahhaaUFnExactRulMay.PrintMore
set_option linter.unusedVariables false
set_option linter.unusedSimpArgs false
theorem rule_a {l : List Int} (hl : Bys l) {s B : Int} (hs : At B s) (hB : B < 800000) (n : Int) : Ans (fun k => spec_l20Rule.f k l s n) (fun r => At (B + 10) r.2.2.2.2.2.2.2 ∧ Sm r.2.1 ∧ Sm r.2.2.1 ∧ Sm r.2.2.2.1 ∧ Sm r.2.2.2.2.1 ∧ Sm r.2.2.2.2.2.1 ∧ Sm r.2.2.2.2.2.2.1) := by
  obtain ⟨h0, h1⟩ := hs
  obtain ⟨b, x1, x2, x3, x4, x5, x6, s', h, a, a', m⟩ := rule_f hl s n 0 h0 (by omega)
  refine ⟨2, (b, x1, x2, x3, x4, x5, x6, s'), ⟨⟨by show 0 ≤ s'; omega, by show s' ≤ B + 10; omega⟩, m⟩, ?_⟩
  intro k hk
  obtain ⟨j, rfl⟩ := Nat.exists_eq_add_of_le hk
  clear hk
  induction j with
  | zero => exact h
  | succ j ih => exact spec_l20Rule.mono _ _ _ _ _ ih
end Go.Proofs.Ytiocgkggegahhaa.P

-- written by hw.py for this claim
namespace Go.Proofs.Ytiocgkggegahhaa.P
open Go.RowKit Go.Proofs.YtiocgkggegahhaaUFnExactRulMay.PrintWords Go.Proofs.YtiocgkggegahhaaUFnExactRulMay.PrintLast Go.Proofs.YtiocgkggegahhaaUFnExactRulMay.PrintMore
attribute [local go_sem] max2_int min2_int max_two min_two max_three min_three max_four min_four
set_option linter.unusedVariables false
set_option linter.unusedSimpArgs false

/-! ### spec_l20Rules: function 57 -/
mutual
def spec_l20Rules.j1 : Nat → Int → List (S24) → List Int → Int → Option ((List (S24)) × Int)
  | 0, _, _, _, _ => none
  | k + 1, x1, x5, x1000, x1001 => (spec_l20Rd_odd.f k x1000 x1001 x1).bind fun bt306 => (if bt306.1 = true then ((spec_l20Rd_pick.f k x1000 bt306.2 2).bind fun bt308 => (if bt308.1 = 0 then ((spec_l20Rule.f k x1000 bt308.2 1).bind fun bt310 => (if x5.length < 2513169434916 then (some ((x5 ++ [(⟨bt310.1, bt310.2.1, bt310.2.2.1, bt310.2.2.2.1, bt310.2.2.2.2.1, bt310.2.2.2.2.2.1, bt310.2.2.2.2.2.2.1⟩ : S24)]), bt310.2.2.2.2.2.2.2)) else (none))) else (spec_l20Rules.l1 k x5 x1000 bt308.2))) else (some (x5, bt306.2)))
def spec_l20Rules.l1 : Nat → List (S24) → List Int → Int → Option ((List (S24)) × Int)
  | 0, _, _, _ => none
  | k + 1, x5, x1000, x1001 => if (x5.length : Int) ≤ 5 then ((spec_l20Rule.f k x1000 x1001 99999).bind fun bt321 => (if x5.length < 2513169434916 then (spec_l20Rules.l1 k (x5 ++ [(⟨bt321.1, bt321.2.1, bt321.2.2.1, bt321.2.2.2.1, bt321.2.2.2.2.1, bt321.2.2.2.2.2.1, bt321.2.2.2.2.2.2.1⟩ : S24)]) x1000 bt321.2.2.2.2.2.2.2) else (none))) else (some (x5, x1001))
def spec_l20Rules.l0 : Nat → Int → List (S24) → Int → List Int → Int → Option ((List (S24)) × Int)
  | 0, _, _, _, _, _ => none
  | k + 1, x1, x5, x6, x1000, x1001 => if x6 > 0 then ((spec_l20Rule.f k x1000 x1001 99999).bind fun bt295 => (if x5.length < 2513169434916 then (spec_l20Rules.l0 k x1 (x5 ++ [(⟨bt295.1, bt295.2.1, bt295.2.2.1, bt295.2.2.2.1, bt295.2.2.2.2.1, bt295.2.2.2.2.2.1, bt295.2.2.2.2.2.2.1⟩ : S24)]) (wrap64 (x6 - 1)) x1000 bt295.2.2.2.2.2.2.2) else (none))) else (spec_l20Rules.j1 k x1 x5 x1000 x1001)
end
def spec_l20Rules.f (k : Nat) (s0_0 : List Int) (s0_1 : Int) (a1 : Int) : Option ((List (S24)) × Int) := (some (([] : List (S24)) : List (S24))).bind fun y288 => ((spec_l20Rd_pick.f k s0_0 s0_1 3).bind fun bt291 => (if bt291.1 > 0 then ((spec_l20Rd_pick.f k s0_0 bt291.2 4).bind fun bt293 => (spec_l20Rules.l0 k a1 y288 bt293.1 s0_0 bt293.2)) else (spec_l20Rules.j1 k a1 y288 s0_0 bt291.2)))
theorem spec_l20Rules.mono_l : ∀ k, (∀ y0 y1 y2 y3, LeO (spec_l20Rules.j1 k y0 y1 y2 y3) (spec_l20Rules.j1 (k + 1) y0 y1 y2 y3)) ∧ (∀ y0 y1 y2, LeO (spec_l20Rules.l1 k y0 y1 y2) (spec_l20Rules.l1 (k + 1) y0 y1 y2)) ∧ (∀ y0 y1 y2 y3 y4, LeO (spec_l20Rules.l0 k y0 y1 y2 y3 y4) (spec_l20Rules.l0 (k + 1) y0 y1 y2 y3 y4))
  | 0 => ⟨fun _ _ _ _ r h => by simp [spec_l20Rules.j1] at h, fun _ _ _ r h => by simp [spec_l20Rules.l1] at h, fun _ _ _ _ _ r h => by simp [spec_l20Rules.l0] at h⟩
  | k + 1 => by
    obtain ⟨ih0, ih1, ih2⟩ := spec_l20Rules.mono_l k
    refine ⟨?_, ?_, ?_⟩
    · intro y0 y1 y2 y3
      unfold spec_l20Rules.j1
      repeat' first
      | (with_reducible exact ih0 _ _ _ _)
      | (with_reducible exact ih1 _ _ _)
      | (with_reducible exact ih2 _ _ _ _ _)
      | (with_reducible exact spec_l20Rd_odd.mono _ _ _ _)
      | (with_reducible exact spec_l20Rd_pick.mono _ _ _ _)
      | (with_reducible exact spec_l20Rule.mono _ _ _ _)
      | (with_reducible exact LeO.refl _)
      | (with_reducible exact LeO.none _)
      | (with_reducible refine LeO.ite ?_ ?_)
      | (with_reducible refine LeO.bind ?_ (fun _ => ?_))
      | exact ih0 _ _ _ _
      | exact ih1 _ _ _
      | exact ih2 _ _ _ _ _
      | exact spec_l20Rd_odd.mono _ _ _ _
      | exact spec_l20Rd_pick.mono _ _ _ _
      | exact spec_l20Rule.mono _ _ _ _
      | exact LeO.none _
      | refine LeO.ite ?_ ?_
      | refine LeO.bind ?_ (fun _ => ?_)
    · intro y0 y1 y2
      unfold spec_l20Rules.l1
      repeat' first
      | (with_reducible exact ih0 _ _ _ _)
      | (with_reducible exact ih1 _ _ _)
      | (with_reducible exact ih2 _ _ _ _ _)
      | (with_reducible exact spec_l20Rd_odd.mono _ _ _ _)
      | (with_reducible exact spec_l20Rd_pick.mono _ _ _ _)
      | (with_reducible exact spec_l20Rule.mono _ _ _ _)
      | (with_reducible exact LeO.refl _)
      | (with_reducible exact LeO.none _)
      | (with_reducible refine LeO.ite ?_ ?_)
      | (with_reducible refine LeO.bind ?_ (fun _ => ?_))
      | exact ih0 _ _ _ _
      | exact ih1 _ _ _
      | exact ih2 _ _ _ _ _
      | exact spec_l20Rd_odd.mono _ _ _ _
      | exact spec_l20Rd_pick.mono _ _ _ _
      | exact spec_l20Rule.mono _ _ _ _
      | exact LeO.none _
      | refine LeO.ite ?_ ?_
      | refine LeO.bind ?_ (fun _ => ?_)
    · intro y0 y1 y2 y3 y4
      unfold spec_l20Rules.l0
      repeat' first
      | (with_reducible exact ih0 _ _ _ _)
      | (with_reducible exact ih1 _ _ _)
      | (with_reducible exact ih2 _ _ _ _ _)
      | (with_reducible exact spec_l20Rd_odd.mono _ _ _ _)
      | (with_reducible exact spec_l20Rd_pick.mono _ _ _ _)
      | (with_reducible exact spec_l20Rule.mono _ _ _ _)
      | (with_reducible exact LeO.refl _)
      | (with_reducible exact LeO.none _)
      | (with_reducible refine LeO.ite ?_ ?_)
      | (with_reducible refine LeO.bind ?_ (fun _ => ?_))
      | exact ih0 _ _ _ _
      | exact ih1 _ _ _
      | exact ih2 _ _ _ _ _
      | exact spec_l20Rd_odd.mono _ _ _ _
      | exact spec_l20Rd_pick.mono _ _ _ _
      | exact spec_l20Rule.mono _ _ _ _
      | exact LeO.none _
      | refine LeO.ite ?_ ?_
      | refine LeO.bind ?_ (fun _ => ?_)
theorem spec_l20Rules.mono : ∀ a0 a1 a2 k, LeO (spec_l20Rules.f k a0 a1 a2) (spec_l20Rules.f (k + 1) a0 a1 a2) := by
  intro a0 a1 a2 k
  obtain ⟨ih0, ih1, ih2⟩ := spec_l20Rules.mono_l k
  unfold spec_l20Rules.f
  repeat' first
      | (with_reducible exact ih0 _ _ _ _)
      | (with_reducible exact ih1 _ _ _)
      | (with_reducible exact ih2 _ _ _ _ _)
      | (with_reducible exact spec_l20Rd_odd.mono _ _ _ _)
      | (with_reducible exact spec_l20Rd_pick.mono _ _ _ _)
      | (with_reducible exact spec_l20Rule.mono _ _ _ _)
      | (with_reducible exact LeO.refl _)
      | (with_reducible exact LeO.none _)
      | (with_reducible refine LeO.ite ?_ ?_)
      | (with_reducible refine LeO.bind ?_ (fun _ => ?_))
      | exact ih0 _ _ _ _
      | exact ih1 _ _ _
      | exact ih2 _ _ _ _ _
      | exact spec_l20Rd_odd.mono _ _ _ _
      | exact spec_l20Rd_pick.mono _ _ _ _
      | exact spec_l20Rule.mono _ _ _ _
      | exact LeO.none _
      | refine LeO.ite ?_ ?_
      | refine LeO.bind ?_ (fun _ => ?_)
set_option maxHeartbeats 8000000 in
set_option maxRecDepth 100000 in
theorem spec_l20Rules.calls (k : Nat) (g : Nat) (s0_0 : List Int) (s0_1 : Int) (a1 : Int) (r1 : List (S24)) (r2 : Int) (w0 w : World) (hI : IsS102 w0 w g s0_0 s0_1) (hB : Below w0.heap.size w0 w) (h : spec_l20Rules.f k s0_0 s0_1 a1 = some (r1, r2)) :
    Calls Try.prog 57 #[.pointer (some ⟨g, 0, none⟩), .int .i64 a1] w fun e w' => ∃ v0_ : Value, e = .returned (v0_) ∧ Kd.R k24 24 w' w.heap.size (fun _ => True) v0_ r1 ∧ IsS102 w0 w' g s0_0 r2 ∧ Below w0.heap.size w0 w' ∧ KeepBut w w' g none := by
  have HI0 := Aside0.mk hI
  have HK := Aside0.mk (KeepBut.refl w g none)
  have HL := Aside0.mk hB.size
  clear hI
  have HW0 := Aside0.mk hB.size
  have HB := Aside0.mk hB
  clear hB
  have H : ((some (([] : List (S24)) : List (S24))).bind fun y288 => ((spec_l20Rd_pick.f k s0_0 s0_1 3).bind fun bt291 => (if bt291.1 > 0 then ((spec_l20Rd_pick.f k s0_0 bt291.2 4).bind fun bt293 => (spec_l20Rules.l0 k a1 y288 bt293.1 s0_0 bt293.2)) else (spec_l20Rules.j1 k a1 y288 s0_0 bt291.2)))) = some (r1, r2) := h
  clear h
  obtain ⟨y288, hy288⟩ : ∃ y_ : List (S24), y_ = (([] : List (S24))) := ⟨_, rfl⟩
  replace H : ((spec_l20Rd_pick.f k s0_0 s0_1 3).bind fun bt291 => (if bt291.1 > 0 then ((spec_l20Rd_pick.f k s0_0 bt291.2 4).bind fun bt293 => (spec_l20Rules.l0 k a1 y288 bt293.1 s0_0 bt293.2)) else (spec_l20Rules.j1 k a1 y288 s0_0 bt291.2))) = some (r1, r2) := by first | (rw [hy288]; with_reducible exact H) | (have H2_ := (Option.bind_some _ _).symm.trans H; rw [hy288]; with_reducible exact H2_) | (have H2_ := (Option.bind_some _ _).symm.trans H; with_reducible exact H2_) | with_reducible exact H | (rw [hy288]; exact H) | exact H
  have Ny288 := Aside0.mk hy288
  clear hy288
  replace H := Option.bind_eq_some_iff.mp H
  obtain ⟨⟨t291, t292⟩, A30, H⟩ := H
  replace H : (if t291 > 0 then ((spec_l20Rd_pick.f k s0_0 t292 4).bind fun bt293 => (spec_l20Rules.l0 k a1 y288 bt293.1 s0_0 bt293.2)) else (spec_l20Rules.j1 k a1 y288 s0_0 t292)) = some (r1, r2) := H
  have A3 := Aside0.mk A30
  clear A30
  have HC4 := Aside0.mk H
  clear H
  go_enter Try.func57, Try.ntmps57
  go_upto_if 10 with (first | ((with_reducible refine gate_dst (N := 7) rfl ?_); refine Kd.R_lit k24 _ 24 ?hg (N := 7) ?hd (xs := ([] : List (S24))) (inner := []) (ok := fun _ => True) (okp := fun _ => True) ?hr ?hp (fun _ hk => hk) trivial (Below.refl _ _) (Nat.le_refl _) (by simp) ?_; (case hd => rfl); (case hg => rfl); (case hr => first | (go_simp; done) | (go_simp; rfl)); (case hp => exact (Reps.none _ _)); intro v289 w5 ho6 hb hg_ hnew_; clear hg_ hnew_; (first | rw [← Ny288.out] at ho6 | (simp only [Int.reduceToNat] at ho6; rw [← Ny288.out] at ho6)); have n0_ := Aside0.mk (Kd.R_lower ho6 (keep_size (w := w) (g := g) (row := none) (by repeat (first | (with_reducible first | exact HK.out | apply KeepBut.set_ | apply keep_drewN | apply keep_drew | apply keep_alloc) | exact HK.out)))); have n1_ := Aside0.mk (IsS102.below (by repeat (first | (with_reducible first | exact HI0.out | apply IsS102.alloc | apply IsS102.drewN | apply IsS102.drew | apply IsS102.set_1) | exact HI0.out)) hb); have n2_ := Aside0.mk (KeepBut.trans (by repeat (first | (with_reducible first | exact HK.out | apply KeepBut.set_ | apply keep_drewN | apply keep_drew | apply keep_alloc) | exact HK.out)) (KeepBut.of_below hb g none) (.inl rfl)); have n3_ := Aside0.mk (below_step (by repeat (first | (with_reducible first | exact HB.out | apply below_alloc | apply pw_below_drewN | apply below_drew1 | refine below_set ?_ (IsS102.ge HI0.out)) | exact HB.out)) hb); clear HI0; clear HK; clear HB; have HO290 := n0_; have HI0 := n1_; have HK := n2_; have HB := n3_; clear n0_ n1_ n2_ n3_; clear hb ho6) | ((with_reducible refine gate_callee (f := 58) rfl ?_); refine goesL_ (some 9) rfl rfl Try.func58 (by kernel_rfl) rfl #[.pointer (some ⟨g, 0, none⟩), .int .i64 3] rfl (by (try simp only [List.map_toArray, List.map_cons, List.map_nil]); first | done | rfl | (simp only [List.length_drop, List.length_take]; rfl)) ?_; (with_reducible refine (spec_l20Rd_pick.calls k g s0_0 s0_1 3 t291 t292 w0 _ ?side1 ?side2 A3.out).mono ?_); (case side1 => repeat (first | (with_reducible first | exact HI0.out | apply IsS102.alloc | apply IsS102.drewN | apply IsS102.drew | apply IsS102.set_1) | exact HI0.out)); (case side2 => repeat (first | (with_reducible first | exact HB.out | apply below_alloc | apply pw_below_drewN | apply below_drew1 | refine below_set ?_ (IsS102.ge HI0.out)) | exact HB.out)); rintro e w7 ⟨rfl, hi, hb, hk⟩; refine ⟨_, rfl, ?_⟩; have n0_ := Aside0.mk (Kd.R_mono (Kd.R_keep (IsS102.apart (show IsS102 w0 _ g s0_0 s0_1 from by repeat (first | (with_reducible first | exact HI0.out | apply IsS102.alloc | apply IsS102.drewN | apply IsS102.drew | apply IsS102.set_1) | exact HI0.out)) (rs HO290) (by decide)) hk (fun _ h => h.2)) (fun _ h => h.1)); have n1_ := Aside0.mk (KeepBut.trans (by repeat (first | (with_reducible first | exact HK.out | apply KeepBut.set_ | apply keep_drewN | apply keep_drew | apply keep_alloc) | exact HK.out)) hk (.inl rfl)); have n2_ := Aside0.mk (hb); have n3_ := Aside0.mk (hi); clear HO290; clear HK; clear HB; clear HI0; have HO290 := n0_; have HK := n1_; have HB := n2_; have HI0 := n3_; clear n0_ n1_ n2_ n3_; (try clear hb); (try clear hb2); (try clear hk); (try clear hi)))
  (try simp only [Act.put, List.setIfInBounds_toArray, List.set_cons_zero, List.set_cons_succ])
  go_cut [5] (fun v5 wc => ∃ (kq : Nat) (x5_3 : List (S24)) (x1001_3 : Int), Aside0 (spec_l20Rules.j1 kq a1 x5_3 s0_0 x1001_3 = some (r1, r2)) ∧ Aside0 (kq ≤ k) ∧ Aside0 (Kd.R k24 24 wc w.heap.size (fun _ => True) v5 x5_3) ∧ Aside0 (IsS102 w0 wc g s0_0 x1001_3) ∧ Aside0 (KeepBut w wc g none) ∧ Aside0 (Below w0.heap.size w0 wc))
  case first =>
    have H := HC4.out
    clear HC4
    by_cases c8 : t291 > 0
    · rw [if_pos c8] at H
      have c8b0 : decide (0 < t291) = true := decide_eq_true c8
      clear c8
      (first | rw [c8b0] | (simp only [i64_w, i32_w]; rw [c8b0]) | skip)
      replace H := Option.bind_eq_some_iff.mp H
      obtain ⟨⟨t293, t294⟩, A90, H⟩ := H
      replace H : (spec_l20Rules.l0 k a1 y288 t293 s0_0 t294) = some (r1, r2) := H
      have A9 := Aside0.mk A90
      clear A90
      have H' := Aside0.mk H
      clear H
      go_wp2_with (first | ((with_reducible refine gate_callee (f := 58) rfl ?_); refine goesL_ (some 12) rfl rfl Try.func58 (by kernel_rfl) rfl #[.pointer (some ⟨g, 0, none⟩), .int .i64 4] rfl (by (try simp only [List.map_toArray, List.map_cons, List.map_nil]); first | done | rfl | (simp only [List.length_drop, List.length_take]; rfl)) ?_; (with_reducible refine (spec_l20Rd_pick.calls k g s0_0 t292 4 t293 t294 w0 _ ?side1 ?side2 A9.out).mono ?_); (case side1 => repeat (first | (with_reducible first | exact HI0.out | apply IsS102.alloc | apply IsS102.drewN | apply IsS102.drew | apply IsS102.set_1) | exact HI0.out)); (case side2 => repeat (first | (with_reducible first | exact HB.out | apply below_alloc | apply pw_below_drewN | apply below_drew1 | refine below_set ?_ (IsS102.ge HI0.out)) | exact HB.out)); rintro e w10 ⟨rfl, hi, hb, hk⟩; refine ⟨_, rfl, ?_⟩; have n0_ := Aside0.mk (Kd.R_mono (Kd.R_keep (IsS102.apart (show IsS102 w0 _ g s0_0 t292 from by repeat (first | (with_reducible first | exact HI0.out | apply IsS102.alloc | apply IsS102.drewN | apply IsS102.drew | apply IsS102.set_1) | exact HI0.out)) (rs HO290) (by decide)) hk (fun _ h => h.2)) (fun _ h => h.1)); have n1_ := Aside0.mk (KeepBut.trans (by repeat (first | (with_reducible first | exact HK.out | apply KeepBut.set_ | apply keep_drewN | apply keep_drew | apply keep_alloc) | exact HK.out)) hk (.inl rfl)); have n2_ := Aside0.mk (hb); have n3_ := Aside0.mk (hi); clear HO290; clear HK; clear HB; clear HI0; have HO290 := n0_; have HK := n1_; have HB := n2_; have HI0 := n3_; clear n0_ n1_ n2_ n3_; (try clear hb); (try clear hb2); (try clear hk); (try clear hi)))
      go_loopg [5, 6] k (fun kq v5 v6 w' => ∃ (x5_1 : List (S24)) (x6_1 : Int) (x1001_1 : Int), v6 = .int .i64 x6_1 ∧ Aside0 (spec_l20Rules.l0 kq a1 x5_1 x6_1 s0_0 x1001_1 = some (r1, r2)) ∧ Aside0 (kq ≤ k) ∧ Aside0 (Kd.R k24 24 w' w.heap.size (fun _ => True) v5 x5_1) ∧ Aside0 (IsS102 w0 w' g s0_0 x1001_1) ∧ Aside0 (KeepBut w w' g none) ∧ Aside0 (Below w0.heap.size w0 w'))
      case atStart => exact ⟨(y288), (t293), (t294), (by first | rfl | (simp; done) | (simp [*]; done)), H', ⟨Nat.le_refl _⟩, ⟨by (with_reducible repeat apply ru); exact HO290.out⟩, ⟨by repeat (first | (with_reducible first | exact HI0.out | apply IsS102.alloc | apply IsS102.drewN | apply IsS102.drew | apply IsS102.set_1) | exact HI0.out)⟩, ⟨by repeat (first | (with_reducible first | exact HK.out | apply KeepBut.set_ | apply keep_drewN | apply keep_drew | apply keep_alloc) | exact HK.out)⟩, ⟨by repeat (first | (with_reducible first | exact HB.out | apply below_alloc | apply pw_below_drewN | apply below_drew1 | refine below_set ?_ (IsS102.ge HI0.out)) | exact HB.out)⟩⟩
      case round =>
        clear H'
        try clear p2
        try clear c5
        try clear c8
        try clear c8b0
        obtain ⟨x5_1, x6_1, x1001_1, rfl, HA, HK1, HO_5, HI0, HK, HB⟩ := hrel
        cases gk with
        | zero => exact absurd HA.out (by simp [spec_l20Rules.l0])
        | succ k1 =>
          have H := HA.out
          clear HA
          simp only [spec_l20Rules.l0] at H
          by_cases c11 : x6_1 > 0
          · rw [if_pos c11] at H
            have c11b0 : decide (0 < x6_1) = true := decide_eq_true c11
            clear c11
            replace H := Option.bind_eq_some_iff.mp H
            obtain ⟨⟨t295, t296, t297, t298, t299, t300, t301, t302⟩, A120, H⟩ := H
            replace H : (if x5_1.length < 2513169434916 then (spec_l20Rules.l0 k1 a1 (x5_1 ++ [(⟨t295, t296, t297, t298, t299, t300, t301⟩ : S24)]) (wrap64 (x6_1 - 1)) s0_0 t302) else (none)) = some (r1, r2) := H
            have A12 := Aside0.mk A120
            clear A120
            by_cases c13 : x5_1.length < 2513169434916
            · rw [if_pos c13] at H
              have LMc13 := Aside0.mk c13
              clear c13
              obtain ⟨y303, hy303⟩ : ∃ y_ : List (S24), y_ = (x5_1 ++ [(⟨t295, t296, t297, t298, t299, t300, t301⟩ : S24)]) := ⟨_, rfl⟩
              replace H : (spec_l20Rules.l0 k1 a1 y303 (wrap64 (x6_1 - 1)) s0_0 t302) = some (r1, r2) := by first | (rw [hy303]; with_reducible exact H) | (have H2_ := (Option.bind_some _ _).symm.trans H; rw [hy303]; with_reducible exact H2_) | (have H2_ := (Option.bind_some _ _).symm.trans H; with_reducible exact H2_) | with_reducible exact H | (rw [hy303]; exact H) | exact H
              have Ny303 := Aside0.mk hy303
              clear hy303
              have H' := Aside0.mk H
              clear H
              go_wp2_with (first | ((with_reducible refine gate_callee (f := 44) rfl ?_); refine goesL_ (some 19) rfl rfl Try.func44 (by kernel_rfl) rfl #[.pointer (some ⟨g, 0, none⟩), .int .i64 99999] rfl (by (try simp only [List.map_toArray, List.map_cons, List.map_nil]); first | done | rfl | (simp only [List.length_drop, List.length_take]; rfl)) ?_; (with_reducible refine (spec_l20Rule.calls k1 g s0_0 x1001_1 99999 t295 t296 t297 t298 t299 t300 t301 t302 w0 _ ?side1 ?side2 A12.out).mono ?_); (case side1 => repeat (first | (with_reducible first | exact HI0.out | apply IsS102.alloc | apply IsS102.drewN | apply IsS102.drew | apply IsS102.set_1) | exact HI0.out)); (case side2 => repeat (first | (with_reducible first | exact HB.out | apply below_alloc | apply pw_below_drewN | apply below_drew1 | refine below_set ?_ (IsS102.ge HI0.out)) | exact HB.out)); rintro e w14 ⟨rfl, hi, hb, hk⟩; refine ⟨_, rfl, ?_⟩; have n0_ := Aside0.mk (Kd.R_mono (Kd.R_keep (IsS102.apart (show IsS102 w0 _ g s0_0 x1001_1 from by repeat (first | (with_reducible first | exact HI0.out | apply IsS102.alloc | apply IsS102.drewN | apply IsS102.drew | apply IsS102.set_1) | exact HI0.out)) (rs HO_5) (by decide)) hk (fun _ h => h.2)) (fun _ h => h.1)); have n1_ := Aside0.mk (KeepBut.trans (by repeat (first | (with_reducible first | exact HK.out | apply KeepBut.set_ | apply keep_drewN | apply keep_drew | apply keep_alloc) | exact HK.out)) hk (.inl rfl)); have n2_ := Aside0.mk (hb); have n3_ := Aside0.mk (hi); clear HO_5; clear HK; clear HB; clear HI0; have HO_5 := n0_; have HK := n1_; have HB := n2_; have HI0 := n3_; clear n0_ n1_ n2_ n3_; (try clear hb); (try clear hb2); (try clear hk); (try clear hi)) | ((with_reducible refine gate_builtin (b := .append) (xs := #[.tmp 17, .tmp 20]) rfl ?_); at_builtin; refine Kd.R_append k24 w.heap.size rfl (.tmp 17) (.tmp 20) 31 24 (.agg #[(.bool false), (.int .i64 0), (.int .i64 0), (.int .i64 0), (.int .i64 0), (.int .i64 0), (.int .i64 0)]) 56 rfl Try.underlying31 info24 rfl (by decide) (by omega) u5 x5_1 (⟨t295, t296, t297, t298, t299, t300, t301⟩ : S24) [.bool t295, .int .i64 t296, .int .i64 t297, .int .i64 t298, .int .i64 t299, .int .i64 t300, .int .i64 t301] (fun _ => True) (fun _ => False) rfl rfl ?aP (fun _ hk => hk.elim) ?aF ?aO (Below.refl _ _) ?aS ?aL ?_; (case aP => exact k24_mkM _ _ _ (⟨t295, t296, t297, t298, t299, t300, t301⟩ : S24)); (case aF => exact (fun _ _ => trivial)); (case aO => exact (rs HO_5)); (case aS => exact (keep_size (w := w) (g := g) (row := none) (by repeat (first | (with_reducible first | exact HK.out | apply KeepBut.set_ | apply keep_drewN | apply keep_drew | apply keep_alloc) | exact HK.out)))); (case aL => have := LMc13.out; omega); intro v304 w15 ho hb hg hat; rw [← Ny303.out] at ho; have n0_ := Aside0.mk (IsS102.grown (by repeat (first | (with_reducible first | exact HI0.out | apply IsS102.alloc | apply IsS102.drewN | apply IsS102.drew | apply IsS102.set_1) | exact HI0.out)) hg (IsS102.own_ne HI0.out HO_5.out (by decide))); have n1_ := Aside0.mk (below_weaken (by repeat (first | (with_reducible first | exact HB.out | apply below_alloc | apply pw_below_drewN | apply below_drew1 | refine below_set ?_ (IsS102.ge HI0.out)) | exact HB.out)) HL.out hb); have n2_ := Aside0.mk (KeepBut.trans (by repeat (first | (with_reducible first | exact HK.out | apply KeepBut.set_ | apply keep_drewN | apply keep_drew | apply keep_alloc) | exact HK.out)) (KeepBut.of_grown hg g) (Kd.R_base2 HO_5.out)); have n3_ := Aside0.mk (ho); clear HI0; clear HB; clear HK; clear HO_5; have HI0 := n0_; have HB := n1_; have HK := n2_; have HO305 := n3_; clear n0_ n1_ n2_ n3_; clear ho hb hg hat))
              go_roundg k1
              case measure => have := HK1.out; omega
              case rel => exact ⟨(y303), (wrap64 (x6_1 - 1)), (t302), (by first | rfl | (simp; done) | (simp [*]; done)), H', ⟨by have := HK1.out; omega⟩, ⟨by (with_reducible repeat apply ru); exact HO305.out⟩, ⟨by repeat (first | (with_reducible first | exact HI0.out | apply IsS102.alloc | apply IsS102.drewN | apply IsS102.drew | apply IsS102.set_1) | exact HI0.out)⟩, ⟨by repeat (first | (with_reducible first | exact HK.out | apply KeepBut.set_ | apply keep_drewN | apply keep_drew | apply keep_alloc) | exact HK.out)⟩, ⟨by repeat (first | (with_reducible first | exact HB.out | apply below_alloc | apply pw_below_drewN | apply below_drew1 | refine below_set ?_ (IsS102.ge HI0.out)) | exact HB.out)⟩⟩
            · rw [if_neg c13] at H
              exact absurd H (by simp)
          · rw [if_neg c11] at H
            have c11b0 : decide (0 < x6_1) = false := decide_eq_false c11
            clear c11
            have H' := Aside0.mk H
            clear H
            go_wp2
            go_meet
            case rel => exact ⟨_, (x5_1), (x1001_1), H', ⟨by have := HK1.out; first | omega | exact Nat.le_refl _⟩, ⟨by (with_reducible repeat apply ru); exact HO_5.out⟩, ⟨by repeat (first | (with_reducible first | exact HI0.out | apply IsS102.alloc | apply IsS102.drewN | apply IsS102.drew | apply IsS102.set_1) | exact HI0.out)⟩, ⟨by repeat (first | (with_reducible first | exact HK.out | apply KeepBut.set_ | apply keep_drewN | apply keep_drew | apply keep_alloc) | exact HK.out)⟩, ⟨by repeat (first | (with_reducible first | exact HB.out | apply below_alloc | apply pw_below_drewN | apply below_drew1 | refine below_set ?_ (IsS102.ge HI0.out)) | exact HB.out)⟩⟩
    · rw [if_neg c8] at H
      have c8b0 : decide (0 < t291) = false := decide_eq_false c8
      clear c8
      (first | rw [c8b0] | (simp only [i64_w, i32_w]; rw [c8b0]) | skip)
      have H' := Aside0.mk H
      clear H
      go_wp2
      go_meet
      case rel => exact ⟨_, (y288), (t292), H', ⟨by first | omega | exact Nat.le_refl _⟩, ⟨by (with_reducible repeat apply ru); exact HO290.out⟩, ⟨by repeat (first | (with_reducible first | exact HI0.out | apply IsS102.alloc | apply IsS102.drewN | apply IsS102.drew | apply IsS102.set_1) | exact HI0.out)⟩, ⟨by repeat (first | (with_reducible first | exact HK.out | apply KeepBut.set_ | apply keep_drewN | apply keep_drew | apply keep_alloc) | exact HK.out)⟩, ⟨by repeat (first | (with_reducible first | exact HB.out | apply below_alloc | apply pw_below_drewN | apply below_drew1 | refine below_set ?_ (IsS102.ge HI0.out)) | exact HB.out)⟩⟩
  case rest =>
    clear HC4
    try clear c1
    try clear p2
    try clear c4
    try clear c5
    try clear p6
    try clear c8
    try clear c8b0
    try clear c11
    try clear c11b0
    try clear c13
    try clear p2
    obtain ⟨kq, x5_3, x1001_3, HA, HJ3, HO_5, HI0, HK, HB⟩ := hcut
    cases kq with
    | zero => exact absurd HA.out (by simp [spec_l20Rules.j1])
    | succ kj3 =>
      have H := HA.out
      clear HA
      simp only [spec_l20Rules.j1] at H
      replace H := Option.bind_eq_some_iff.mp H
      obtain ⟨⟨t306, t307⟩, A160, H⟩ := H
      replace H : (if t306 = true then ((spec_l20Rd_pick.f kj3 s0_0 t307 2).bind fun bt308 => (if bt308.1 = 0 then ((spec_l20Rule.f kj3 s0_0 bt308.2 1).bind fun bt310 => (if x5_3.length < 2513169434916 then (some ((x5_3 ++ [(⟨bt310.1, bt310.2.1, bt310.2.2.1, bt310.2.2.2.1, bt310.2.2.2.2.1, bt310.2.2.2.2.2.1, bt310.2.2.2.2.2.2.1⟩ : S24)]), bt310.2.2.2.2.2.2.2)) else (none))) else (spec_l20Rules.l1 kj3 x5_3 s0_0 bt308.2))) else (some (x5_3, t307))) = some (r1, r2) := H
      have A16 := Aside0.mk A160
      clear A160
      by_cases c17 : t306 = true
      · subst c17
        have H1 : ((spec_l20Rd_pick.f kj3 s0_0 t307 2).bind fun bt308 => (if bt308.1 = 0 then ((spec_l20Rule.f kj3 s0_0 bt308.2 1).bind fun bt310 => (if x5_3.length < 2513169434916 then (some ((x5_3 ++ [(⟨bt310.1, bt310.2.1, bt310.2.2.1, bt310.2.2.2.1, bt310.2.2.2.2.1, bt310.2.2.2.2.2.1, bt310.2.2.2.2.2.2.1⟩ : S24)]), bt310.2.2.2.2.2.2.2)) else (none))) else (spec_l20Rules.l1 kj3 x5_3 s0_0 bt308.2))) = some (r1, r2) := by rw [if_pos rfl] at H; exact H
        clear H
        have H := H1
        clear H1
        replace H := Option.bind_eq_some_iff.mp H
        obtain ⟨⟨t308, t309⟩, A180, H⟩ := H
        replace H : (if t308 = 0 then ((spec_l20Rule.f kj3 s0_0 t309 1).bind fun bt310 => (if x5_3.length < 2513169434916 then (some ((x5_3 ++ [(⟨bt310.1, bt310.2.1, bt310.2.2.1, bt310.2.2.2.1, bt310.2.2.2.2.1, bt310.2.2.2.2.2.1, bt310.2.2.2.2.2.2.1⟩ : S24)]), bt310.2.2.2.2.2.2.2)) else (none))) else (spec_l20Rules.l1 kj3 x5_3 s0_0 t309)) = some (r1, r2) := H
        have A18 := Aside0.mk A180
        clear A180
        by_cases c19 : t308 = 0
        · rw [if_pos c19] at H
          have c19b0 : (t308 == 0) = true := beq_iff_eq.mpr c19
          have c19b1 : (t308 != 0) = false := bne_eq_false_iff_eq.mpr c19
          clear c19
          replace H := Option.bind_eq_some_iff.mp H
          obtain ⟨⟨t310, t311, t312, t313, t314, t315, t316, t317⟩, A200, H⟩ := H
          replace H : (if x5_3.length < 2513169434916 then (some ((x5_3 ++ [(⟨t310, t311, t312, t313, t314, t315, t316⟩ : S24)]), t317)) else (none)) = some (r1, r2) := H
          have A20 := Aside0.mk A200
          clear A200
          by_cases c21 : x5_3.length < 2513169434916
          · rw [if_pos c21] at H
            have LMc21 := Aside0.mk c21
            clear c21
            obtain ⟨y318, hy318⟩ : ∃ y_ : List (S24), y_ = (x5_3 ++ [(⟨t310, t311, t312, t313, t314, t315, t316⟩ : S24)]) := ⟨_, rfl⟩
            replace H : (some (y318, t317)) = some (r1, r2) := by first | (rw [hy318]; with_reducible exact H) | (have H2_ := (Option.bind_some _ _).symm.trans H; rw [hy318]; with_reducible exact H2_) | (have H2_ := (Option.bind_some _ _).symm.trans H; with_reducible exact H2_) | with_reducible exact H | (rw [hy318]; exact H) | exact H
            have Ny318 := Aside0.mk hy318
            clear hy318
            simp only [Option.some.injEq, Prod.mk.injEq] at H
            obtain ⟨rfl, rfl⟩ := H
            go_wp2_with (first | ((with_reducible refine gate_callee (f := 59) rfl ?_); refine goesL_ (some 24) rfl rfl Try.func59 (by kernel_rfl) rfl #[.pointer (some ⟨g, 0, none⟩), .int .i64 a1] rfl (by (try simp only [List.map_toArray, List.map_cons, List.map_nil]); first | done | rfl | (simp only [List.length_drop, List.length_take]; rfl)) ?_; (with_reducible refine (spec_l20Rd_odd.calls kj3 g s0_0 x1001_3 a1 true t307 w0 _ ?side1 ?side2 A16.out).mono ?_); (case side1 => repeat (first | (with_reducible first | exact HI0.out | apply IsS102.alloc | apply IsS102.drewN | apply IsS102.drew | apply IsS102.set_1) | exact HI0.out)); (case side2 => repeat (first | (with_reducible first | exact HB.out | apply below_alloc | apply pw_below_drewN | apply below_drew1 | refine below_set ?_ (IsS102.ge HI0.out)) | exact HB.out)); rintro e w22 ⟨rfl, hi, hb, hk⟩; refine ⟨_, rfl, ?_⟩; have n0_ := Aside0.mk (Kd.R_mono (Kd.R_keep (IsS102.apart (show IsS102 w0 _ g s0_0 x1001_3 from by repeat (first | (with_reducible first | exact HI0.out | apply IsS102.alloc | apply IsS102.drewN | apply IsS102.drew | apply IsS102.set_1) | exact HI0.out)) (rs HO_5) (by decide)) hk (fun _ h => h.2)) (fun _ h => h.1)); have n1_ := Aside0.mk (KeepBut.trans (by repeat (first | (with_reducible first | exact HK.out | apply KeepBut.set_ | apply keep_drewN | apply keep_drew | apply keep_alloc) | exact HK.out)) hk (.inl rfl)); have n2_ := Aside0.mk (hb); have n3_ := Aside0.mk (hi); clear HO_5; clear HK; clear HB; clear HI0; have HO_5 := n0_; have HK := n1_; have HB := n2_; have HI0 := n3_; clear n0_ n1_ n2_ n3_; (try clear hb); (try clear hb2); (try clear hk); (try clear hi)) | ((with_reducible refine gate_callee (f := 58) rfl ?_); refine goesL_ (some 26) rfl rfl Try.func58 (by kernel_rfl) rfl #[.pointer (some ⟨g, 0, none⟩), .int .i64 2] rfl (by (try simp only [List.map_toArray, List.map_cons, List.map_nil]); first | done | rfl | (simp only [List.length_drop, List.length_take]; rfl)) ?_; (with_reducible refine (spec_l20Rd_pick.calls kj3 g s0_0 t307 2 t308 t309 w0 _ ?side1 ?side2 A18.out).mono ?_); (case side1 => repeat (first | (with_reducible first | exact HI0.out | apply IsS102.alloc | apply IsS102.drewN | apply IsS102.drew | apply IsS102.set_1) | exact HI0.out)); (case side2 => repeat (first | (with_reducible first | exact HB.out | apply below_alloc | apply pw_below_drewN | apply below_drew1 | refine below_set ?_ (IsS102.ge HI0.out)) | exact HB.out)); rintro e w23 ⟨rfl, hi, hb, hk⟩; refine ⟨_, rfl, ?_⟩; have n0_ := Aside0.mk (Kd.R_mono (Kd.R_keep (IsS102.apart (show IsS102 w0 _ g s0_0 t307 from by repeat (first | (with_reducible first | exact HI0.out | apply IsS102.alloc | apply IsS102.drewN | apply IsS102.drew | apply IsS102.set_1) | exact HI0.out)) (rs HO_5) (by decide)) hk (fun _ h => h.2)) (fun _ h => h.1)); have n1_ := Aside0.mk (KeepBut.trans (by repeat (first | (with_reducible first | exact HK.out | apply KeepBut.set_ | apply keep_drewN | apply keep_drew | apply keep_alloc) | exact HK.out)) hk (.inl rfl)); have n2_ := Aside0.mk (hb); have n3_ := Aside0.mk (hi); clear HO_5; clear HK; clear HB; clear HI0; have HO_5 := n0_; have HK := n1_; have HB := n2_; have HI0 := n3_; clear n0_ n1_ n2_ n3_; (try clear hb); (try clear hb2); (try clear hk); (try clear hi)) | ((with_reducible refine gate_callee (f := 44) rfl ?_); refine goesL_ (some 30) rfl rfl Try.func44 (by kernel_rfl) rfl #[.pointer (some ⟨g, 0, none⟩), .int .i64 1] rfl (by (try simp only [List.map_toArray, List.map_cons, List.map_nil]); first | done | rfl | (simp only [List.length_drop, List.length_take]; rfl)) ?_; (with_reducible refine (spec_l20Rule.calls kj3 g s0_0 t309 1 t310 t311 t312 t313 t314 t315 t316 t317 w0 _ ?side1 ?side2 A20.out).mono ?_); (case side1 => repeat (first | (with_reducible first | exact HI0.out | apply IsS102.alloc | apply IsS102.drewN | apply IsS102.drew | apply IsS102.set_1) | exact HI0.out)); (case side2 => repeat (first | (with_reducible first | exact HB.out | apply below_alloc | apply pw_below_drewN | apply below_drew1 | refine below_set ?_ (IsS102.ge HI0.out)) | exact HB.out)); rintro e w24 ⟨rfl, hi, hb, hk⟩; refine ⟨_, rfl, ?_⟩; have n0_ := Aside0.mk (Kd.R_mono (Kd.R_keep (IsS102.apart (show IsS102 w0 _ g s0_0 t309 from by repeat (first | (with_reducible first | exact HI0.out | apply IsS102.alloc | apply IsS102.drewN | apply IsS102.drew | apply IsS102.set_1) | exact HI0.out)) (rs HO_5) (by decide)) hk (fun _ h => h.2)) (fun _ h => h.1)); have n1_ := Aside0.mk (KeepBut.trans (by repeat (first | (with_reducible first | exact HK.out | apply KeepBut.set_ | apply keep_drewN | apply keep_drew | apply keep_alloc) | exact HK.out)) hk (.inl rfl)); have n2_ := Aside0.mk (hb); have n3_ := Aside0.mk (hi); clear HO_5; clear HK; clear HB; clear HI0; have HO_5 := n0_; have HK := n1_; have HB := n2_; have HI0 := n3_; clear n0_ n1_ n2_ n3_; (try clear hb); (try clear hb2); (try clear hk); (try clear hi)) | ((with_reducible refine gate_builtin (b := .append) (xs := #[.tmp 28, .tmp 31]) rfl ?_); at_builtin; refine Kd.R_append k24 w.heap.size rfl (.tmp 28) (.tmp 31) 31 24 (.agg #[(.bool false), (.int .i64 0), (.int .i64 0), (.int .i64 0), (.int .i64 0), (.int .i64 0), (.int .i64 0)]) 56 rfl Try.underlying31 info24 rfl (by decide) (by omega) u5 x5_3 (⟨t310, t311, t312, t313, t314, t315, t316⟩ : S24) [.bool t310, .int .i64 t311, .int .i64 t312, .int .i64 t313, .int .i64 t314, .int .i64 t315, .int .i64 t316] (fun _ => True) (fun _ => False) rfl rfl ?aP (fun _ hk => hk.elim) ?aF ?aO (Below.refl _ _) ?aS ?aL ?_; (case aP => exact k24_mkM _ _ _ (⟨t310, t311, t312, t313, t314, t315, t316⟩ : S24)); (case aF => exact (fun _ _ => trivial)); (case aO => exact (rs HO_5)); (case aS => exact (keep_size (w := w) (g := g) (row := none) (by repeat (first | (with_reducible first | exact HK.out | apply KeepBut.set_ | apply keep_drewN | apply keep_drew | apply keep_alloc) | exact HK.out)))); (case aL => have := LMc21.out; omega); intro v319 w25 ho hb hg hat; rw [← Ny318.out] at ho; have n0_ := Aside0.mk (IsS102.grown (by repeat (first | (with_reducible first | exact HI0.out | apply IsS102.alloc | apply IsS102.drewN | apply IsS102.drew | apply IsS102.set_1) | exact HI0.out)) hg (IsS102.own_ne HI0.out HO_5.out (by decide))); have n1_ := Aside0.mk (below_weaken (by repeat (first | (with_reducible first | exact HB.out | apply below_alloc | apply pw_below_drewN | apply below_drew1 | refine below_set ?_ (IsS102.ge HI0.out)) | exact HB.out)) HL.out hb); have n2_ := Aside0.mk (KeepBut.trans (by repeat (first | (with_reducible first | exact HK.out | apply KeepBut.set_ | apply keep_drewN | apply keep_drew | apply keep_alloc) | exact HK.out)) (KeepBut.of_grown hg g) (Kd.R_base2 HO_5.out)); have n3_ := Aside0.mk (ho); clear HI0; clear HB; clear HK; clear HO_5; have HI0 := n0_; have HB := n1_; have HK := n2_; have HO320 := n3_; clear n0_ n1_ n2_ n3_; clear ho hb hg hat))
            go_ret
            exact ⟨_, by first | rfl | (simp [errW_none, errW_some] <;> rfl) | (simp [*, errW_none, errW_some] <;> rfl), by (with_reducible repeat apply ru); exact HO320.out, by repeat (first | (with_reducible first | exact HI0.out | apply IsS102.alloc | apply IsS102.drewN | apply IsS102.drew | apply IsS102.set_1) | exact HI0.out), by repeat (first | (with_reducible first | exact HB.out | apply below_alloc | apply pw_below_drewN | apply below_drew1 | refine below_set ?_ (IsS102.ge HI0.out)) | exact HB.out), by repeat (first | (with_reducible first | exact HK.out | apply KeepBut.set_ | apply keep_drewN | apply keep_drew | apply keep_alloc) | exact HK.out)⟩
          · rw [if_neg c21] at H
            exact absurd H (by simp)
        · rw [if_neg c19] at H
          have c19b0 : (t308 == 0) = false := beq_eq_false_iff_ne.mpr c19
          have c19b1 : (t308 != 0) = true := bne_iff_ne.mpr c19
          have H' := Aside0.mk H
          clear H
          go_wp2_with (first | ((with_reducible refine gate_callee (f := 59) rfl ?_); refine goesL_ (some 24) rfl rfl Try.func59 (by kernel_rfl) rfl #[.pointer (some ⟨g, 0, none⟩), .int .i64 a1] rfl (by (try simp only [List.map_toArray, List.map_cons, List.map_nil]); first | done | rfl | (simp only [List.length_drop, List.length_take]; rfl)) ?_; (with_reducible refine (spec_l20Rd_odd.calls kj3 g s0_0 x1001_3 a1 true t307 w0 _ ?side1 ?side2 A16.out).mono ?_); (case side1 => repeat (first | (with_reducible first | exact HI0.out | apply IsS102.alloc | apply IsS102.drewN | apply IsS102.drew | apply IsS102.set_1) | exact HI0.out)); (case side2 => repeat (first | (with_reducible first | exact HB.out | apply below_alloc | apply pw_below_drewN | apply below_drew1 | refine below_set ?_ (IsS102.ge HI0.out)) | exact HB.out)); rintro e w26 ⟨rfl, hi, hb, hk⟩; refine ⟨_, rfl, ?_⟩; have n0_ := Aside0.mk (Kd.R_mono (Kd.R_keep (IsS102.apart (show IsS102 w0 _ g s0_0 x1001_3 from by repeat (first | (with_reducible first | exact HI0.out | apply IsS102.alloc | apply IsS102.drewN | apply IsS102.drew | apply IsS102.set_1) | exact HI0.out)) (rs HO_5) (by decide)) hk (fun _ h => h.2)) (fun _ h => h.1)); have n1_ := Aside0.mk (KeepBut.trans (by repeat (first | (with_reducible first | exact HK.out | apply KeepBut.set_ | apply keep_drewN | apply keep_drew | apply keep_alloc) | exact HK.out)) hk (.inl rfl)); have n2_ := Aside0.mk (hb); have n3_ := Aside0.mk (hi); clear HO_5; clear HK; clear HB; clear HI0; have HO_5 := n0_; have HK := n1_; have HB := n2_; have HI0 := n3_; clear n0_ n1_ n2_ n3_; (try clear hb); (try clear hb2); (try clear hk); (try clear hi)) | ((with_reducible refine gate_callee (f := 58) rfl ?_); refine goesL_ (some 26) rfl rfl Try.func58 (by kernel_rfl) rfl #[.pointer (some ⟨g, 0, none⟩), .int .i64 2] rfl (by (try simp only [List.map_toArray, List.map_cons, List.map_nil]); first | done | rfl | (simp only [List.length_drop, List.length_take]; rfl)) ?_; (with_reducible refine (spec_l20Rd_pick.calls kj3 g s0_0 t307 2 t308 t309 w0 _ ?side1 ?side2 A18.out).mono ?_); (case side1 => repeat (first | (with_reducible first | exact HI0.out | apply IsS102.alloc | apply IsS102.drewN | apply IsS102.drew | apply IsS102.set_1) | exact HI0.out)); (case side2 => repeat (first | (with_reducible first | exact HB.out | apply below_alloc | apply pw_below_drewN | apply below_drew1 | refine below_set ?_ (IsS102.ge HI0.out)) | exact HB.out)); rintro e w27 ⟨rfl, hi, hb, hk⟩; refine ⟨_, rfl, ?_⟩; have n0_ := Aside0.mk (Kd.R_mono (Kd.R_keep (IsS102.apart (show IsS102 w0 _ g s0_0 t307 from by repeat (first | (with_reducible first | exact HI0.out | apply IsS102.alloc | apply IsS102.drewN | apply IsS102.drew | apply IsS102.set_1) | exact HI0.out)) (rs HO_5) (by decide)) hk (fun _ h => h.2)) (fun _ h => h.1)); have n1_ := Aside0.mk (KeepBut.trans (by repeat (first | (with_reducible first | exact HK.out | apply KeepBut.set_ | apply keep_drewN | apply keep_drew | apply keep_alloc) | exact HK.out)) hk (.inl rfl)); have n2_ := Aside0.mk (hb); have n3_ := Aside0.mk (hi); clear HO_5; clear HK; clear HB; clear HI0; have HO_5 := n0_; have HK := n1_; have HB := n2_; have HI0 := n3_; clear n0_ n1_ n2_ n3_; (try clear hb); (try clear hb2); (try clear hk); (try clear hi)))
          go_loopg [5] kj3 (fun kq v5 w' => ∃ (x5_2 : List (S24)) (x1001_2 : Int), Aside0 (spec_l20Rules.l1 kq x5_2 s0_0 x1001_2 = some (r1, r2)) ∧ Aside0 (kq ≤ kj3) ∧ Aside0 (Kd.R k24 24 w' w.heap.size (fun _ => True) v5 x5_2) ∧ Aside0 (IsS102 w0 w' g s0_0 x1001_2) ∧ Aside0 (KeepBut w w' g none) ∧ Aside0 (Below w0.heap.size w0 w'))
          case atStart => exact ⟨(x5_3), (t309), H', ⟨Nat.le_refl _⟩, ⟨by (with_reducible repeat apply ru); exact HO_5.out⟩, ⟨by repeat (first | (with_reducible first | exact HI0.out | apply IsS102.alloc | apply IsS102.drewN | apply IsS102.drew | apply IsS102.set_1) | exact HI0.out)⟩, ⟨by repeat (first | (with_reducible first | exact HK.out | apply KeepBut.set_ | apply keep_drewN | apply keep_drew | apply keep_alloc) | exact HK.out)⟩, ⟨by repeat (first | (with_reducible first | exact HB.out | apply below_alloc | apply pw_below_drewN | apply below_drew1 | refine below_set ?_ (IsS102.ge HI0.out)) | exact HB.out)⟩⟩
          case round =>
            clear H'
            try clear c1
            try clear c2
            try clear p2
            try clear c4
            try clear c5
            try clear p6
            try clear c8
            try clear c8b0
            try clear c11
            try clear c11b0
            try clear c13
            try clear c17
            try clear c19
            try clear c19b0
            try clear c19b1
            try clear c21
            try clear p2
            try clear p6
            obtain ⟨x5_2, x1001_2, HA, HK2, HO_5, HI0, HK, HB⟩ := hrel
            cases gk with
            | zero => exact absurd HA.out (by simp [spec_l20Rules.l1])
            | succ k2 =>
              have H := HA.out
              clear HA
              simp only [spec_l20Rules.l1] at H
              by_cases c28 : (x5_2.length : Int) ≤ 5
              · rw [if_pos c28] at H
                have c28b0 : decide ((x5_2.length : Int) ≤ 5) = true := decide_eq_true c28
                have c28b1 : decide (x5_2.length ≤ 5) = true := decide_eq_true (by omega)
                clear c28
                replace H := Option.bind_eq_some_iff.mp H
                obtain ⟨⟨t321, t322, t323, t324, t325, t326, t327, t328⟩, A290, H⟩ := H
                replace H : (if x5_2.length < 2513169434916 then (spec_l20Rules.l1 k2 (x5_2 ++ [(⟨t321, t322, t323, t324, t325, t326, t327⟩ : S24)]) s0_0 t328) else (none)) = some (r1, r2) := H
                have A29 := Aside0.mk A290
                clear A290
                by_cases c30 : x5_2.length < 2513169434916
                · rw [if_pos c30] at H
                  have LMc30 := Aside0.mk c30
                  clear c30
                  obtain ⟨y329, hy329⟩ : ∃ y_ : List (S24), y_ = (x5_2 ++ [(⟨t321, t322, t323, t324, t325, t326, t327⟩ : S24)]) := ⟨_, rfl⟩
                  replace H : (spec_l20Rules.l1 k2 y329 s0_0 t328) = some (r1, r2) := by first | (rw [hy329]; with_reducible exact H) | (have H2_ := (Option.bind_some _ _).symm.trans H; rw [hy329]; with_reducible exact H2_) | (have H2_ := (Option.bind_some _ _).symm.trans H; with_reducible exact H2_) | with_reducible exact H | (rw [hy329]; exact H) | exact H
                  have Ny329 := Aside0.mk hy329
                  clear hy329
                  have H' := Aside0.mk H
                  clear H
                  obtain ⟨Ao31, co31, eo31⟩ := Kd.R_slice HO_5.out
                  subst eo31
                  go_wp2_with (first | ((with_reducible refine gate_callee (f := 44) rfl ?_); refine goesL_ (some 38) rfl rfl Try.func44 (by kernel_rfl) rfl #[.pointer (some ⟨g, 0, none⟩), .int .i64 99999] rfl (by (try simp only [List.map_toArray, List.map_cons, List.map_nil]); first | done | rfl | (simp only [List.length_drop, List.length_take]; rfl)) ?_; (with_reducible refine (spec_l20Rule.calls k2 g s0_0 x1001_2 99999 t321 t322 t323 t324 t325 t326 t327 t328 w0 _ ?side1 ?side2 A29.out).mono ?_); (case side1 => repeat (first | (with_reducible first | exact HI0.out | apply IsS102.alloc | apply IsS102.drewN | apply IsS102.drew | apply IsS102.set_1) | exact HI0.out)); (case side2 => repeat (first | (with_reducible first | exact HB.out | apply below_alloc | apply pw_below_drewN | apply below_drew1 | refine below_set ?_ (IsS102.ge HI0.out)) | exact HB.out)); rintro e w32 ⟨rfl, hi, hb, hk⟩; refine ⟨_, rfl, ?_⟩; have n0_ := Aside0.mk (Kd.R_mono (Kd.R_keep (IsS102.apart (show IsS102 w0 _ g s0_0 x1001_2 from by repeat (first | (with_reducible first | exact HI0.out | apply IsS102.alloc | apply IsS102.drewN | apply IsS102.drew | apply IsS102.set_1) | exact HI0.out)) (rs HO_5) (by decide)) hk (fun _ h => h.2)) (fun _ h => h.1)); have n1_ := Aside0.mk (KeepBut.trans (by repeat (first | (with_reducible first | exact HK.out | apply KeepBut.set_ | apply keep_drewN | apply keep_drew | apply keep_alloc) | exact HK.out)) hk (.inl rfl)); have n2_ := Aside0.mk (hb); have n3_ := Aside0.mk (hi); clear HO_5; clear HK; clear HB; clear HI0; have HO_5 := n0_; have HK := n1_; have HB := n2_; have HI0 := n3_; clear n0_ n1_ n2_ n3_; (try clear hb); (try clear hb2); (try clear hk); (try clear hi)) | ((with_reducible refine gate_builtin (b := .append) (xs := #[.tmp 36, .tmp 39]) rfl ?_); at_builtin; refine Kd.R_append k24 w.heap.size rfl (.tmp 36) (.tmp 39) 31 24 (.agg #[(.bool false), (.int .i64 0), (.int .i64 0), (.int .i64 0), (.int .i64 0), (.int .i64 0), (.int .i64 0)]) 56 rfl Try.underlying31 info24 rfl (by decide) (by omega) (.slice Ao31 x5_2.length co31) x5_2 (⟨t321, t322, t323, t324, t325, t326, t327⟩ : S24) [.bool t321, .int .i64 t322, .int .i64 t323, .int .i64 t324, .int .i64 t325, .int .i64 t326, .int .i64 t327] (fun _ => True) (fun _ => False) rfl rfl ?aP (fun _ hk => hk.elim) ?aF ?aO (Below.refl _ _) ?aS ?aL ?_; (case aP => exact k24_mkM _ _ _ (⟨t321, t322, t323, t324, t325, t326, t327⟩ : S24)); (case aF => exact (fun _ _ => trivial)); (case aO => exact (rs HO_5)); (case aS => exact (keep_size (w := w) (g := g) (row := none) (by repeat (first | (with_reducible first | exact HK.out | apply KeepBut.set_ | apply keep_drewN | apply keep_drew | apply keep_alloc) | exact HK.out)))); (case aL => have := LMc30.out; omega); intro v330 w33 ho hb hg hat; rw [← Ny329.out] at ho; have n0_ := Aside0.mk (IsS102.grown (by repeat (first | (with_reducible first | exact HI0.out | apply IsS102.alloc | apply IsS102.drewN | apply IsS102.drew | apply IsS102.set_1) | exact HI0.out)) hg (IsS102.own_ne HI0.out HO_5.out (by decide))); have n1_ := Aside0.mk (below_weaken (by repeat (first | (with_reducible first | exact HB.out | apply below_alloc | apply pw_below_drewN | apply below_drew1 | refine below_set ?_ (IsS102.ge HI0.out)) | exact HB.out)) HL.out hb); have n2_ := Aside0.mk (KeepBut.trans (by repeat (first | (with_reducible first | exact HK.out | apply KeepBut.set_ | apply keep_drewN | apply keep_drew | apply keep_alloc) | exact HK.out)) (KeepBut.of_grown hg g) (Kd.R_base2 HO_5.out)); have n3_ := Aside0.mk (ho); clear HI0; clear HB; clear HK; clear HO_5; have HI0 := n0_; have HB := n1_; have HK := n2_; have HO331 := n3_; clear n0_ n1_ n2_ n3_; clear ho hb hg hat))
                  go_roundg k2
                  case measure => have := HJ3.out; have := HK2.out; omega
                  case rel => exact ⟨(y329), (t328), H', ⟨by have := HJ3.out; have := HK2.out; omega⟩, ⟨by (with_reducible repeat apply ru); exact HO331.out⟩, ⟨by repeat (first | (with_reducible first | exact HI0.out | apply IsS102.alloc | apply IsS102.drewN | apply IsS102.drew | apply IsS102.set_1) | exact HI0.out)⟩, ⟨by repeat (first | (with_reducible first | exact HK.out | apply KeepBut.set_ | apply keep_drewN | apply keep_drew | apply keep_alloc) | exact HK.out)⟩, ⟨by repeat (first | (with_reducible first | exact HB.out | apply below_alloc | apply pw_below_drewN | apply below_drew1 | refine below_set ?_ (IsS102.ge HI0.out)) | exact HB.out)⟩⟩
                · rw [if_neg c30] at H
                  exact absurd H (by simp)
              · rw [if_neg c28] at H
                have c28b0 : decide ((x5_2.length : Int) ≤ 5) = false := decide_eq_false c28
                have c28b1 : decide (x5_2.length ≤ 5) = false := decide_eq_false (by omega)
                clear c28
                simp only [Option.some.injEq, Prod.mk.injEq] at H
                obtain ⟨rfl, rfl⟩ := H
                obtain ⟨Ao34, co34, eo34⟩ := Kd.R_slice HO_5.out
                subst eo34
                go_wp2
                go_ret
                exact ⟨_, by first | rfl | (simp [errW_none, errW_some] <;> rfl) | (simp [*, errW_none, errW_some] <;> rfl), by (with_reducible repeat apply ru); exact HO_5.out, by repeat (first | (with_reducible first | exact HI0.out | apply IsS102.alloc | apply IsS102.drewN | apply IsS102.drew | apply IsS102.set_1) | exact HI0.out), by repeat (first | (with_reducible first | exact HB.out | apply below_alloc | apply pw_below_drewN | apply below_drew1 | refine below_set ?_ (IsS102.ge HI0.out)) | exact HB.out), by repeat (first | (with_reducible first | exact HK.out | apply KeepBut.set_ | apply keep_drewN | apply keep_drew | apply keep_alloc) | exact HK.out)⟩
      · replace c17 := Bool.eq_false_iff.mpr c17
        subst c17
        have H1 : (some (x5_3, t307)) = some (r1, r2) := by rw [if_neg (show ¬ (false = true) by decide)] at H; exact H
        clear H
        have H := H1
        clear H1
        simp only [Option.some.injEq, Prod.mk.injEq] at H
        obtain ⟨rfl, rfl⟩ := H
        go_wp2_with (first | ((with_reducible refine gate_callee (f := 59) rfl ?_); refine goesL_ (some 24) rfl rfl Try.func59 (by kernel_rfl) rfl #[.pointer (some ⟨g, 0, none⟩), .int .i64 a1] rfl (by (try simp only [List.map_toArray, List.map_cons, List.map_nil]); first | done | rfl | (simp only [List.length_drop, List.length_take]; rfl)) ?_; (with_reducible refine (spec_l20Rd_odd.calls kj3 g s0_0 x1001_3 a1 false t307 w0 _ ?side1 ?side2 A16.out).mono ?_); (case side1 => repeat (first | (with_reducible first | exact HI0.out | apply IsS102.alloc | apply IsS102.drewN | apply IsS102.drew | apply IsS102.set_1) | exact HI0.out)); (case side2 => repeat (first | (with_reducible first | exact HB.out | apply below_alloc | apply pw_below_drewN | apply below_drew1 | refine below_set ?_ (IsS102.ge HI0.out)) | exact HB.out)); rintro e w35 ⟨rfl, hi, hb, hk⟩; refine ⟨_, rfl, ?_⟩; have n0_ := Aside0.mk (Kd.R_mono (Kd.R_keep (IsS102.apart (show IsS102 w0 _ g s0_0 x1001_3 from by repeat (first | (with_reducible first | exact HI0.out | apply IsS102.alloc | apply IsS102.drewN | apply IsS102.drew | apply IsS102.set_1) | exact HI0.out)) (rs HO_5) (by decide)) hk (fun _ h => h.2)) (fun _ h => h.1)); have n1_ := Aside0.mk (KeepBut.trans (by repeat (first | (with_reducible first | exact HK.out | apply KeepBut.set_ | apply keep_drewN | apply keep_drew | apply keep_alloc) | exact HK.out)) hk (.inl rfl)); have n2_ := Aside0.mk (hb); have n3_ := Aside0.mk (hi); clear HO_5; clear HK; clear HB; clear HI0; have HO_5 := n0_; have HK := n1_; have HB := n2_; have HI0 := n3_; clear n0_ n1_ n2_ n3_; (try clear hb); (try clear hb2); (try clear hk); (try clear hi)))
        go_ret
        exact ⟨_, by first | rfl | (simp [errW_none, errW_some] <;> rfl) | (simp [*, errW_none, errW_some] <;> rfl), by (with_reducible repeat apply ru); exact HO_5.out, by repeat (first | (with_reducible first | exact HI0.out | apply IsS102.alloc | apply IsS102.drewN | apply IsS102.drew | apply IsS102.set_1) | exact HI0.out), by repeat (first | (with_reducible first | exact HB.out | apply below_alloc | apply pw_below_drewN | apply below_drew1 | refine below_set ?_ (IsS102.ge HI0.out)) | exact HB.out), by repeat (first | (with_reducible first | exact HK.out | apply KeepBut.set_ | apply keep_drewN | apply keep_drew | apply keep_alloc) | exact HK.out)⟩

end Go.Proofs.Ytiocgkggegahhaa.P

-- written by hw.py for this claim
namespace Go.Proofs.Ytiocgkggegahhaa.P
open Go.RowKit Go.Proofs.YtiocgkggegahhaaUFnExactRulMay.PrintWords Go.Proofs.YtiocgkggegahhaaUFnExactRulMay.PrintLast Go.Proofs.YtiocgkggegahhaaUFnExactRulMay.PrintMore
attribute [local go_sem] max2_int min2_int max_two min_two max_three min_three max_four min_four
set_option linter.unusedVariables false
set_option linter.unusedSimpArgs false

/-! ### spec_DrawRulMay: function 21 -/
mutual
def spec_DrawRulMay.j1 : Nat → List (S24) → List Int → Int → Option ((List (S24)) × Int × Int × Int × Int)
  | 0, _, _, _ => none
  | k + 1, x6, x380000, x380001 => (spec_l20Rd_odd.f k x380000 x380001 9).bind fun bt397 => (if bt397.1 = true then ((spec_l20End.f k x380000 bt397.2 3).bind fun bt399 => ((spec_l20End.f k x380000 bt399.2.2 3).bind fun bt402 => (some (x6, bt399.1, bt399.2.1, bt402.1, bt402.2.1)))) else ((spec_l20In.f k x380000 bt397.2).bind fun bt405 => ((spec_l20Out.f k x380000 bt405.2.2).bind fun bt408 => (some (x6, bt405.1, bt405.2.1, bt408.1, bt408.2.1)))))
def spec_DrawRulMay.l0 : Nat → List (S24) → Int → List Int → Int → Option ((List (S24)) × Int × Int × Int × Int)
  | 0, _, _, _, _ => none
  | k + 1, x6, x7, x380000, x380001 => if x7 > 0 then (if (x6.length : Int) < 5 then ((spec_l20Rule.f k x380000 x380001 99999).bind fun bt386 => (if x6.length < 2513169434916 then (spec_DrawRulMay.l0 k (x6 ++ [(⟨bt386.1, bt386.2.1, bt386.2.2.1, bt386.2.2.2.1, bt386.2.2.2.2.1, bt386.2.2.2.2.2.1, bt386.2.2.2.2.2.2.1⟩ : S24)]) (wrap64 (x7 - 1)) x380000 bt386.2.2.2.2.2.2.2) else (none))) else (spec_DrawRulMay.j1 k x6 x380000 x380001)) else (spec_DrawRulMay.j1 k x6 x380000 x380001)
end
def spec_DrawRulMay.f (k : Nat) (l0 : List Int) : Option ((List (S24)) × Int × Int × Int × Int) := (spec_l20Open.f l0).bind fun bt377 => ((spec_l20Rules.f k bt377.1 bt377.2 9).bind fun bt380 => ((spec_l20Rd_pick.f k bt377.1 bt380.2 3).bind fun bt384 => (spec_DrawRulMay.l0 k bt380.1 bt384.1 bt377.1 bt384.2)))
theorem spec_DrawRulMay.mono_l : ∀ k, (∀ y0 y1 y2, LeO (spec_DrawRulMay.j1 k y0 y1 y2) (spec_DrawRulMay.j1 (k + 1) y0 y1 y2)) ∧ (∀ y0 y1 y2 y3, LeO (spec_DrawRulMay.l0 k y0 y1 y2 y3) (spec_DrawRulMay.l0 (k + 1) y0 y1 y2 y3))
  | 0 => ⟨fun _ _ _ r h => by simp [spec_DrawRulMay.j1] at h, fun _ _ _ _ r h => by simp [spec_DrawRulMay.l0] at h⟩
  | k + 1 => by
    obtain ⟨ih0, ih1⟩ := spec_DrawRulMay.mono_l k
    refine ⟨?_, ?_⟩
    · intro y0 y1 y2
      unfold spec_DrawRulMay.j1
      repeat' first
      | (with_reducible exact ih0 _ _ _)
      | (with_reducible exact ih1 _ _ _ _)
      | (with_reducible exact spec_l20End.mono _ _ _ _)
      | (with_reducible exact spec_l20In.mono _ _ _)
      | (with_reducible exact spec_l20Out.mono _ _ _)
      | (with_reducible exact spec_l20Rd_odd.mono _ _ _ _)
      | (with_reducible exact spec_l20Rd_pick.mono _ _ _ _)
      | (with_reducible exact spec_l20Rule.mono _ _ _ _)
      | (with_reducible exact spec_l20Rules.mono _ _ _ _)
      | (with_reducible exact LeO.refl _)
      | (with_reducible exact LeO.none _)
      | (with_reducible refine LeO.ite ?_ ?_)
      | (with_reducible refine LeO.bind ?_ (fun _ => ?_))
      | exact ih0 _ _ _
      | exact ih1 _ _ _ _
      | exact spec_l20End.mono _ _ _ _
      | exact spec_l20In.mono _ _ _
      | exact spec_l20Out.mono _ _ _
      | exact spec_l20Rd_odd.mono _ _ _ _
      | exact spec_l20Rd_pick.mono _ _ _ _
      | exact spec_l20Rule.mono _ _ _ _
      | exact spec_l20Rules.mono _ _ _ _
      | exact LeO.none _
      | refine LeO.ite ?_ ?_
      | refine LeO.bind ?_ (fun _ => ?_)
    · intro y0 y1 y2 y3
      unfold spec_DrawRulMay.l0
      repeat' first
      | (with_reducible exact ih0 _ _ _)
      | (with_reducible exact ih1 _ _ _ _)
      | (with_reducible exact spec_l20End.mono _ _ _ _)
      | (with_reducible exact spec_l20In.mono _ _ _)
      | (with_reducible exact spec_l20Out.mono _ _ _)
      | (with_reducible exact spec_l20Rd_odd.mono _ _ _ _)
      | (with_reducible exact spec_l20Rd_pick.mono _ _ _ _)
      | (with_reducible exact spec_l20Rule.mono _ _ _ _)
      | (with_reducible exact spec_l20Rules.mono _ _ _ _)
      | (with_reducible exact LeO.refl _)
      | (with_reducible exact LeO.none _)
      | (with_reducible refine LeO.ite ?_ ?_)
      | (with_reducible refine LeO.bind ?_ (fun _ => ?_))
      | exact ih0 _ _ _
      | exact ih1 _ _ _ _
      | exact spec_l20End.mono _ _ _ _
      | exact spec_l20In.mono _ _ _
      | exact spec_l20Out.mono _ _ _
      | exact spec_l20Rd_odd.mono _ _ _ _
      | exact spec_l20Rd_pick.mono _ _ _ _
      | exact spec_l20Rule.mono _ _ _ _
      | exact spec_l20Rules.mono _ _ _ _
      | exact LeO.none _
      | refine LeO.ite ?_ ?_
      | refine LeO.bind ?_ (fun _ => ?_)
theorem spec_DrawRulMay.mono : ∀ a0 k, LeO (spec_DrawRulMay.f k a0) (spec_DrawRulMay.f (k + 1) a0) := by
  intro a0 k
  obtain ⟨ih0, ih1⟩ := spec_DrawRulMay.mono_l k
  unfold spec_DrawRulMay.f
  repeat' first
      | (with_reducible exact ih0 _ _ _)
      | (with_reducible exact ih1 _ _ _ _)
      | (with_reducible exact spec_l20End.mono _ _ _ _)
      | (with_reducible exact spec_l20In.mono _ _ _)
      | (with_reducible exact spec_l20Out.mono _ _ _)
      | (with_reducible exact spec_l20Rd_odd.mono _ _ _ _)
      | (with_reducible exact spec_l20Rd_pick.mono _ _ _ _)
      | (with_reducible exact spec_l20Rule.mono _ _ _ _)
      | (with_reducible exact spec_l20Rules.mono _ _ _ _)
      | (with_reducible exact LeO.refl _)
      | (with_reducible exact LeO.none _)
      | (with_reducible refine LeO.ite ?_ ?_)
      | (with_reducible refine LeO.bind ?_ (fun _ => ?_))
      | exact ih0 _ _ _
      | exact ih1 _ _ _ _
      | exact spec_l20End.mono _ _ _ _
      | exact spec_l20In.mono _ _ _
      | exact spec_l20Out.mono _ _ _
      | exact spec_l20Rd_odd.mono _ _ _ _
      | exact spec_l20Rd_pick.mono _ _ _ _
      | exact spec_l20Rule.mono _ _ _ _
      | exact spec_l20Rules.mono _ _ _ _
      | exact LeO.none _
      | refine LeO.ite ?_ ?_
      | refine LeO.bind ?_ (fun _ => ?_)
set_option maxHeartbeats 8000000 in
set_option maxRecDepth 100000 in
theorem spec_DrawRulMay.calls (k : Nat) (A0 : Option Addr) (c0 : Nat) (l0 : List Int) (r1 : List (S24)) (r2 : Int) (r3 : Int) (r4 : Int) (r5 : Int) (w : World) (hr0 : Kd.C (Kd.int .u8) w A0 l0.length l0) (hc0 : l0.length ≤ c0) (h : spec_DrawRulMay.f k l0 = some (r1, r2, r3, r4, r5)) :
    Calls Try.prog 21 #[.slice A0 l0.length c0] w fun e w' => ∃ v0_ : Value, e = .returned (.tuple #[v0_, .agg #[.int .i64 r2, .int .i64 r3], .agg #[.int .i64 r4, .int .i64 r5]]) ∧ Kd.R k24 24 w' w.heap.size (fun _ => True) v0_ r1 ∧ Below w.heap.size w w' := by
  have hu29 := Try.underlying29
  have HR0 := Aside0.mk hr0
  have HC0 := Aside0.mk hc0
  clear hr0 hc0
  have HB := Aside0.mk (Below.refl w.heap.size w)
  have H : ((spec_l20Open.f l0).bind fun bt377 => ((spec_l20Rules.f k bt377.1 bt377.2 9).bind fun bt380 => ((spec_l20Rd_pick.f k bt377.1 bt380.2 3).bind fun bt384 => (spec_DrawRulMay.l0 k bt380.1 bt384.1 bt377.1 bt384.2)))) = some (r1, r2, r3, r4, r5) := h
  clear h
  replace H := Option.bind_eq_some_iff.mp H
  obtain ⟨⟨t377, t378⟩, A20, H⟩ := H
  replace H : ((spec_l20Rules.f k t377 t378 9).bind fun bt380 => ((spec_l20Rd_pick.f k t377 bt380.2 3).bind fun bt384 => (spec_DrawRulMay.l0 k bt380.1 bt384.1 t377 bt384.2))) = some (r1, r2, r3, r4, r5) := H
  have A2 := Aside0.mk A20
  clear A20
  replace H := Option.bind_eq_some_iff.mp H
  obtain ⟨⟨t380, t383⟩, A30, H⟩ := H
  replace H : ((spec_l20Rd_pick.f k t377 t383 3).bind fun bt384 => (spec_DrawRulMay.l0 k t380 bt384.1 t377 bt384.2)) = some (r1, r2, r3, r4, r5) := H
  have A3 := Aside0.mk A30
  clear A30
  replace H := Option.bind_eq_some_iff.mp H
  obtain ⟨⟨t384, t385⟩, A40, H⟩ := H
  replace H : (spec_DrawRulMay.l0 k t380 t384 t377 t385) = some (r1, r2, r3, r4, r5) := H
  have A4 := Aside0.mk A40
  clear A40
  have HC5 := Aside0.mk H
  clear H
  go_enter Try.func21, Try.ntmps21
  go_upto_block 0 with (first | ((with_reducible refine gate_dst (N := 3) rfl ?_); refine box_event ?hg (N := 3) ?hd (cs := #[.int .i64 0, .int .i64 0]) (t := 29) ?hr ?_; (case hd => rfl); (case hg => rfl); (case hr => first | (go_simp; done) | (go_simp; rfl)); intro gb375 hg w6 hbox hb; have n0_ := Aside0.mk (below_step (bl HB) hb); have n1_ := Aside0.mk (hbox); have n2_ := Aside0.mk ((by rw [hg]; exact (below_size (bl HB)) : w.heap.size ≤ gb375)); have n3_ := Aside0.mk ((by rw [hg]; exact (below_size (bl HB)) : w.heap.size ≤ gb375)); clear HB; have HB := n0_; have BK375 := n1_; have GW375 := n2_; have GE375 := n3_; clear n0_ n1_ n2_ n3_; clear hb hbox hg) | ((with_reducible refine gate_dst (N := 4) rfl ?_); refine box_event ?hg (N := 4) ?hd (cs := #[.int .i64 0, .int .i64 0]) (t := 29) ?hr ?_; (case hd => rfl); (case hg => rfl); (case hr => first | (go_simp; done) | (go_simp; rfl)); intro gb376 hg w7 hbox hb; have n0_ := bkB BK375 hb; have n1_ := Aside0.mk (below_step (bl HB) hb); have n2_ := Aside0.mk (hbox); have n3_ := Aside0.mk ((by rw [hg]; exact (below_size (bl HB)) : w.heap.size ≤ gb376)); have n4_ := Aside0.mk ((by rw [hg]; exact (below_size (bl HB)) : w.heap.size ≤ gb376)); have n5_ := Aside0.mk ((by rw [hg]; exact Nat.ne_of_lt (bkL BK375) : gb375 ≠ gb376)); have n6_ := Aside0.mk ((by rw [hg]; exact Nat.ne_of_gt (bkL BK375) : gb376 ≠ gb375)); clear BK375; clear HB; have BK375 := n0_; have HB := n1_; have BK376 := n2_; have GW376 := n3_; have GE376 := n4_; have NB375_376 := n5_; have NB376_375 := n6_; clear n0_ n1_ n2_ n3_ n4_ n5_ n6_; clear hb hbox hg) | ((with_reducible refine gate_callee (f := 45) rfl ?_); refine goesL_ (some 9) rfl rfl Try.func45 (by kernel_rfl) rfl #[.slice A0 l0.length c0] rfl (by (try simp only [List.map_toArray, List.map_cons, List.map_nil]); first | done | rfl | (simp only [List.length_drop, List.length_take]; rfl)) ?_; (with_reducible refine (spec_l20Open.calls _ _ l0 t377 t378 w _ ?side1 ?side2 ?side3 A2.out).mono ?_); (case side1 => repeat (first | (with_reducible first | exact HB.out | apply below_alloc | apply pw_below_drewN | apply below_drew1 | refine below_set ?_ GE375.out | refine below_set ?_ GE376.out) | exact HB.out)); (case side2 => exact HR0.out); (case side3 => exact HC0.out); rintro e w8 ⟨g379, rfl, hi, hb, hb2⟩; refine ⟨_, rfl, ?_⟩; have n0_ := Aside0.mk (blk_below (g := gb375) (o := .cells #[.int .i64 0, .int .i64 0] 29 (0, 0)) (bk BK375) hb2); have n1_ := Aside0.mk (blk_below (g := gb376) (o := .cells #[.int .i64 0, .int .i64 0] 29 (0, 0)) (bk BK376) hb2); have n2_ := Aside0.mk (hb); have n3_ := Aside0.mk (hi); have n4_ := Aside0.mk (IsS102.ne_blk hi (blk_below (g := gb375) (o := .cells #[.int .i64 0, .int .i64 0] 29 (0, 0)) (bk BK375) hb2) (by decide)); have n5_ := Aside0.mk (Ne.symm (IsS102.ne_blk hi (blk_below (g := gb375) (o := .cells #[.int .i64 0, .int .i64 0] 29 (0, 0)) (bk BK375) hb2) (by decide))); have n6_ := Aside0.mk (IsS102.ne_blk hi (blk_below (g := gb376) (o := .cells #[.int .i64 0, .int .i64 0] 29 (0, 0)) (bk BK376) hb2) (by decide)); have n7_ := Aside0.mk (Ne.symm (IsS102.ne_blk hi (blk_below (g := gb376) (o := .cells #[.int .i64 0, .int .i64 0] 29 (0, 0)) (bk BK376) hb2) (by decide))); clear BK375; clear BK376; clear HB; have BK375 := n0_; have BK376 := n1_; have HB := n2_; have HI379 := n3_; have NB379_375 := n4_; have NB375_379 := n5_; have NB379_376 := n6_; have NB376_379 := n7_; clear n0_ n1_ n2_ n3_ n4_ n5_ n6_ n7_; (try clear hb); (try clear hb2); (try clear hk); (try clear hi)) | ((with_reducible refine gate_callee (f := 57) rfl ?_); refine goesL_ (some 11) rfl rfl Try.func57 (by kernel_rfl) rfl #[.pointer (some ⟨g379, 0, none⟩), .int .i64 9] rfl (by (try simp only [List.map_toArray, List.map_cons, List.map_nil]); first | done | rfl | (simp only [List.length_drop, List.length_take]; rfl)) ?_; (with_reducible refine (spec_l20Rules.calls k g379 t377 t378 9 t380 t383 w _ ?side1 ?side2 A3.out).mono ?_); (case side1 => repeat (first | (with_reducible first | exact HI379.out | apply IsS102.alloc | apply IsS102.drewN | apply IsS102.drew | apply IsS102.set_1 | refine IsS102.far ?_ NB379_375.out _ | refine IsS102.far ?_ NB379_376.out _) | exact HI379.out)); (case side2 => repeat (first | (with_reducible first | exact HB.out | apply below_alloc | apply pw_below_drewN | apply below_drew1 | refine below_set ?_ (IsS102.ge HI379.out) | refine below_set ?_ GE375.out | refine below_set ?_ GE376.out) | exact HB.out)); rintro e w9 ⟨v381, rfl, ho0, hi, hb, hk⟩; refine ⟨_, rfl, ?_⟩; have n0_ := Aside0.mk (KeepBut.blk hk (g' := gb375) (o := .cells #[.int .i64 0, .int .i64 0] 29 (0, 0)) (bk BK375) NB375_379.out (by simp)); have n1_ := Aside0.mk (KeepBut.blk hk (g' := gb376) (o := .cells #[.int .i64 0, .int .i64 0] 29 (0, 0)) (bk BK376) NB376_379.out (by simp)); have n2_ := Aside0.mk (Kd.R_lower ho0 (below_size (by repeat (first | (with_reducible first | exact HB.out | apply below_alloc | apply pw_below_drewN | apply below_drew1 | refine below_set ?_ (IsS102.ge HI379.out) | refine below_set ?_ GE375.out | refine below_set ?_ GE376.out) | exact HB.out)))); have n3_ := Aside0.mk (hb); have n4_ := Aside0.mk (hi); clear BK375; clear BK376; clear HB; clear HI379; have BK375 := n0_; have BK376 := n1_; have HO382 := n2_; have HB := n3_; have HI379 := n4_; clear n0_ n1_ n2_ n3_ n4_; (try clear hb); (try clear hb2); (try clear hk); (try clear hi); (try clear ho0)) | ((with_reducible refine gate_callee (f := 58) rfl ?_); refine goesL_ (some 13) rfl rfl Try.func58 (by kernel_rfl) rfl #[.pointer (some ⟨g379, 0, none⟩), .int .i64 3] rfl (by (try simp only [List.map_toArray, List.map_cons, List.map_nil]); first | done | rfl | (simp only [List.length_drop, List.length_take]; rfl)) ?_; (with_reducible refine (spec_l20Rd_pick.calls k g379 t377 t383 3 t384 t385 w _ ?side1 ?side2 A4.out).mono ?_); (case side1 => repeat (first | (with_reducible first | exact HI379.out | apply IsS102.alloc | apply IsS102.drewN | apply IsS102.drew | apply IsS102.set_1 | refine IsS102.far ?_ NB379_375.out _ | refine IsS102.far ?_ NB379_376.out _) | exact HI379.out)); (case side2 => repeat (first | (with_reducible first | exact HB.out | apply below_alloc | apply pw_below_drewN | apply below_drew1 | refine below_set ?_ (IsS102.ge HI379.out) | refine below_set ?_ GE375.out | refine below_set ?_ GE376.out) | exact HB.out)); rintro e w10 ⟨rfl, hi, hb, hk⟩; refine ⟨_, rfl, ?_⟩; have n0_ := Aside0.mk (KeepBut.blk hk (g' := gb375) (o := .cells #[.int .i64 0, .int .i64 0] 29 (0, 0)) (bk BK375) NB375_379.out (by simp)); have n1_ := Aside0.mk (KeepBut.blk hk (g' := gb376) (o := .cells #[.int .i64 0, .int .i64 0] 29 (0, 0)) (bk BK376) NB376_379.out (by simp)); have n2_ := Aside0.mk (Kd.R_mono (Kd.R_keep (IsS102.apart (show IsS102 w _ g379 t377 t383 from by repeat (first | (with_reducible first | exact HI379.out | apply IsS102.alloc | apply IsS102.drewN | apply IsS102.drew | apply IsS102.set_1 | refine IsS102.far ?_ NB379_375.out _ | refine IsS102.far ?_ NB379_376.out _) | exact HI379.out)) (rs HO382) (by decide)) hk (fun _ h => h.2)) (fun _ h => h.1)); have n3_ := Aside0.mk (hb); have n4_ := Aside0.mk (hi); clear BK375; clear BK376; clear HO382; clear HB; clear HI379; have BK375 := n0_; have BK376 := n1_; have HO382 := n2_; have HB := n3_; have HI379 := n4_; clear n0_ n1_ n2_ n3_ n4_; (try clear hb); (try clear hb2); (try clear hk); (try clear hi)))
  (try simp only [Act.put, List.setIfInBounds_toArray, List.set_cons_zero, List.set_cons_succ])
  go_cut [6] (fun v6 wc => ∃ (kq : Nat) (x6_4 : List (S24)) (x380001_4 : Int), Aside0 (spec_DrawRulMay.j1 kq x6_4 t377 x380001_4 = some (r1, r2, r3, r4, r5)) ∧ Aside0 (kq ≤ k) ∧ Aside0 (Kd.R k24 24 wc w.heap.size (fun _ => True) v6 x6_4) ∧ Aside0 (wc.heap[gb375]? = some (.cells #[.int .i64 0, .int .i64 0] 29 (0, 0))) ∧ Aside0 (wc.heap[gb376]? = some (.cells #[.int .i64 0, .int .i64 0] 29 (0, 0))) ∧ Aside0 (IsS102 w wc g379 t377 x380001_4) ∧ Aside0 (Below w.heap.size w wc))
  case first =>
    have H := HC5.out
    clear HC5
    have H' := Aside0.mk H
    clear H
    go_wp2
    go_loopg [6, 7] k (fun kq v6 v7 w' => ∃ (x6_1 : List (S24)) (x7_1 : Int) (x380001_1 : Int), v7 = .int .i64 x7_1 ∧ Aside0 (spec_DrawRulMay.l0 kq x6_1 x7_1 t377 x380001_1 = some (r1, r2, r3, r4, r5)) ∧ Aside0 (kq ≤ k) ∧ Aside0 (Kd.R k24 24 w' w.heap.size (fun _ => True) v6 x6_1) ∧ Aside0 (w'.heap[gb375]? = some (.cells #[.int .i64 0, .int .i64 0] 29 (0, 0))) ∧ Aside0 (w'.heap[gb376]? = some (.cells #[.int .i64 0, .int .i64 0] 29 (0, 0))) ∧ Aside0 (IsS102 w w' g379 t377 x380001_1) ∧ Aside0 (Below w.heap.size w w'))
    case atStart => exact ⟨(t380), (t384), (t385), (by first | rfl | (simp; done) | (simp [*]; done)), H', ⟨Nat.le_refl _⟩, ⟨by (with_reducible repeat apply ru); exact HO382.out⟩, ⟨by (with_reducible repeat refine bu ?_); exact BK375.out⟩, ⟨by (with_reducible repeat refine bu ?_); exact BK376.out⟩, ⟨by repeat (first | (with_reducible first | exact HI379.out | apply IsS102.alloc | apply IsS102.drewN | apply IsS102.drew | apply IsS102.set_1 | refine IsS102.far ?_ NB379_375.out _ | refine IsS102.far ?_ NB379_376.out _) | exact HI379.out)⟩, ⟨by repeat (first | (with_reducible first | exact HB.out | apply below_alloc | apply pw_below_drewN | apply below_drew1 | refine below_set ?_ (IsS102.ge HI379.out) | refine below_set ?_ GE375.out | refine below_set ?_ GE376.out) | exact HB.out)⟩⟩
    case round =>
      clear H'
      try clear c2
      try clear p2
      try clear c4
      try clear c5
      obtain ⟨x6_1, x7_1, x380001_1, rfl, HA, HK1, HO_6, BK375, BK376, HI379, HB⟩ := hrel
      cases gk with
      | zero => exact absurd HA.out (by simp [spec_DrawRulMay.l0])
      | succ k1 =>
        have H := HA.out
        clear HA
        simp only [spec_DrawRulMay.l0] at H
        by_cases c11 : x7_1 > 0
        · rw [if_pos c11] at H
          have c11b0 : decide (0 < x7_1) = true := decide_eq_true c11
          clear c11
          (first | rw [c11b0] | (simp only [i64_w, i32_w]; rw [c11b0]) | skip)
          by_cases c12 : (x6_1.length : Int) < 5
          · rw [if_pos c12] at H
            have c12b0 : decide ((x6_1.length : Int) < 5) = true := decide_eq_true c12
            have c12b1 : decide (x6_1.length < 5) = true := decide_eq_true (by omega)
            clear c12
            replace H := Option.bind_eq_some_iff.mp H
            obtain ⟨⟨t386, t387, t388, t389, t390, t391, t392, t393⟩, A130, H⟩ := H
            replace H : (if x6_1.length < 2513169434916 then (spec_DrawRulMay.l0 k1 (x6_1 ++ [(⟨t386, t387, t388, t389, t390, t391, t392⟩ : S24)]) (wrap64 (x7_1 - 1)) t377 t393) else (none)) = some (r1, r2, r3, r4, r5) := H
            have A13 := Aside0.mk A130
            clear A130
            by_cases c14 : x6_1.length < 2513169434916
            · rw [if_pos c14] at H
              have LMc14 := Aside0.mk c14
              clear c14
              obtain ⟨y394, hy394⟩ : ∃ y_ : List (S24), y_ = (x6_1 ++ [(⟨t386, t387, t388, t389, t390, t391, t392⟩ : S24)]) := ⟨_, rfl⟩
              replace H : (spec_DrawRulMay.l0 k1 y394 (wrap64 (x7_1 - 1)) t377 t393) = some (r1, r2, r3, r4, r5) := by first | (rw [hy394]; with_reducible exact H) | (have H2_ := (Option.bind_some _ _).symm.trans H; rw [hy394]; with_reducible exact H2_) | (have H2_ := (Option.bind_some _ _).symm.trans H; with_reducible exact H2_) | with_reducible exact H | (rw [hy394]; exact H) | exact H
              have Ny394 := Aside0.mk hy394
              clear hy394
              have H' := Aside0.mk H
              clear H
              obtain ⟨Ao15, co15, eo15⟩ := Kd.R_slice HO_6.out
              subst eo15
              go_wp2_with (first | ((with_reducible refine gate_callee (f := 44) rfl ?_); refine goesL_ (some 25) rfl rfl Try.func44 (by kernel_rfl) rfl #[.pointer (some ⟨g379, 0, none⟩), .int .i64 99999] rfl (by (try simp only [List.map_toArray, List.map_cons, List.map_nil]); first | done | rfl | (simp only [List.length_drop, List.length_take]; rfl)) ?_; (with_reducible refine (spec_l20Rule.calls k1 g379 t377 x380001_1 99999 t386 t387 t388 t389 t390 t391 t392 t393 w _ ?side1 ?side2 A13.out).mono ?_); (case side1 => repeat (first | (with_reducible first | exact HI379.out | apply IsS102.alloc | apply IsS102.drewN | apply IsS102.drew | apply IsS102.set_1 | refine IsS102.far ?_ NB379_375.out _ | refine IsS102.far ?_ NB379_376.out _) | exact HI379.out)); (case side2 => repeat (first | (with_reducible first | exact HB.out | apply below_alloc | apply pw_below_drewN | apply below_drew1 | refine below_set ?_ (IsS102.ge HI379.out) | refine below_set ?_ GE375.out | refine below_set ?_ GE376.out) | exact HB.out)); rintro e w16 ⟨rfl, hi, hb, hk⟩; refine ⟨_, rfl, ?_⟩; have n0_ := Aside0.mk (Kd.R_mono (Kd.R_keep (IsS102.apart (show IsS102 w _ g379 t377 x380001_1 from by repeat (first | (with_reducible first | exact HI379.out | apply IsS102.alloc | apply IsS102.drewN | apply IsS102.drew | apply IsS102.set_1 | refine IsS102.far ?_ NB379_375.out _ | refine IsS102.far ?_ NB379_376.out _) | exact HI379.out)) (rs HO_6) (by decide)) hk (fun _ h => h.2)) (fun _ h => h.1)); have n1_ := Aside0.mk (KeepBut.blk hk (g' := gb375) (o := .cells #[.int .i64 0, .int .i64 0] 29 (0, 0)) (bk BK375) NB375_379.out (by simp)); have n2_ := Aside0.mk (KeepBut.blk hk (g' := gb376) (o := .cells #[.int .i64 0, .int .i64 0] 29 (0, 0)) (bk BK376) NB376_379.out (by simp)); have n3_ := Aside0.mk (hb); have n4_ := Aside0.mk (hi); clear HO_6; clear BK375; clear BK376; clear HB; clear HI379; have HO_6 := n0_; have BK375 := n1_; have BK376 := n2_; have HB := n3_; have HI379 := n4_; clear n0_ n1_ n2_ n3_ n4_; (try clear hb); (try clear hb2); (try clear hk); (try clear hi)) | ((with_reducible refine gate_builtin (b := .append) (xs := #[.tmp 23, .tmp 26]) rfl ?_); at_builtin; refine Kd.R_append k24 (w0 := w) w.heap.size rfl (.tmp 23) (.tmp 26) 31 24 (.agg #[(.bool false), (.int .i64 0), (.int .i64 0), (.int .i64 0), (.int .i64 0), (.int .i64 0), (.int .i64 0)]) 56 rfl Try.underlying31 info24 rfl (by decide) (by omega) (.slice Ao15 x6_1.length co15) x6_1 (⟨t386, t387, t388, t389, t390, t391, t392⟩ : S24) [.bool t386, .int .i64 t387, .int .i64 t388, .int .i64 t389, .int .i64 t390, .int .i64 t391, .int .i64 t392] (fun _ => True) (fun _ => False) rfl rfl ?aP (fun _ hk => hk.elim) ?aF ?aO ?aB ?aS ?aL ?_; (case aP => exact k24_mkM _ _ _ (⟨t386, t387, t388, t389, t390, t391, t392⟩ : S24)); (case aB => exact (by repeat (first | (with_reducible first | exact HB.out | apply below_alloc | apply pw_below_drewN | apply below_drew1 | refine below_set ?_ (IsS102.ge HI379.out) | refine below_set ?_ GE375.out | refine below_set ?_ GE376.out) | exact HB.out))); (case aF => exact (fun _ _ => trivial)); (case aO => exact (rs HO_6)); (case aS => exact (below_size (by repeat (first | (with_reducible first | exact HB.out | apply below_alloc | apply pw_below_drewN | apply below_drew1 | refine below_set ?_ (IsS102.ge HI379.out) | refine below_set ?_ GE375.out | refine below_set ?_ GE376.out) | exact HB.out)))); (case aL => have := LMc14.out; omega); intro v395 w17 ho hb hg hat; rw [← Ny394.out] at ho; have n0_ := Aside0.mk (blk_grown (g := gb375) (o := .cells #[.int .i64 0, .int .i64 0] 29 (0, 0)) (bk BK375) hg (Kd.R_ne HO_6.out BK375.out (by decide))); have n1_ := Aside0.mk (blk_grown (g := gb376) (o := .cells #[.int .i64 0, .int .i64 0] 29 (0, 0)) (bk BK376) hg (Kd.R_ne HO_6.out BK376.out (by decide))); have n2_ := Aside0.mk (IsS102.grown (by repeat (first | (with_reducible first | exact HI379.out | apply IsS102.alloc | apply IsS102.drewN | apply IsS102.drew | apply IsS102.set_1 | refine IsS102.far ?_ NB379_375.out _ | refine IsS102.far ?_ NB379_376.out _) | exact HI379.out)) hg (IsS102.own_ne HI379.out HO_6.out (by decide))); have n3_ := Aside0.mk (hb); have n4_ := Aside0.mk (ho); clear BK375; clear BK376; clear HI379; clear HB; clear HO_6; have BK375 := n0_; have BK376 := n1_; have HI379 := n2_; have HB := n3_; have HO396 := n4_; clear n0_ n1_ n2_ n3_ n4_; clear ho hb hg hat))
              go_roundg k1
              case measure => have := HK1.out; omega
              case rel => exact ⟨(y394), (wrap64 (x7_1 - 1)), (t393), (by first | rfl | (simp; done) | (simp [*]; done)), H', ⟨by have := HK1.out; omega⟩, ⟨by (with_reducible repeat apply ru); exact HO396.out⟩, ⟨by (with_reducible repeat refine bu ?_); exact BK375.out⟩, ⟨by (with_reducible repeat refine bu ?_); exact BK376.out⟩, ⟨by repeat (first | (with_reducible first | exact HI379.out | apply IsS102.alloc | apply IsS102.drewN | apply IsS102.drew | apply IsS102.set_1 | refine IsS102.far ?_ NB379_375.out _ | refine IsS102.far ?_ NB379_376.out _) | exact HI379.out)⟩, ⟨by repeat (first | (with_reducible first | exact HB.out | apply below_alloc | apply pw_below_drewN | apply below_drew1 | refine below_set ?_ (IsS102.ge HI379.out) | refine below_set ?_ GE375.out | refine below_set ?_ GE376.out) | exact HB.out)⟩⟩
            · rw [if_neg c14] at H
              exact absurd H (by simp)
          · rw [if_neg c12] at H
            have c12b0 : decide ((x6_1.length : Int) < 5) = false := decide_eq_false c12
            have c12b1 : decide (x6_1.length < 5) = false := decide_eq_false (by omega)
            clear c12
            have H' := Aside0.mk H
            clear H
            obtain ⟨Ao18, co18, eo18⟩ := Kd.R_slice HO_6.out
            subst eo18
            go_wp2
            go_meet
            case rel => exact ⟨_, (x6_1), (x380001_1), H', ⟨by have := HK1.out; first | omega | exact Nat.le_refl _⟩, ⟨by (with_reducible repeat apply ru); exact HO_6.out⟩, ⟨by (with_reducible repeat refine bu ?_); exact BK375.out⟩, ⟨by (with_reducible repeat refine bu ?_); exact BK376.out⟩, ⟨by repeat (first | (with_reducible first | exact HI379.out | apply IsS102.alloc | apply IsS102.drewN | apply IsS102.drew | apply IsS102.set_1 | refine IsS102.far ?_ NB379_375.out _ | refine IsS102.far ?_ NB379_376.out _) | exact HI379.out)⟩, ⟨by repeat (first | (with_reducible first | exact HB.out | apply below_alloc | apply pw_below_drewN | apply below_drew1 | refine below_set ?_ (IsS102.ge HI379.out) | refine below_set ?_ GE375.out | refine below_set ?_ GE376.out) | exact HB.out)⟩⟩
        · rw [if_neg c11] at H
          have c11b0 : decide (0 < x7_1) = false := decide_eq_false c11
          clear c11
          (first | rw [c11b0] | (simp only [i64_w, i32_w]; rw [c11b0]) | skip)
          have H' := Aside0.mk H
          clear H
          go_wp2
          go_meet
          case rel => exact ⟨_, (x6_1), (x380001_1), H', ⟨by have := HK1.out; first | omega | exact Nat.le_refl _⟩, ⟨by (with_reducible repeat apply ru); exact HO_6.out⟩, ⟨by (with_reducible repeat refine bu ?_); exact BK375.out⟩, ⟨by (with_reducible repeat refine bu ?_); exact BK376.out⟩, ⟨by repeat (first | (with_reducible first | exact HI379.out | apply IsS102.alloc | apply IsS102.drewN | apply IsS102.drew | apply IsS102.set_1 | refine IsS102.far ?_ NB379_375.out _ | refine IsS102.far ?_ NB379_376.out _) | exact HI379.out)⟩, ⟨by repeat (first | (with_reducible first | exact HB.out | apply below_alloc | apply pw_below_drewN | apply below_drew1 | refine below_set ?_ (IsS102.ge HI379.out) | refine below_set ?_ GE375.out | refine below_set ?_ GE376.out) | exact HB.out)⟩⟩
  case rest =>
    clear HC5
    try clear c1
    try clear c2
    try clear p2
    try clear c4
    try clear c5
    try clear p6
    try clear c11
    try clear c11b0
    try clear c12
    try clear c12b0
    try clear c12b1
    try clear c14
    try clear p2
    obtain ⟨kq, x6_4, x380001_4, HA, HJ4, HO_6, BK375, BK376, HI379, HB⟩ := hcut
    cases kq with
    | zero => exact absurd HA.out (by simp [spec_DrawRulMay.j1])
    | succ kj4 =>
      have H := HA.out
      clear HA
      simp only [spec_DrawRulMay.j1] at H
      replace H := Option.bind_eq_some_iff.mp H
      obtain ⟨⟨t397, t398⟩, A190, H⟩ := H
      replace H : (if t397 = true then ((spec_l20End.f kj4 t377 t398 3).bind fun bt399 => ((spec_l20End.f kj4 t377 bt399.2.2 3).bind fun bt402 => (some (x6_4, bt399.1, bt399.2.1, bt402.1, bt402.2.1)))) else ((spec_l20In.f kj4 t377 t398).bind fun bt405 => ((spec_l20Out.f kj4 t377 bt405.2.2).bind fun bt408 => (some (x6_4, bt405.1, bt405.2.1, bt408.1, bt408.2.1))))) = some (r1, r2, r3, r4, r5) := H
      have A19 := Aside0.mk A190
      clear A190
      by_cases c20 : t397 = true
      · subst c20
        have H1 : ((spec_l20End.f kj4 t377 t398 3).bind fun bt399 => ((spec_l20End.f kj4 t377 bt399.2.2 3).bind fun bt402 => (some (x6_4, bt399.1, bt399.2.1, bt402.1, bt402.2.1)))) = some (r1, r2, r3, r4, r5) := by rw [if_pos rfl] at H; exact H
        clear H
        have H := H1
        clear H1
        replace H := Option.bind_eq_some_iff.mp H
        obtain ⟨⟨t399, t400, t401⟩, A210, H⟩ := H
        replace H : ((spec_l20End.f kj4 t377 t401 3).bind fun bt402 => (some (x6_4, t399, t400, bt402.1, bt402.2.1))) = some (r1, r2, r3, r4, r5) := H
        have A21 := Aside0.mk A210
        clear A210
        replace H := Option.bind_eq_some_iff.mp H
        obtain ⟨⟨t402, t403, t404⟩, A220, H⟩ := H
        replace H : (some (x6_4, t399, t400, t402, t403)) = some (r1, r2, r3, r4, r5) := H
        have A22 := Aside0.mk A220
        clear A220
        simp only [Option.some.injEq, Prod.mk.injEq] at H
        obtain ⟨rfl, rfl, rfl, rfl, rfl⟩ := H
        go_wp2_with (first | ((with_reducible refine gate_callee (f := 59) rfl ?_); refine goesL_ (some 29) rfl rfl Try.func59 (by kernel_rfl) rfl #[.pointer (some ⟨g379, 0, none⟩), .int .i64 9] rfl (by (try simp only [List.map_toArray, List.map_cons, List.map_nil]); first | done | rfl | (simp only [List.length_drop, List.length_take]; rfl)) ?_; (with_reducible refine (spec_l20Rd_odd.calls kj4 g379 t377 x380001_4 9 true t398 w _ ?side1 ?side2 A19.out).mono ?_); (case side1 => repeat (first | (with_reducible first | exact HI379.out | apply IsS102.alloc | apply IsS102.drewN | apply IsS102.drew | apply IsS102.set_1 | refine IsS102.far ?_ NB379_375.out _ | refine IsS102.far ?_ NB379_376.out _) | exact HI379.out)); (case side2 => repeat (first | (with_reducible first | exact HB.out | apply below_alloc | apply pw_below_drewN | apply below_drew1 | refine below_set ?_ (IsS102.ge HI379.out) | refine below_set ?_ GE375.out | refine below_set ?_ GE376.out) | exact HB.out)); rintro e w23 ⟨rfl, hi, hb, hk⟩; refine ⟨_, rfl, ?_⟩; have n0_ := Aside0.mk (Kd.R_mono (Kd.R_keep (IsS102.apart (show IsS102 w _ g379 t377 x380001_4 from by repeat (first | (with_reducible first | exact HI379.out | apply IsS102.alloc | apply IsS102.drewN | apply IsS102.drew | apply IsS102.set_1 | refine IsS102.far ?_ NB379_375.out _ | refine IsS102.far ?_ NB379_376.out _) | exact HI379.out)) (rs HO_6) (by decide)) hk (fun _ h => h.2)) (fun _ h => h.1)); have n1_ := Aside0.mk (KeepBut.blk hk (g' := gb375) (o := .cells #[.int .i64 0, .int .i64 0] 29 (0, 0)) (bk BK375) NB375_379.out (by simp)); have n2_ := Aside0.mk (KeepBut.blk hk (g' := gb376) (o := .cells #[.int .i64 0, .int .i64 0] 29 (0, 0)) (bk BK376) NB376_379.out (by simp)); have n3_ := Aside0.mk (hb); have n4_ := Aside0.mk (hi); clear HO_6; clear BK375; clear BK376; clear HB; clear HI379; have HO_6 := n0_; have BK375 := n1_; have BK376 := n2_; have HB := n3_; have HI379 := n4_; clear n0_ n1_ n2_ n3_ n4_; (try clear hb); (try clear hb2); (try clear hk); (try clear hi)) | ((with_reducible refine gate_callee (f := 60) rfl ?_); refine goesL_ (some 32) rfl rfl Try.func60 (by kernel_rfl) rfl #[.pointer (some ⟨g379, 0, none⟩), .int .i64 3] rfl (by (try simp only [List.map_toArray, List.map_cons, List.map_nil]); first | done | rfl | (simp only [List.length_drop, List.length_take]; rfl)) ?_; (with_reducible refine (spec_l20End.calls kj4 g379 t377 t398 3 t399 t400 t401 w _ ?side1 ?side2 A21.out).mono ?_); (case side1 => repeat (first | (with_reducible first | exact HI379.out | apply IsS102.alloc | apply IsS102.drewN | apply IsS102.drew | apply IsS102.set_1 | refine IsS102.far ?_ NB379_375.out _ | refine IsS102.far ?_ NB379_376.out _) | exact HI379.out)); (case side2 => repeat (first | (with_reducible first | exact HB.out | apply below_alloc | apply pw_below_drewN | apply below_drew1 | refine below_set ?_ (IsS102.ge HI379.out) | refine below_set ?_ GE375.out | refine below_set ?_ GE376.out) | exact HB.out)); rintro e w24 ⟨rfl, hi, hb, hk⟩; refine ⟨_, rfl, ?_⟩; have n0_ := Aside0.mk (Kd.R_mono (Kd.R_keep (IsS102.apart (show IsS102 w _ g379 t377 t398 from by repeat (first | (with_reducible first | exact HI379.out | apply IsS102.alloc | apply IsS102.drewN | apply IsS102.drew | apply IsS102.set_1 | refine IsS102.far ?_ NB379_375.out _ | refine IsS102.far ?_ NB379_376.out _) | exact HI379.out)) (rs HO_6) (by decide)) hk (fun _ h => h.2)) (fun _ h => h.1)); have n1_ := Aside0.mk (KeepBut.blk hk (g' := gb375) (o := .cells #[.int .i64 0, .int .i64 0] 29 (0, 0)) (bk BK375) NB375_379.out (by simp)); have n2_ := Aside0.mk (KeepBut.blk hk (g' := gb376) (o := .cells #[.int .i64 0, .int .i64 0] 29 (0, 0)) (bk BK376) NB376_379.out (by simp)); have n3_ := Aside0.mk (hb); have n4_ := Aside0.mk (hi); clear HO_6; clear BK375; clear BK376; clear HB; clear HI379; have HO_6 := n0_; have BK375 := n1_; have BK376 := n2_; have HB := n3_; have HI379 := n4_; clear n0_ n1_ n2_ n3_ n4_; (try clear hb); (try clear hb2); (try clear hk); (try clear hi)) | ((with_reducible refine gate_callee (f := 60) rfl ?_); refine goesL_ (some 34) rfl rfl Try.func60 (by kernel_rfl) rfl #[.pointer (some ⟨g379, 0, none⟩), .int .i64 3] rfl (by (try simp only [List.map_toArray, List.map_cons, List.map_nil]); first | done | rfl | (simp only [List.length_drop, List.length_take]; rfl)) ?_; (with_reducible refine (spec_l20End.calls kj4 g379 t377 t401 3 t402 t403 t404 w _ ?side1 ?side2 A22.out).mono ?_); (case side1 => repeat (first | (with_reducible first | exact HI379.out | apply IsS102.alloc | apply IsS102.drewN | apply IsS102.drew | apply IsS102.set_1 | refine IsS102.far ?_ NB379_375.out _ | refine IsS102.far ?_ NB379_376.out _) | exact HI379.out)); (case side2 => repeat (first | (with_reducible first | exact HB.out | apply below_alloc | apply pw_below_drewN | apply below_drew1 | refine below_set ?_ (IsS102.ge HI379.out) | refine below_set ?_ GE375.out | refine below_set ?_ GE376.out) | exact HB.out)); rintro e w25 ⟨rfl, hi, hb, hk⟩; refine ⟨_, rfl, ?_⟩; have n0_ := Aside0.mk (Kd.R_mono (Kd.R_keep (IsS102.apart (show IsS102 w _ g379 t377 t401 from by repeat (first | (with_reducible first | exact HI379.out | apply IsS102.alloc | apply IsS102.drewN | apply IsS102.drew | apply IsS102.set_1 | refine IsS102.far ?_ NB379_375.out _ | refine IsS102.far ?_ NB379_376.out _) | exact HI379.out)) (rs HO_6) (by decide)) hk (fun _ h => h.2)) (fun _ h => h.1)); have n1_ := Aside0.mk (KeepBut.blk hk (g' := gb375) (o := .cells #[.int .i64 0, .int .i64 0] 29 (0, 0)) (bk BK375) NB375_379.out (by simp)); have n2_ := Aside0.mk (KeepBut.blk hk (g' := gb376) (o := .cells #[.int .i64 0, .int .i64 0] 29 (0, 0)) (bk BK376) NB376_379.out (by simp)); have n3_ := Aside0.mk (hb); have n4_ := Aside0.mk (hi); clear HO_6; clear BK375; clear BK376; clear HB; clear HI379; have HO_6 := n0_; have BK375 := n1_; have BK376 := n2_; have HB := n3_; have HI379 := n4_; clear n0_ n1_ n2_ n3_ n4_; (try clear hb); (try clear hb2); (try clear hk); (try clear hi); have hnb26 := NB375_376.out; have hnc26 := NB376_375.out; have hnb27 := NB375_379.out; have hnc27 := NB379_375.out; have hcz28_0 : w25.cell? ⟨gb375, 0, none⟩ = some (.int .i64 0) := (blk_cell BK375.out 0).trans rfl; have hcz28_1 : w25.cell? ⟨gb375, 1, none⟩ = some (.int .i64 0) := (blk_cell BK375.out 1).trans rfl; have hfz28_0 := blk_frozen BK375.out 0; have hfz28_1 := blk_frozen BK375.out 1; have hnb29 := NB376_379.out; have hnc29 := NB379_376.out; have hcz30_0 : w25.cell? ⟨gb376, 0, none⟩ = some (.int .i64 0) := (blk_cell BK376.out 0).trans rfl; have hcz30_1 : w25.cell? ⟨gb376, 1, none⟩ = some (.int .i64 0) := (blk_cell BK376.out 1).trans rfl; have hfz30_0 := blk_frozen BK376.out 0; have hfz30_1 := blk_frozen BK376.out 1))
        refine bodyPost_ret (results_list (rs := [.tmp 2, .cell 3 29, .cell 4 29]) rfl (by simp) (.tmp (.cell gb375 29 #[.int .i64 t399, .int .i64 t400] (0, 0) _ rfl (by (with_reducible repeat refine bu ?_); refine blk_far ?_ NB375_376.out _; (with_reducible repeat refine bu ?_); refine blk_far ?_ NB375_376.out _; (with_reducible repeat refine bu ?_); refine blk_put (cs := #[.int .i64 t399, .int .i64 0]) ?_ 1 _ rfl; (with_reducible repeat refine bu ?_); refine blk_put (cs := #[.int .i64 0, .int .i64 0]) ?_ 0 _ rfl; (with_reducible repeat refine bu ?_); exact BK375.out) Try.underlying29 rfl (by kernel_rfl) (.cell gb376 29 #[.int .i64 t402, .int .i64 t403] (0, 0) _ rfl (by (with_reducible repeat refine bu ?_); refine blk_put (cs := #[.int .i64 t402, .int .i64 0]) ?_ 1 _ rfl; (with_reducible repeat refine bu ?_); refine blk_put (cs := #[.int .i64 0, .int .i64 0]) ?_ 0 _ rfl; (with_reducible repeat refine bu ?_); refine blk_far ?_ NB376_375.out _; (with_reducible repeat refine bu ?_); refine blk_far ?_ NB376_375.out _; (with_reducible repeat refine bu ?_); exact BK376.out) Try.underlying29 rfl (by kernel_rfl) .nil)))) rfl ?_
        exact ⟨_, by first | rfl | (simp [errW_none, errW_some] <;> rfl) | (simp [*, errW_none, errW_some] <;> rfl), by (with_reducible repeat apply ru); exact Kd.R_mono (Kd.R_far (p := ⟨gb376, 1, none⟩) (Kd.R_far (p := ⟨gb376, 0, none⟩) (Kd.R_far (p := ⟨gb375, 1, none⟩) (Kd.R_far (p := ⟨gb375, 0, none⟩) (Kd.R_types (Kd.R_types HO_6.out BK375.out (by decide)) BK376.out (by decide)) (fun _ hk => hk.1.2) (.int .i64 t399)) (fun _ hk => hk.1.2) (.int .i64 t400)) (fun _ hk => hk.2) (.int .i64 t402)) (fun _ hk => hk.2) (.int .i64 t403)) (fun _ hk => trivial), by repeat (first | (with_reducible first | exact HB.out | apply below_alloc | apply pw_below_drewN | apply below_drew1 | refine below_set ?_ (IsS102.ge HI379.out) | refine below_set ?_ GE375.out | refine below_set ?_ GE376.out) | exact HB.out)⟩
      · replace c20 := Bool.eq_false_iff.mpr c20
        subst c20
        have H1 : ((spec_l20In.f kj4 t377 t398).bind fun bt405 => ((spec_l20Out.f kj4 t377 bt405.2.2).bind fun bt408 => (some (x6_4, bt405.1, bt405.2.1, bt408.1, bt408.2.1)))) = some (r1, r2, r3, r4, r5) := by rw [if_neg (show ¬ (false = true) by decide)] at H; exact H
        clear H
        have H := H1
        clear H1
        replace H := Option.bind_eq_some_iff.mp H
        obtain ⟨⟨t405, t406, t407⟩, A310, H⟩ := H
        replace H : ((spec_l20Out.f kj4 t377 t407).bind fun bt408 => (some (x6_4, t405, t406, bt408.1, bt408.2.1))) = some (r1, r2, r3, r4, r5) := H
        have A31 := Aside0.mk A310
        clear A310
        replace H := Option.bind_eq_some_iff.mp H
        obtain ⟨⟨t408, t409, t410⟩, A320, H⟩ := H
        replace H : (some (x6_4, t405, t406, t408, t409)) = some (r1, r2, r3, r4, r5) := H
        have A32 := Aside0.mk A320
        clear A320
        simp only [Option.some.injEq, Prod.mk.injEq] at H
        obtain ⟨rfl, rfl, rfl, rfl, rfl⟩ := H
        go_wp2_with (first | ((with_reducible refine gate_callee (f := 59) rfl ?_); refine goesL_ (some 29) rfl rfl Try.func59 (by kernel_rfl) rfl #[.pointer (some ⟨g379, 0, none⟩), .int .i64 9] rfl (by (try simp only [List.map_toArray, List.map_cons, List.map_nil]); first | done | rfl | (simp only [List.length_drop, List.length_take]; rfl)) ?_; (with_reducible refine (spec_l20Rd_odd.calls kj4 g379 t377 x380001_4 9 false t398 w _ ?side1 ?side2 A19.out).mono ?_); (case side1 => repeat (first | (with_reducible first | exact HI379.out | apply IsS102.alloc | apply IsS102.drewN | apply IsS102.drew | apply IsS102.set_1 | refine IsS102.far ?_ NB379_375.out _ | refine IsS102.far ?_ NB379_376.out _) | exact HI379.out)); (case side2 => repeat (first | (with_reducible first | exact HB.out | apply below_alloc | apply pw_below_drewN | apply below_drew1 | refine below_set ?_ (IsS102.ge HI379.out) | refine below_set ?_ GE375.out | refine below_set ?_ GE376.out) | exact HB.out)); rintro e w33 ⟨rfl, hi, hb, hk⟩; refine ⟨_, rfl, ?_⟩; have n0_ := Aside0.mk (Kd.R_mono (Kd.R_keep (IsS102.apart (show IsS102 w _ g379 t377 x380001_4 from by repeat (first | (with_reducible first | exact HI379.out | apply IsS102.alloc | apply IsS102.drewN | apply IsS102.drew | apply IsS102.set_1 | refine IsS102.far ?_ NB379_375.out _ | refine IsS102.far ?_ NB379_376.out _) | exact HI379.out)) (rs HO_6) (by decide)) hk (fun _ h => h.2)) (fun _ h => h.1)); have n1_ := Aside0.mk (KeepBut.blk hk (g' := gb375) (o := .cells #[.int .i64 0, .int .i64 0] 29 (0, 0)) (bk BK375) NB375_379.out (by simp)); have n2_ := Aside0.mk (KeepBut.blk hk (g' := gb376) (o := .cells #[.int .i64 0, .int .i64 0] 29 (0, 0)) (bk BK376) NB376_379.out (by simp)); have n3_ := Aside0.mk (hb); have n4_ := Aside0.mk (hi); clear HO_6; clear BK375; clear BK376; clear HB; clear HI379; have HO_6 := n0_; have BK375 := n1_; have BK376 := n2_; have HB := n3_; have HI379 := n4_; clear n0_ n1_ n2_ n3_ n4_; (try clear hb); (try clear hb2); (try clear hk); (try clear hi)) | ((with_reducible refine gate_callee (f := 61) rfl ?_); refine goesL_ (some 37) rfl rfl Try.func61 (by kernel_rfl) rfl #[.pointer (some ⟨g379, 0, none⟩)] rfl (by (try simp only [List.map_toArray, List.map_cons, List.map_nil]); first | done | rfl | (simp only [List.length_drop, List.length_take]; rfl)) ?_; (with_reducible refine (spec_l20In.calls kj4 g379 t377 t398 t405 t406 t407 w _ ?side1 ?side2 A31.out).mono ?_); (case side1 => repeat (first | (with_reducible first | exact HI379.out | apply IsS102.alloc | apply IsS102.drewN | apply IsS102.drew | apply IsS102.set_1 | refine IsS102.far ?_ NB379_375.out _ | refine IsS102.far ?_ NB379_376.out _) | exact HI379.out)); (case side2 => repeat (first | (with_reducible first | exact HB.out | apply below_alloc | apply pw_below_drewN | apply below_drew1 | refine below_set ?_ (IsS102.ge HI379.out) | refine below_set ?_ GE375.out | refine below_set ?_ GE376.out) | exact HB.out)); rintro e w34 ⟨rfl, hi, hb, hk⟩; refine ⟨_, rfl, ?_⟩; have n0_ := Aside0.mk (Kd.R_mono (Kd.R_keep (IsS102.apart (show IsS102 w _ g379 t377 t398 from by repeat (first | (with_reducible first | exact HI379.out | apply IsS102.alloc | apply IsS102.drewN | apply IsS102.drew | apply IsS102.set_1 | refine IsS102.far ?_ NB379_375.out _ | refine IsS102.far ?_ NB379_376.out _) | exact HI379.out)) (rs HO_6) (by decide)) hk (fun _ h => h.2)) (fun _ h => h.1)); have n1_ := Aside0.mk (KeepBut.blk hk (g' := gb375) (o := .cells #[.int .i64 0, .int .i64 0] 29 (0, 0)) (bk BK375) NB375_379.out (by simp)); have n2_ := Aside0.mk (KeepBut.blk hk (g' := gb376) (o := .cells #[.int .i64 0, .int .i64 0] 29 (0, 0)) (bk BK376) NB376_379.out (by simp)); have n3_ := Aside0.mk (hb); have n4_ := Aside0.mk (hi); clear HO_6; clear BK375; clear BK376; clear HB; clear HI379; have HO_6 := n0_; have BK375 := n1_; have BK376 := n2_; have HB := n3_; have HI379 := n4_; clear n0_ n1_ n2_ n3_ n4_; (try clear hb); (try clear hb2); (try clear hk); (try clear hi)) | ((with_reducible refine gate_callee (f := 62) rfl ?_); refine goesL_ (some 39) rfl rfl Try.func62 (by kernel_rfl) rfl #[.pointer (some ⟨g379, 0, none⟩)] rfl (by (try simp only [List.map_toArray, List.map_cons, List.map_nil]); first | done | rfl | (simp only [List.length_drop, List.length_take]; rfl)) ?_; (with_reducible refine (spec_l20Out.calls kj4 g379 t377 t407 t408 t409 t410 w _ ?side1 ?side2 A32.out).mono ?_); (case side1 => repeat (first | (with_reducible first | exact HI379.out | apply IsS102.alloc | apply IsS102.drewN | apply IsS102.drew | apply IsS102.set_1 | refine IsS102.far ?_ NB379_375.out _ | refine IsS102.far ?_ NB379_376.out _) | exact HI379.out)); (case side2 => repeat (first | (with_reducible first | exact HB.out | apply below_alloc | apply pw_below_drewN | apply below_drew1 | refine below_set ?_ (IsS102.ge HI379.out) | refine below_set ?_ GE375.out | refine below_set ?_ GE376.out) | exact HB.out)); rintro e w35 ⟨rfl, hi, hb, hk⟩; refine ⟨_, rfl, ?_⟩; have n0_ := Aside0.mk (Kd.R_mono (Kd.R_keep (IsS102.apart (show IsS102 w _ g379 t377 t407 from by repeat (first | (with_reducible first | exact HI379.out | apply IsS102.alloc | apply IsS102.drewN | apply IsS102.drew | apply IsS102.set_1 | refine IsS102.far ?_ NB379_375.out _ | refine IsS102.far ?_ NB379_376.out _) | exact HI379.out)) (rs HO_6) (by decide)) hk (fun _ h => h.2)) (fun _ h => h.1)); have n1_ := Aside0.mk (KeepBut.blk hk (g' := gb375) (o := .cells #[.int .i64 0, .int .i64 0] 29 (0, 0)) (bk BK375) NB375_379.out (by simp)); have n2_ := Aside0.mk (KeepBut.blk hk (g' := gb376) (o := .cells #[.int .i64 0, .int .i64 0] 29 (0, 0)) (bk BK376) NB376_379.out (by simp)); have n3_ := Aside0.mk (hb); have n4_ := Aside0.mk (hi); clear HO_6; clear BK375; clear BK376; clear HB; clear HI379; have HO_6 := n0_; have BK375 := n1_; have BK376 := n2_; have HB := n3_; have HI379 := n4_; clear n0_ n1_ n2_ n3_ n4_; (try clear hb); (try clear hb2); (try clear hk); (try clear hi); have hnb36 := NB375_376.out; have hnc36 := NB376_375.out; have hnb37 := NB375_379.out; have hnc37 := NB379_375.out; have hcz38_0 : w35.cell? ⟨gb375, 0, none⟩ = some (.int .i64 0) := (blk_cell BK375.out 0).trans rfl; have hcz38_1 : w35.cell? ⟨gb375, 1, none⟩ = some (.int .i64 0) := (blk_cell BK375.out 1).trans rfl; have hfz38_0 := blk_frozen BK375.out 0; have hfz38_1 := blk_frozen BK375.out 1; have hnb39 := NB376_379.out; have hnc39 := NB379_376.out; have hcz40_0 : w35.cell? ⟨gb376, 0, none⟩ = some (.int .i64 0) := (blk_cell BK376.out 0).trans rfl; have hcz40_1 : w35.cell? ⟨gb376, 1, none⟩ = some (.int .i64 0) := (blk_cell BK376.out 1).trans rfl; have hfz40_0 := blk_frozen BK376.out 0; have hfz40_1 := blk_frozen BK376.out 1))
        refine bodyPost_ret (results_list (rs := [.tmp 2, .cell 3 29, .cell 4 29]) rfl (by simp) (.tmp (.cell gb375 29 #[.int .i64 t405, .int .i64 t406] (0, 0) _ rfl (by (with_reducible repeat refine bu ?_); refine blk_far ?_ NB375_376.out _; (with_reducible repeat refine bu ?_); refine blk_far ?_ NB375_376.out _; (with_reducible repeat refine bu ?_); refine blk_put (cs := #[.int .i64 t405, .int .i64 0]) ?_ 1 _ rfl; (with_reducible repeat refine bu ?_); refine blk_put (cs := #[.int .i64 0, .int .i64 0]) ?_ 0 _ rfl; (with_reducible repeat refine bu ?_); exact BK375.out) Try.underlying29 rfl (by kernel_rfl) (.cell gb376 29 #[.int .i64 t408, .int .i64 t409] (0, 0) _ rfl (by (with_reducible repeat refine bu ?_); refine blk_put (cs := #[.int .i64 t408, .int .i64 0]) ?_ 1 _ rfl; (with_reducible repeat refine bu ?_); refine blk_put (cs := #[.int .i64 0, .int .i64 0]) ?_ 0 _ rfl; (with_reducible repeat refine bu ?_); refine blk_far ?_ NB376_375.out _; (with_reducible repeat refine bu ?_); refine blk_far ?_ NB376_375.out _; (with_reducible repeat refine bu ?_); exact BK376.out) Try.underlying29 rfl (by kernel_rfl) .nil)))) rfl ?_
        exact ⟨_, by first | rfl | (simp [errW_none, errW_some] <;> rfl) | (simp [*, errW_none, errW_some] <;> rfl), by (with_reducible repeat apply ru); exact Kd.R_mono (Kd.R_far (p := ⟨gb376, 1, none⟩) (Kd.R_far (p := ⟨gb376, 0, none⟩) (Kd.R_far (p := ⟨gb375, 1, none⟩) (Kd.R_far (p := ⟨gb375, 0, none⟩) (Kd.R_types (Kd.R_types HO_6.out BK375.out (by decide)) BK376.out (by decide)) (fun _ hk => hk.1.2) (.int .i64 t405)) (fun _ hk => hk.1.2) (.int .i64 t406)) (fun _ hk => hk.2) (.int .i64 t408)) (fun _ hk => hk.2) (.int .i64 t409)) (fun _ hk => trivial), by repeat (first | (with_reducible first | exact HB.out | apply below_alloc | apply pw_below_drewN | apply below_drew1 | refine below_set ?_ (IsS102.ge HI379.out) | refine below_set ?_ GE375.out | refine below_set ?_ GE376.out) | exact HB.out)⟩

end Go.Proofs.Ytiocgkggegahhaa.P

/- What is drawn for rules: always something. -/
namespace Go.Proofs.Ytiocgkggegahhaa.P
open Go.RowKit Go.Proofs.YtiocgkggegahhaaUFnExactRulMay.PrintWords Go.Proofs.YtiocgkggegahhaaUFnExactRulMay.PrintLast Go.Proofs.YtiocgkggegahhaaUFnExactRulMay.PrintMore
set_option linter.unusedVariables false
set_option linter.unusedSimpArgs false
/-- Drawn rules: at most six of them. -/
theorem rules_a {l : List Int} (hl : Bys l) {s B : Int} (hs : At B s) (hB : B < 500000) (n : Int) : Ans (fun k => spec_l20Rules.f k l s n) (fun r => At (B + 200) r.2 ∧ r.1.length ≤ 6) := by
  have L1 : ∀ (m : Nat) (x5 : List S24) (s B : Int), At B s → B + 10 * (m : Int) < 700000 → x5.length + m = 6 → Ans (fun k => spec_l20Rules.l1 k x5 l s) (fun r => At (B + 10 * m) r.2 ∧ r.1.length ≤ 6) := by
    intro m
    induction m with
    | zero =>
      intro x5 s B hs hB hm
      refine Ans.succ ?_
      unfold spec_l20Rules.l1
      exact Ans.neg (by omega) (Ans.pure ⟨at_le hs (by omega), by first | omega | (dsimp only; omega)⟩)
    | succ m ih =>
      intro x5 s B hs hB hm
      refine Ans.succ ?_
      unfold spec_l20Rules.l1
      refine Ans.pos (by omega) (Ans.bind (rule_a hl hs (by omega) 99999) ?_)
      rintro ⟨y0, y1, y2, y3, y4, y5, y6, s1⟩ ⟨h1, _⟩
      dsimp only at *
      refine Ans.pos (by omega) ?_
      refine (ih _ s1 _ h1 (by omega) (by simp; omega)).mono ?_
      rintro r ⟨a, b⟩
      exact ⟨at_le a (by push_cast; omega), b⟩
  have J1 : ∀ (x5 : List S24) (s B : Int), At B s → B < 550000 → x5.length ≤ 4 → Ans (fun k => spec_l20Rules.j1 k n x5 l s) (fun r => At (B + 80) r.2 ∧ r.1.length ≤ 6) := by
    intro x5 s B hs hB hm
    refine Ans.succ ?_
    unfold spec_l20Rules.j1
    refine Ans.bind (odd_a hl hs (by omega) n) ?_
    rintro ⟨b, s1⟩ h1
    dsimp only at *
    refine Ans.ite (fun _ => ?_) (fun _ => Ans.pure ⟨at_le h1 (by omega), by first | omega | (dsimp only; omega)⟩)
    refine Ans.bind (pick_a hl h1 (by omega) 2) ?_
    rintro ⟨v2, s2⟩ ⟨h2, p2⟩
    dsimp only at *
    refine Ans.ite (fun _ => ?_) (fun _ => ?_)
    · refine Ans.bind (rule_a hl h2 (by omega) 1) ?_
      rintro ⟨y0, y1, y2, y3, y4, y5, y6, s3⟩ ⟨h3, _⟩
      dsimp only at *
      exact Ans.pos (by omega) (Ans.pure ⟨at_le h3 (by omega), by simp; omega⟩)
    · refine (L1 (6 - x5.length) x5 s2 _ h2 (by omega) (by omega)).mono ?_
      rintro r ⟨a, b⟩
      exact ⟨at_le a (by omega), b⟩
  have L0 : ∀ (m : Nat) (x5 : List S24) (x6 s B : Int), At B s → B + 10 * (m : Int) < 540000 → x5.length + m ≤ 4 → x6 ≤ m → Ans (fun k => spec_l20Rules.l0 k n x5 x6 l s) (fun r => At (B + 10 * m + 80) r.2 ∧ r.1.length ≤ 6) := by
    intro m
    induction m with
    | zero =>
      intro x5 x6 s B hs hB hm hx
      refine Ans.succ ?_
      unfold spec_l20Rules.l0
      refine Ans.neg (by omega) ((J1 x5 s B hs (by omega) (by omega)).mono ?_)
      rintro r ⟨a, b⟩
      exact ⟨at_le a (by omega), b⟩
    | succ m ih =>
      intro x5 x6 s B hs hB hm hx
      refine Ans.succ ?_
      unfold spec_l20Rules.l0
      refine Ans.ite (fun c => ?_) (fun c => ?_)
      · refine Ans.bind (rule_a hl hs (by omega) 99999) ?_
        rintro ⟨y0, y1, y2, y3, y4, y5, y6, s1⟩ ⟨h1, _⟩
        dsimp only at *
        refine Ans.pos (by omega) ?_
        have e : wrap64 (x6 - 1) = x6 - 1 := w64 _ (by omega)
        rw [e]
        refine (ih _ _ s1 _ h1 (by omega) (by simp; omega) (by omega)).mono ?_
        rintro r ⟨a, b⟩
        exact ⟨at_le a (by push_cast; omega), b⟩
      · refine (J1 x5 s B hs (by omega) (by omega)).mono ?_
        rintro r ⟨a, b⟩
        exact ⟨at_le a (by omega), b⟩
  unfold spec_l20Rules.f
  simp only [Option.bind_some]
  refine Ans.bind (pick_a hl hs (by omega) 3) ?_
  rintro ⟨v1, s1⟩ ⟨h1, p1⟩
  dsimp only at *
  refine Ans.ite (fun _ => ?_) (fun _ => ?_)
  · refine Ans.bind (pick_a hl h1 (by omega) 4) ?_
    rintro ⟨v2, s2⟩ ⟨h2, p2⟩
    dsimp only at *
    refine (L0 3 [] v2 s2 _ h2 (by omega) (by simp) (by omega)).mono ?_
    rintro r ⟨a, b⟩
    exact ⟨at_le a (by omega), b⟩
  · refine (J1 [] s1 _ h1 (by omega) (by simp)).mono ?_
    rintro r ⟨a, b⟩
    exact ⟨at_le a (by omega), b⟩
/-- What FnRulMay and FnRulLess draw. -/
theorem DrawRulMay_a {l : List Int} (hl : Bys l) : Ans (fun k => spec_DrawRulMay.f k l) (fun r => r.1.length ≤ 6 ∧ Sm r.2.1 ∧ Sm r.2.2.1 ∧ Sm r.2.2.2.1 ∧ Sm r.2.2.2.2) := by
  have J : ∀ {l : List Int}, Bys l → ∀ (x6 : List S24) (s B : Int), At B s → B < 600000 → x6.length ≤ 6 → Ans (fun k => spec_DrawRulMay.j1 k x6 l s) (fun r => r.1.length ≤ 6 ∧ Sm r.2.1 ∧ Sm r.2.2.1 ∧ Sm r.2.2.2.1 ∧ Sm r.2.2.2.2) := by
    intro l hl x6 s B hs hB hm
    refine Ans.succ ?_
    unfold spec_DrawRulMay.j1
    refine Ans.bind (odd_a hl hs (by omega) 9) ?_
    rintro ⟨b, s1⟩ h1
    dsimp only at *
    refine Ans.ite (fun _ => ?_) (fun _ => ?_)
    · refine Ans.bind (end_a hl h1 (by omega) 3) ?_
      rintro ⟨a1, a2, s2⟩ ⟨h2, m1, m2⟩
      dsimp only at *
      refine Ans.bind (end_a hl h2 (by omega) 3) ?_
      rintro ⟨b1, b2, s3⟩ ⟨h3, m3, m4⟩
      exact Ans.pure ⟨hm, m1, m2, m3, m4⟩
    · refine Ans.bind (in_a hl h1 (by omega)) ?_
      rintro ⟨a1, a2, s2⟩ ⟨h2, m1, m2⟩
      dsimp only at *
      refine Ans.bind (out_a hl h2 (by omega)) ?_
      rintro ⟨b1, b2, s3⟩ ⟨h3, m3, m4⟩
      exact Ans.pure ⟨hm, m1, m2, m3, m4⟩
  have L : ∀ {l : List Int}, Bys l → ∀ (m : Nat) (x6 : List S24) (x7 s B : Int), At B s → B + 10 * (m : Int) < 550000 → x6.length ≤ 6 → x7 ≤ m → m ≤ 10 → Ans (fun k => spec_DrawRulMay.l0 k x6 x7 l s) (fun r => r.1.length ≤ 6 ∧ Sm r.2.1 ∧ Sm r.2.2.1 ∧ Sm r.2.2.2.1 ∧ Sm r.2.2.2.2) := by
    intro l hl m
    induction m with
    | zero =>
      intro x6 x7 s B hs hB hm hx _
      refine Ans.succ ?_
      unfold spec_DrawRulMay.l0
      exact Ans.neg (by omega) (J hl x6 s B hs (by omega) hm)
    | succ m ih =>
      intro x6 x7 s B hs hB hm hx hq
      refine Ans.succ ?_
      unfold spec_DrawRulMay.l0
      refine Ans.ite (fun c => ?_) (fun c => J hl x6 s B hs (by omega) hm)
      refine Ans.ite (fun c => ?_) (fun c => J hl x6 s B hs (by omega) hm)
      refine Ans.bind (rule_a hl hs (by omega) 99999) ?_
      rintro ⟨y0, y1, y2, y3, y4, y5, y6, s1⟩ ⟨h1, _⟩
      dsimp only at *
      refine Ans.pos (by omega) ?_
      have e : wrap64 (x7 - 1) = x7 - 1 := w64 _ (by omega)
      rw [e]
      exact ih _ _ s1 _ h1 (by omega) (by simp; omega) (by omega) (by omega)
  unfold spec_DrawRulMay.f
  obtain ⟨l', h, hl'⟩ := open_f l hl
  rw [h]
  simp only [Option.bind_some]
  refine Ans.bind (rules_a hl' (B := 0) ⟨by omega, by omega⟩ (by omega) 9) ?_
  rintro ⟨x6, s1⟩ ⟨h1, hm⟩
  dsimp only at *
  refine Ans.bind (pick_a hl' h1 (by omega) 3) ?_
  rintro ⟨v2, s2⟩ ⟨h2, p2⟩
  dsimp only at *
  exact L hl' 3 x6 v2 s2 _ h2 (by omega) hm (by omega) (by omega)
end Go.Proofs.Ytiocgkggegahhaa.P

/- The pieces of impl.may: an iterator over rules from behind; a chain of closures. -/
namespace Go.Proofs.Ytiocgkggegahhaa.P
open Go.RowKit Go.Shelf Go.Proofs.YtiocgkggegahhaaUFnExactRulMay.PrintWords Go.Proofs.YtiocgkggegahhaaUFnExactRulMay.PrintLast Go.Proofs.YtiocgkggegahhaaUFnExactRulMay.PrintMore
set_option linter.unusedVariables false
set_option linter.unusedSimpArgs false
attribute [local go_sem] Oper.semAt_some

def ruleV (x : S24) : Value := .agg #[.bool x.f0, .int .i64 x.f1, .int .i64 x.f2, .int .i64 x.f3, .int .i64 x.f4, .int .i64 x.f5, .int .i64 x.f6]

/-- What lay below n₀ lies as it lay, and so does block b. -/
def KpM (n₀ b : Nat) (W W' : World) : Prop := Below n₀ W W' ∧ W'.heap[b]? = W.heap[b]?
theorem KpM.trans {n₀ b : Nat} {A B C : World} (h : KpM n₀ b A B) (k : KpM n₀ b B C) : KpM n₀ b A C := ⟨h.1.trans k.1, k.2.trans h.2⟩
theorem KpM.refl (n₀ b : Nat) (W : World) : KpM n₀ b W W := ⟨Below.refl _ _, rfl⟩
theorem KpM.cell {n₀ b : Nat} {A B : World} (h : KpM n₀ b A B) {j : Nat} {v : Value} (hc : A.cell? ⟨b, j, none⟩ = some v) : B.cell? ⟨b, j, none⟩ = some v := by
  unfold World.cell? at hc ⊢
  rw [h.2]
  exact hc

set_option maxRecDepth 100000 in
set_option maxHeartbeats 2000000 in
theorem backward1 (l Bs n₀ : Nat) (A0 : Option Addr) (c0 : Nat) (l0 : List S24) (w0 : World) (hn : w0.heap.size = n₀) (hC : Kd.C k24 w0 A0 l0.length l0) (J Jx : List (Int × S24) → World → Prop)
    (hY : ∀ pre x W, J pre W → pre.length < l0.length → YieldAt Fence.wide 7 Try.prog l #[.int .i64 x.1, ruleV x.2] W fun e W' =>
      (e = .returned (.bool true) ∧ J (pre ++ [x]) W' ∧ KpM n₀ Bs W W') ∨ (e = .returned (.bool false) ∧ Jx (pre ++ [x]) W'))
    (W : World) (hW0 : Below n₀ w0 W) (hBs : W.cell? ⟨Bs, 0, none⟩ = some (.slice A0 l0.length c0)) (h0 : J [] W) :
    CallsIn Fence.wide 8 Try.prog 101 #[.func (.yield l) #[] #[], .pointer (some ⟨Bs, 0, none⟩)] W fun e W' => (∃ v, e = .returned v) ∧
      ((∃ ys, ys.map (·.2) = l0.reverse ∧ J ys W') ∨ (∃ pre, True ∧ Jx pre W')) := by
  have hlen : l0.length ≤ 9223372036854775807 := hC.2.1
  have HC := Lib.hid hC
  have HW := Lib.hid hW0
  have HN := Lib.hid hn
  clear hC hW0 hn
  refine callsIn_of_wp Try.func101 rfl trivial ?_ rfl
  simp only [Try.ntmps101, List.size_toArray, List.length_cons, List.length_nil, Nat.reduceAdd, Nat.reduceSub, Array.replicate_succ, Array.replicate_zero, List.push_toArray, List.append_toArray, List.nil_append, List.cons_append]
  gi_wp2
  gi_loopw [3] (fun v wr => ∃ (i : Int) (pre : List (Int × S24)), -1 ≤ i ∧ i < l0.length ∧ v = .int .i64 i ∧ Aside0 (pre.map (·.2) = (l0.drop (i + 1).toNat).reverse) ∧ Aside0 (J pre wr) ∧ Aside0 (KpM n₀ Bs W wr)) (fun v _ => (intOf v + 1).toNat)
  case atStart => exact ⟨(l0.length : Int) - 1, [], by omega, by omega, rfl, ⟨by simp⟩, ⟨h0⟩, ⟨KpM.refl _ _ _⟩⟩
  case round =>
    obtain ⟨i, pre, hi0, hi1, rfl, hp, hj, hb⟩ := hrel
    by_cases hlt : 0 ≤ i
    · have hb0 : Below w0.heap.size w0 wr := by rw [HN.out]; exact HW.out.trans hb.out.1
      obtain ⟨ad, e, c0', c1, c2, c3, c4, c5, c6⟩ := at_T24 (Kd.C_below HC.out hb0) i hlt (by omega)
      obtain ⟨k, rfl⟩ := Int.eq_ofNat_of_zero_le hlt
      have hkl : k < l0.length := by omega
      have hdr : l0.drop k = l0[k] :: l0.drop (k + 1) := List.drop_eq_getElem_cons hkl
      have hx0 : rd_T24 l0 k = l0[k] := by simp [rd_T24, List.getD_eq_getElem?_getD, hkl]
      obtain ⟨x, hx⟩ : ∃ x, rd_T24 l0 k = x := ⟨_, rfl⟩
      have hpl : pre.length < l0.length := by
        have := congrArg List.length hp.out
        simp only [List.length_map, List.length_reverse, List.length_drop] at this
        omega
      have hpx : ∀ y : Int, (pre ++ [(y, x)]).map (·.2) = (l0.drop k).reverse := fun y => by
        rw [List.map_append, hp.out, hdr, List.reverse_cons, ← hx0, hx]
        have : ((k : Int) + 1).toNat = k + 1 := by omega
        rw [this]; rfl
      rw [hx] at c0' c1 c2 c3 c4 c5 c6
      rw [Int.toNat_natCast] at c0' c1 c2 c3 c4 c5 c6
      have hbs : wr.cell? ⟨Bs, 0, none⟩ = some (.slice A0 l0.length c0) := hb.out.cell hBs
      have HP := Lib.hid hpx
      have HPL := Lib.hid hp
      clear hp hpx hx hx0 hdr hBs hb0
      obtain ⟨fn, tmps, assign, body, hy, hR⟩ := hY pre ((k : Int), x) wr hj.out hpl
      cases e
      dsimp only [ruleV] at hy
      gi_wp2
      refine hR.mono ?_
      rintro e W3 (⟨rfl, hJ3, hk3⟩ | ⟨rfl, hJx3⟩)
      · have HJ3 := Aside0.mk hJ3
        clear hJ3
        gi_wp2
        go_roundw
        case rel => exact ⟨(k : Int) - 1, pre ++ [((k : Int), x)], by omega, by omega, rfl, ⟨by rw [HP.out]; congr 2; omega⟩, HJ3, ⟨hb.out.trans hk3⟩⟩
        case measure => simp [intOf]
      · gi_wp2
        refine bodyPost_ret (results_none rfl _ _ _) rfl ?_
        exact ⟨⟨_, rfl⟩, .inr ⟨_, trivial, hJx3⟩⟩
    · have hi : i = -1 := by omega
      subst hi
      gi_wp2
      go_end0
      exact ⟨⟨_, rfl⟩, .inl ⟨pre, by rw [hp.out]; simp, hj.out⟩⟩

/-- A function value that tells whether two may send to each other, by rules; its blocks lie behind block lo. -/
def IsChk (lo : Nat) (w : World) : List S24 → Value → Prop
  | [], v => v = .func (.func 86) #[] #[]
  | x :: r, v => ∃ (b1 b2 : Nat) (v' : Value), v = .func (.func 102) #[] #[.pointer (some ⟨b1, 0, none⟩), .pointer (some ⟨b2, 0, none⟩)] ∧ (lo < b1 ∧ lo < b2) ∧
      w.heap[b1]? = some (.cells #[.bool x.f0, .int .i64 x.f1, .int .i64 x.f2, .int .i64 x.f3, .int .i64 x.f4, .int .i64 x.f5, .int .i64 x.f6] 24 (0, 0)) ∧
      w.heap[b2]? = some (.cells #[v'] 106 (0, 0)) ∧ IsChk lo w r v'
theorem IsChk.move {lo : Nat} {w w' : World} (h : ∀ i c t f, lo < i → w.heap[i]? = some (.cells c t f) → w'.heap[i]? = w.heap[i]?) : ∀ {l : List S24} {v : Value}, IsChk lo w l v → IsChk lo w' l v
  | [], _, hv => hv
  | x :: r, _, ⟨b1, b2, v', e, ⟨l1, l2⟩, h1, h2, hr⟩ => ⟨b1, b2, v', e, ⟨l1, l2⟩, (h b1 _ _ _ l1 h1).trans h1, (h b2 _ _ _ l2 h2).trans h2, hr.move h⟩
theorem IsChk.below {lo : Nat} {w w' : World} (h : Below w.heap.size w w') {l : List S24} {v : Value} (hv : IsChk lo w l v) : IsChk lo w' l v := hv.move fun i _ _ _ _ hi => h.block i (Array.getElem?_eq_some_iff.1 hi).1

theorem within_any (n lo hi : Int) (w : World) : Calls Try.prog 82 #[.int .i64 n, .int .i64 lo, .int .i64 hi] w fun e w' => e = .returned (.bool (inB n lo hi)) ∧ Drawn0 w w' :=
  impl_within.calls n lo hi _ w (within_f n lo hi)

def BoolPostM (b : Bool) (w : World) (e : Ending) (w' : World) : Prop := e = .returned (.bool b) ∧ Below w.heap.size w w'
set_option maxRecDepth 100000 in
theorem may1 (a p b q : Int) (w : World) : Calls Try.prog 86 #[.agg #[.int .i64 a, .int .i64 p], .agg #[.int .i64 b, .int .i64 q]] w (BoolPostM true w) := by
  go_enter Try.func86, Try.ntmps86
  go_wp2
  go_ret
  exact ⟨rfl, ((Below.refl _ _).alloc (Nat.le_refl _) _).alloc (by simp) _⟩

theorem below_alloc2 (w : World) (o1 o2 : Obj) : Below w.heap.size w ((w.alloc o1).alloc o2) := ((Below.refl _ _).alloc (Nat.le_refl _) _).alloc (by simp) _

set_option maxRecDepth 100000 in
set_option maxHeartbeats 4000000 in
theorem ahead_nil (res : Bool) (a p b q : Int) (x : S24) (b1 b2 : Nat) (w : World)
    (HRES : Aside0 (res = if fits x a b q then x.f0 else true))
    (h1 : w.heap[b1]? = some (.cells #[.bool x.f0, .int .i64 x.f1, .int .i64 x.f2, .int .i64 x.f3, .int .i64 x.f4, .int .i64 x.f5, .int .i64 x.f6] 24 (0, 0)))
    (h2 : w.heap[b2]? = some (.cells #[.func (.func 86) #[] #[]] 106 (0, 0))) :
    Calls Try.prog 102 #[.agg #[.int .i64 a, .int .i64 p], .agg #[.int .i64 b, .int .i64 q], .pointer (some ⟨b1, 0, none⟩), .pointer (some ⟨b2, 0, none⟩)] w (BoolPostM res w) := by
  have c0 := blk_cell h1 0
  have c1 := blk_cell h1 1
  have c2 := blk_cell h1 2
  have c3 := blk_cell h1 3
  have c4 := blk_cell h1 4
  have c5 := blk_cell h1 5
  have c6 := blk_cell h1 6
  have d0 := blk_cell h2 0
  have hl1 := blk_lt h1
  have hl2 := blk_lt h2
  clear h1 h2
  simp only [List.getElem?_toArray, List.getElem?_cons_zero, List.getElem?_cons_succ] at c0 c1 c2 c3 c4 c5 c6 d0
  cases f1 : inB a x.f1 x.f2 <;> cases f2 : inB b x.f3 x.f4 <;> cases f3 : inB q x.f5 x.f6
  all_goals
    have HFT := Lib.hid (show fits x a b q = _ by unfold fits; rw [f1, f2, f3])
    go_enter Try.func102, Try.ntmps102
    go_wp2_with (first | (go_at_call 82; refine (within_any _ _ _ _).mono ?_; rintro e w' ⟨rfl, ⟨nq, rfl⟩⟩) | (go_at_call 86; refine (may1 a p b q _).mono ?_; rintro e w' ⟨rfl, hb⟩))
    go_ret
    rw [HRES.out, HFT.out]
    first
      | exact ⟨rfl, pw_below_drewN (below_alloc2 w _ _) _⟩
      | exact ⟨rfl, (below_alloc2 w _ _).trans (((pw_below_drewN (Below.refl _ _) _).trans (hb.mono (by simp))).mono (by simp))⟩
      | exact ⟨rfl, (pw_below_drewN (below_alloc2 w _ _) _).trans (hb.mono (by simp; omega))⟩

set_option maxRecDepth 100000 in
set_option maxHeartbeats 4000000 in
theorem ahead_cons (res : Bool) (a p b q : Int) (x : S24) (b1 b2 : Nat) (w : World) (a1 a2 : Option Addr) (nx : Bool) (HN : Aside0 (∀ w', Below w.heap.size w w' → Calls Try.prog 102 #[.agg #[.int .i64 a, .int .i64 p], .agg #[.int .i64 b, .int .i64 q], .pointer a1, .pointer a2] w' (BoolPostM nx w')))
    (HRES : Aside0 (res = if fits x a b q then x.f0 else nx))
    (h1 : w.heap[b1]? = some (.cells #[.bool x.f0, .int .i64 x.f1, .int .i64 x.f2, .int .i64 x.f3, .int .i64 x.f4, .int .i64 x.f5, .int .i64 x.f6] 24 (0, 0)))
    (h2 : w.heap[b2]? = some (.cells #[.func (.func 102) #[] #[.pointer a1, .pointer a2]] 106 (0, 0))) :
    Calls Try.prog 102 #[.agg #[.int .i64 a, .int .i64 p], .agg #[.int .i64 b, .int .i64 q], .pointer (some ⟨b1, 0, none⟩), .pointer (some ⟨b2, 0, none⟩)] w (BoolPostM res w) := by
  have c0 := blk_cell h1 0
  have c1 := blk_cell h1 1
  have c2 := blk_cell h1 2
  have c3 := blk_cell h1 3
  have c4 := blk_cell h1 4
  have c5 := blk_cell h1 5
  have c6 := blk_cell h1 6
  have d0 := blk_cell h2 0
  have hl1 := blk_lt h1
  have hl2 := blk_lt h2
  clear h1 h2
  simp only [List.getElem?_toArray, List.getElem?_cons_zero, List.getElem?_cons_succ] at c0 c1 c2 c3 c4 c5 c6 d0
  cases f1 : inB a x.f1 x.f2 <;> cases f2 : inB b x.f3 x.f4 <;> cases f3 : inB q x.f5 x.f6
  all_goals
    have HFT := Lib.hid (show fits x a b q = _ by unfold fits; rw [f1, f2, f3])
    go_enter Try.func102, Try.ntmps102
    go_wp2_with (first | (go_at_call 82; refine (within_any _ _ _ _).mono ?_; rintro e w' ⟨rfl, ⟨nq, rfl⟩⟩) | (go_at_call 102; refine (HN.out _ (pw_below_drewN (below_alloc2 w _ _) _)).mono ?_; rintro e w' ⟨rfl, hb⟩))
    go_ret
    rw [HRES.out, HFT.out]
    first
      | exact ⟨rfl, pw_below_drewN (below_alloc2 w _ _) _⟩
      | exact ⟨rfl, (below_alloc2 w _ _).trans (((pw_below_drewN (Below.refl _ _) _).trans (hb.mono (by simp))).mono (by simp))⟩
      | exact ⟨rfl, (pw_below_drewN (below_alloc2 w _ _) _).trans (hb.mono (by simp; omega))⟩
end Go.Proofs.Ytiocgkggegahhaa.P

/- The contract of impl.may: a chain of closures, made by a range over an iterator, and called once. -/
namespace Go.Proofs.Ytiocgkggegahhaa.P
open Go.RowKit Go.Shelf Go.Proofs.YtiocgkggegahhaaUFnExactRulMay.PrintWords Go.Proofs.YtiocgkggegahhaaUFnExactRulMay.PrintLast Go.Proofs.YtiocgkggegahhaaUFnExactRulMay.PrintMore
set_option linter.unusedVariables false
set_option linter.unusedSimpArgs false
attribute [local go_sem] Oper.semAt_some

theorem chk_cons (a p b q : Int) : ∀ (r : List S24) (x : S24) (lo : Nat) (w : World) (b1 b2 : Nat) (v' : Value),
    w.heap[b1]? = some (.cells #[.bool x.f0, .int .i64 x.f1, .int .i64 x.f2, .int .i64 x.f3, .int .i64 x.f4, .int .i64 x.f5, .int .i64 x.f6] 24 (0, 0)) →
    w.heap[b2]? = some (.cells #[v'] 106 (0, 0)) → IsChk lo w r v' →
    Calls Try.prog 102 #[.agg #[.int .i64 a, .int .i64 p], .agg #[.int .i64 b, .int .i64 q], .pointer (some ⟨b1, 0, none⟩), .pointer (some ⟨b2, 0, none⟩)] w (BoolPostM (mayL (x :: r) a b q) w)
  | [], x, lo, w, b1, b2, v', h1, h2, hv => by
    have e : v' = .func (.func 86) #[] #[] := hv
    subst e
    exact ahead_nil _ a p b q x b1 b2 w ⟨rfl⟩ h1 h2
  | y :: r, x, lo, w, b1, b2, v', h1, h2, hv => by
    obtain ⟨b3, b4, v2, e, _, g1, g2, hr⟩ := hv
    subst e
    exact ahead_cons _ a p b q x b1 b2 w _ _ (mayL (y :: r) a b q) ⟨fun w' hb => chk_cons a p b q r y lo w' b3 b4 v2 ((hb.block _ (blk_lt g1)).trans g1) ((hb.block _ (blk_lt g2)).trans g2) (hr.below hb)⟩ ⟨rfl⟩ h1 h2

def impl_may.f (l : List S24) (a p b q : Int) : Option Bool := some (endIn a p && (endOut b q && mayL l a b q))

set_option maxRecDepth 100000 in
theorem backward0 (A0 : Option Addr) (n c0 : Nat) (w : World) :
    Calls Try.prog 87 #[.slice A0 n c0] w fun e w' => e = .returned (.func (.func 101) #[] #[.pointer (some ⟨w.heap.size, 0, none⟩)]) ∧ w' = w.alloc (.cells #[.slice A0 n c0] 31) := by
  go_enter Try.func87, Try.ntmps87
  go_wp2
  go_ret
  exact ⟨rfl, rfl⟩
theorem IsChk.func {lo : Nat} {w : World} : ∀ {l : List S24} {v : Value}, IsChk lo w l v → ∃ g caps, v = .func (.func g) #[] caps
  | [], _, h => ⟨_, _, h⟩
  | _ :: _, _, ⟨_, _, _, h, _⟩ => ⟨_, _, h⟩
def AheadPost (x : S24) (v : Value) (w : World) (e : Ending) (w' : World) : Prop :=
  ∃ b1 b2 : Nat, e = .returned (.func (.func 102) #[] #[.pointer (some ⟨b1, 0, none⟩), .pointer (some ⟨b2, 0, none⟩)]) ∧ w.heap.size ≤ b1 ∧ w.heap.size ≤ b2 ∧
    w'.heap[b1]? = some (.cells #[.bool x.f0, .int .i64 x.f1, .int .i64 x.f2, .int .i64 x.f3, .int .i64 x.f4, .int .i64 x.f5, .int .i64 x.f6] 24 (0, 0)) ∧ w'.heap[b2]? = some (.cells #[v] 106 (0, 0)) ∧ Below w.heap.size w w'
set_option maxRecDepth 100000 in
theorem ahead0 (x : S24) (g : Nat) (caps : Array Value) (w : World) :
    Calls Try.prog 88 #[ruleV x, .func (.func g) #[] caps] w (AheadPost x (.func (.func g) #[] caps) w) := by
  unfold ruleV
  go_enter Try.func88, Try.ntmps88
  go_wp2
  go_ret
  have n2 := heap_alloc_new (w.alloc (.cells #[.bool x.f0, .int .i64 x.f1, .int .i64 x.f2, .int .i64 x.f3, .int .i64 x.f4, .int .i64 x.f5, .int .i64 x.f6] 24)) (.cells #[.func (.func g) #[] caps] 106)
  simp only [World.size_alloc] at n2
  exact ⟨_, _, rfl, Nat.le_refl _, Nat.le_succ _, blk_alloc (heap_alloc_new w _) _, n2, below_alloc2 w _ _⟩

theorem box_set {W : World} {B : Nat} {t : TypeId} {v : Value} (h : W.heap[B]? = some (.cells #[v] t (0, 0))) (u : Value) : Boxed (W.setCell ⟨B, 0, none⟩ u) B t u := by
  have := blk_set h 0 u
  exact this

theorem alloc4 (w : World) (c1 c2 c3 c4 : Array Value) (t1 t2 t3 t4 : TypeId) :
    ((((w.alloc (.cells c1 t1)).alloc (.cells c2 t2)).alloc (.cells c3 t3)).alloc (.cells c4 t4)).heap.size = w.heap.size + 4 ∧
    Below w.heap.size w ((((w.alloc (.cells c1 t1)).alloc (.cells c2 t2)).alloc (.cells c3 t3)).alloc (.cells c4 t4)) ∧
    ((((w.alloc (.cells c1 t1)).alloc (.cells c2 t2)).alloc (.cells c3 t3)).alloc (.cells c4 t4)).heap[w.heap.size]? = some (.cells c1 t1 (0, 0)) ∧
    ((((w.alloc (.cells c1 t1)).alloc (.cells c2 t2)).alloc (.cells c3 t3)).alloc (.cells c4 t4)).heap[w.heap.size + 1]? = some (.cells c2 t2 (0, 0)) ∧
    ((((w.alloc (.cells c1 t1)).alloc (.cells c2 t2)).alloc (.cells c3 t3)).alloc (.cells c4 t4)).heap[w.heap.size + 1 + 1]? = some (.cells c3 t3 (0, 0)) ∧
    ((((w.alloc (.cells c1 t1)).alloc (.cells c2 t2)).alloc (.cells c3 t3)).alloc (.cells c4 t4)).heap[w.heap.size + 1 + 1 + 1]? = some (.cells c4 t4 (0, 0)) := by
  have n1 := heap_alloc_new w (.cells c1 t1)
  have n2 := heap_alloc_new (w.alloc (.cells c1 t1)) (.cells c2 t2)
  have n3 := heap_alloc_new ((w.alloc (.cells c1 t1)).alloc (.cells c2 t2)) (.cells c3 t3)
  have n4 := heap_alloc_new (((w.alloc (.cells c1 t1)).alloc (.cells c2 t2)).alloc (.cells c3 t3)) (.cells c4 t4)
  simp only [World.size_alloc] at n2 n3 n4
  refine ⟨by simp only [World.size_alloc], ?_, blk_alloc (blk_alloc (blk_alloc n1 _) _) _, blk_alloc (blk_alloc n2 _) _, blk_alloc n3 _, n4⟩
  exact ((((Below.refl _ w).alloc (Nat.le_refl _) _).alloc (by simp only [World.size_alloc]; omega) _).alloc (by simp only [World.size_alloc]; omega) _).alloc (by simp only [World.size_alloc]; omega) _
theorem cells_kept {X Y : World} {row : Option Nat} {b : Nat} {c : Array Value} {t : TypeId} {f : Nat × Nat} (h : X.heap[b]? = some (.cells c t f)) (hg : X.grownBy Y row) (hr : ∀ r, row = some r → ∃ o : Obj, X.heap[r]? = some o ∧ o.isCells = false) : Y.heap[b]? = some (.cells c t f) :=
  (hg.block b (Array.getElem?_eq_some_iff.1 h).1 (fun e => by obtain ⟨o, ho, hc⟩ := hr b e.symm; rw [h] at ho; cases ho; cases hc)).trans h
theorem cells_own {β : Type} (b : Nat) (c : Array Value) (t : TypeId) (f : Nat × Nat) : Own (fun (_ : β) W => W.heap[b]? = some (.cells c t f)) := fun _ X Y row hs hg hr => cells_kept hs hg hr
theorem chk_own {β : Type} (lo b t : Nat) (g : β → List S24) : Own (fun (s : β) W => ∃ v, Boxed W b t v ∧ IsChk lo W (g s) v) := fun s X Y row ⟨v, hb, hc⟩ hg hr =>
  ⟨v, cells_kept hb hg hr, hc.move fun i c t f _ hi => (cells_kept hi hg hr).trans hi.symm⟩
theorem backward_stops (Bs n₀ : Nat) (A0 : Option Addr) (c0 : Nat) (l0 : List S24) (w0 w : World) (hn : w0.heap.size = n₀) (hC : Kd.C k24 w0 A0 l0.length l0) (hw : Below n₀ w0 w) (hB : Bs < w.heap.size) (hc : w.cell? ⟨Bs, 0, none⟩ = some (.slice A0 l0.length c0)) :
    SeqStopsK Fence.wide 8 Try.prog 101 #[.pointer (some ⟨Bs, 0, none⟩)] (fun x : Int × S24 => #[.int .i64 x.1, ruleV x.2]) (KpM n₀ Bs) (fun ys => ys.map (·.2) = l0.reverse) (fun _ => True) l0.length w := fun l J Jx W hW _ _ hY h0 =>
  backward1 l Bs n₀ A0 c0 l0 w0 hn hC J Jx hY W (hw.trans (hW.mono (by rw [← hn]; exact hw.size))) ((hW.cell (p := ⟨Bs, 0, none⟩) hB).trans hc) h0
theorem kpm_b {n₀ b : Nat} {w : World} (hn : n₀ ≤ w.heap.size) (hb : b < w.heap.size) (W : World) (l : Nat) (o o' : Obj) (hl : w.heap.size ≤ l) (ho : W.heap[l]? = some o) (hc : o.isCells = false) (hk : o.isWalk = false) : KpM n₀ b W (W.putObj l o') :=
  ⟨belowK_b (w := w) hn W l o o' hl ho hc hk, World.putObj_heap_other (by omega)⟩

set_option maxRecDepth 100000 in
set_option maxHeartbeats 4000000 in
theorem impl_may.calls (A0 : Option Addr) (c0 : Nat) (l0 : List (S24)) (a1_0 : Int) (a1_1 : Int) (a2_0 : Int) (a2_1 : Int) (r : Bool) (w : World) (hr0 : Kd.C k24 w A0 l0.length l0) (hc0 : l0.length ≤ c0) (h : impl_may.f l0 a1_0 a1_1 a2_0 a2_1 = some r) :
    Calls Try.prog 52 #[.slice A0 l0.length c0, .agg #[.int .i64 a1_0, .int .i64 a1_1], .agg #[.int .i64 a2_0, .int .i64 a2_1]] w fun e w' => e = .returned (.bool r) ∧ Below w.heap.size w w' := by
  have HH := Lib.hid (Option.some.inj h)
  have HC := Lib.hid hr0
  clear h hr0 hc0
  refine (callsIn_wide (n := 9)).1 ?_
  refine callsIn_of_wp_marks Try.func52 rfl trivial ?_ rfl
  simp only [Try.ntmps52, List.size_toArray, List.length_cons, List.length_nil, Nat.reduceAdd, Nat.reduceSub, Array.replicate_succ, Array.replicate_zero, List.push_toArray, List.append_toArray, List.nil_append, List.cons_append]
  gi_wp2_with (refine ⟨trivial, ?_⟩; gi_at_call 87; refine (callsIn_wide.2 (backward0 _ _ _ _)).mono ?_; rintro e w' ⟨rfl, rfl⟩)
  obtain ⟨W0, hW0⟩ : ∃ W0, (((w.alloc (.cells #[.int .i64 a1_0, .int .i64 a1_1] 29)).alloc (.cells #[.int .i64 a2_0, .int .i64 a2_1] 29)).alloc (.cells #[.func (.func 86) #[] #[]] 106)).alloc (.cells #[.slice A0 l0.length c0] 31) = W0 := ⟨_, rfl⟩
  have h4 := alloc4 w #[.int .i64 a1_0, .int .i64 a1_1] #[.int .i64 a2_0, .int .i64 a2_1] #[.func (.func 86) #[] #[]] #[.slice A0 l0.length c0] 29 29 106 31
  rw [hW0] at h4
  obtain ⟨hsz, hB0, g1, g2, g3, g4⟩ := h4
  rw [hW0]
  clear hW0
  refine wpIn_rangeFunc_ownH rfl (by omega) (gf := 101) (lb := #[.pointer (some ⟨w.heap.size + 1 + 1 + 1, 0, none⟩)]) rfl trivial (enters_of Try.func101 (by kernel_rfl) rfl)
    (backward_stops (w.heap.size + 1 + 1 + 1) w.heap.size A0 c0 l0 w W0 rfl HC.out hB0 (by omega) ((blk_cell g4 0).trans rfl)) KpM.trans (kpm_b (by omega) (by omega)) (Below.refl _ _) (fun _ => rfl)
    (fun pre W => (∃ v, Boxed W (w.heap.size + 1 + 1) 106 v ∧ IsChk (w.heap.size + 1 + 1 + 1) W (pre.map (·.2)).reverse v) ∧ (W.heap[w.heap.size]? = some (.cells #[.int .i64 a1_0, .int .i64 a1_1] 29 (0, 0)) ∧ (W.heap[w.heap.size + 1]? = some (.cells #[.int .i64 a2_0, .int .i64 a2_1] 29 (0, 0)) ∧ (W.heap[w.heap.size + 1 + 1 + 1]? = some (.cells #[.slice A0 l0.length c0] 31 (0, 0)) ∧ Below w.heap.size w W))))
    (fun _ _ _ => False)
    (OwnFrom.and (Own.from (chk_own _ _ _ _) _) (OwnFrom.and (Own.from (cells_own _ _ _ _) _) (OwnFrom.and (Own.from (cells_own _ _ _ _) _) (OwnFrom.and (Own.from (cells_own _ _ _ _) _) (ownFrom_below (Nat.le_refl _) (by omega))))))
    (fun _ _ _ _ _ hs _ _ => hs)
    ⟨⟨_, g3, rfl⟩, g1, g2, g4, hB0⟩
    (fun x a' W => ∃ Bx, W0.heap.size ≤ Bx ∧ W.heap[Bx]? = some (.cells #[.bool x.2.f0, .int .i64 x.2.f1, .int .i64 x.2.f2, .int .i64 x.2.f3, .int .i64 x.2.f4, .int .i64 x.2.f5, .int .i64 x.2.f6] 24 (0, 0)) ∧ a' = { tmps := #[.slice A0 l0.length c0, .agg #[.int .i64 a1_0, .int .i64 a1_1], .agg #[.int .i64 a2_0, .int .i64 a2_1], undef, .pointer (some ⟨w.heap.size, 0, none⟩), .pointer (some ⟨w.heap.size + 1, 0, none⟩), .bool false, .pointer (some ⟨w.heap.size + 1 + 1, 0, none⟩), undef, .pointer (some ⟨Bx, 0, none⟩), .slice A0 l0.length c0, .func (.func 101) #[] #[.pointer (some ⟨w.heap.size + 1 + 1 + 1, 0, none⟩)], .int .i64 x.1, ruleV x.2, undef, undef, undef, undef, undef, undef, undef, undef, undef, undef, undef, undef, undef, undef, undef], defers := [] })
    (fun x a' _ X Y row hs hg hr => by obtain ⟨Bx, h1, h2, h3⟩ := hs; exact ⟨Bx, h1, cells_kept h2 hg (fun r e => (hr r e).2), h3⟩)
    ?assign ?body ?done ?stop
  case assign =>
    rintro l pre x W K ⟨⟨v, hv, hch⟩, e1, e2, e3, hB⟩ hK
    simp only [ruleV]
    gi_wp2
    have hsW : W0.heap.size ≤ W.heap.size := by have := blk_lt e3; omega
    refine hK _ _ ?_ ?_ ?_ ⟨W.heap.size, hsW, ?_, rfl⟩
    · exact (KeepsOthers.alloc _ _).from _
    · exact ⟨(Below.refl _ W).alloc hB.size _, Below.heap_alloc W _ _ (blk_lt e3)⟩
    · exact ⟨⟨v, blk_alloc hv _, hch.move fun i _ _ _ _ hi => Below.heap_alloc W _ _ (Array.getElem?_eq_some_iff.1 hi).1⟩, blk_alloc e1 _, blk_alloc e2 _, blk_alloc e3 _, hB.alloc hB.size _⟩
    · exact heap_alloc_new W _
  case body =>
    rintro l pre x a' W hl ⟨rr, hrr⟩ ⟨⟨v, hv, hch⟩, e1, e2, e3, hB⟩ ⟨Bx, hBx, hx, rfl⟩ hlt
    obtain ⟨gc, caps, rfl⟩ := hch.func
    have cv := hv.cell
    have fv := hv.frozen
    have x0 := (blk_cell hx 0).trans rfl
    have x1 := (blk_cell hx 1).trans rfl
    have x2 := (blk_cell hx 2).trans rfl
    have x3 := (blk_cell hx 3).trans rfl
    have x4 := (blk_cell hx 4).trans rfl
    have x5 := (blk_cell hx 5).trans rfl
    have x6 := (blk_cell hx 6).trans rfl
    have hl7 := hv.lt
    clear hrr
    gi_wp2_with (refine ⟨trivial, ?_⟩; gi_at_call 88; refine (CallsIn.inRound l (callsIn_wide.2 (ahead0 x.2 gc caps _))).mono ?_; rintro e w' ⟨b1, b2, rfl, hb1, hb2, hk1, hk2, hbw⟩; have cv' := (Boxed.cell (B := w.heap.size + 1 + 1) (t := 106) ((hbw.block _ hl7).trans hv)); have fv' := (Boxed.frozen (B := w.heap.size + 1 + 1) (t := 106) ((hbw.block _ hl7).trans hv)))
    have hl3 := blk_lt e3
    have hne : ∀ i, w.heap.size + 1 + 1 < i → i ≠ w.heap.size + 1 + 1 := fun i h e => by omega
    refine ⟨((KeepsOthers.of_grownBy (grown_of_below hbw none) (fun _ _ e => by cases e)).trans (KeepsOthers.setCell _ _ _)).from _,
      ⟨(hbw.mono hB.size).setCell (p := ⟨w.heap.size + 1 + 1, 0, none⟩) (by simp; omega) _, (Below.heap_setCell w' _ _ _ (hne _ (by omega))).trans (hbw.block _ hl3)⟩, ⟨_, box_set ((hbw.block _ hl7).trans hv) _, ?_⟩,
      blk_far ((hbw.block _ (blk_lt e1)).trans e1) (by simp; omega) _, blk_far ((hbw.block _ (blk_lt e2)).trans e2) (by simp) _, blk_far ((hbw.block _ hl3).trans e3) (by simp) _, (hB.trans (hbw.mono hB.size)).setCell (p := ⟨w.heap.size + 1 + 1, 0, none⟩) (by simp; omega) _⟩
    rw [List.map_append, List.reverse_append]
    exact ⟨b1, b2, _, rfl, ⟨by omega, by omega⟩, blk_far hk1 (by simp; omega) _, blk_far hk2 (by simp; omega) _,
      hch.move fun i _ _ _ hlo hi => (Below.heap_setCell w' _ _ _ (hne _ (by omega))).trans (hbw.block i (Array.getElem?_eq_some_iff.1 hi).1)⟩
  case done =>
    rintro D ys W hD hys ⟨⟨v, hv, hch⟩, e1, e2, e3, hB⟩ hK
    rw [hys, List.reverse_reverse] at hch
    have q0 := (blk_cell e1 0).trans rfl
    have q1 := (blk_cell e1 1).trans rfl
    have q2 := (blk_cell e2 0).trans rfl
    have q3 := (blk_cell e2 1).trans rfl
    have q4 := hv.cell
    have hDl := (Array.getElem?_eq_some_iff.1 hK).1
    have hl1 := blk_lt e1
    have hl2 := blk_lt e2
    have hl3 := hv.lt
    have HCH := Aside0.mk hch
    have HK := Aside0.mk hK
    have HB := Aside0.mk hB
    clear hch hK hB hys e1 e2 e3 g1 g2 g3 g4 hB0
    have fin : ∀ (W' : World), Below W.heap.size W W' → W'.heap[D]? = some (.deferred (some [])) ∧ Below w.heap.size w (W'.putObj D (.deferred none)) := fun W' h => by
      have h1 := (h.block _ hDl).trans HK.out
      exact ⟨h1, (HB.out.trans (h.mono HB.out.size)).trans (belowK_b (w := w) (Nat.le_refl _) W' D _ _ (by omega) h1 rfl rfl)⟩
    have FIN := Aside0.mk fin
    clear fin
    cases f1 : endIn a1_0 a1_1 with
    | false =>
      have hf1 := EndInside_f a1_0 a1_1
      rw [f1] at hf1
      have HF1 := Aside0.mk hf1
      have F1 := Aside0.mk f1
      clear f1 hf1
      gi_wp2_with (refine ⟨trivial, ?_⟩; gi_at_call 65; refine (callsIn_wide.2 (impl_EndInside.calls _ _ false _ HF1.out)).mono ?_; rintro e w' ⟨rfl, hbw⟩)
      refine ⟨trivial, ?_⟩
      gi_wp2
      refine ⟨fun _ h => (by cases h), ?_⟩
      gi_wp2
      refine ⟨by simp, .inl ⟨_, _, rfl, run_takeDeferred (FIN.out w' hbw).1, ?_⟩⟩
      exact ⟨_, results_tmp rfl _ _ _, by rw [← HH.out, F1.out]; rfl, (FIN.out w' hbw).2⟩
    | true =>
      have hf1 := EndInside_f a1_0 a1_1
      rw [f1] at hf1
      have HF1 := Aside0.mk hf1
      have F1 := Aside0.mk f1
      clear f1 hf1
      cases f2 : endOut a2_0 a2_1 with
      | false =>
        have hf2 := EndOutside_f a2_0 a2_1
        rw [f2] at hf2
        have HF2 := Aside0.mk hf2
        have F2 := Aside0.mk f2
        clear f2 hf2
        gi_wp2_with (first | (refine ⟨trivial, ?_⟩; gi_at_call 65; refine (callsIn_wide.2 (impl_EndInside.calls _ _ true _ HF1.out)).mono ?_; rintro e w' ⟨rfl, hbw⟩; have q2' := (hbw.cell (p := ⟨w.heap.size + 1, 0, none⟩) (by simp; omega)).trans q2; have q3' := (hbw.cell (p := ⟨w.heap.size + 1, 1, none⟩) (by simp; omega)).trans q3) | (refine ⟨trivial, ?_⟩; gi_at_call 89; refine (callsIn_wide.2 (impl_EndOutside.calls _ _ false _ HF2.out)).mono ?_; rintro e w2 ⟨rfl, hbw2⟩))
        refine ⟨fun _ h => (by cases h), ?_⟩
        gi_wp2
        have hb2 := hbw.trans (hbw2.mono hbw.size)
        refine ⟨by simp, .inl ⟨_, _, rfl, run_takeDeferred (FIN.out w2 hb2).1, ?_⟩⟩
        exact ⟨_, results_tmp rfl _ _ _, by rw [← HH.out, F1.out, F2.out]; rfl, (FIN.out w2 hb2).2⟩
      | true =>
        have hf2 := EndOutside_f a2_0 a2_1
        rw [f2] at hf2
        have HF2 := Aside0.mk hf2
        have F2 := Aside0.mk f2
        clear f2 hf2
        cases l0 with
        | nil =>
          have e : v = .func (.func 86) #[] #[] := HCH.out
          subst e
          gi_wp2_with (first | (refine ⟨trivial, ?_⟩; gi_at_call 65; refine (callsIn_wide.2 (impl_EndInside.calls _ _ true _ HF1.out)).mono ?_; rintro e w' ⟨rfl, hbw⟩; have q2' := (hbw.cell (p := ⟨w.heap.size + 1, 0, none⟩) (by simp; omega)).trans q2; have q3' := (hbw.cell (p := ⟨w.heap.size + 1, 1, none⟩) (by simp; omega)).trans q3) | (refine ⟨trivial, ?_⟩; gi_at_call 89; refine (callsIn_wide.2 (impl_EndOutside.calls _ _ true _ HF2.out)).mono ?_; rintro e w2 ⟨rfl, hbw2⟩; have hb2 := hbw.trans (hbw2.mono hbw.size); have q0' := (hb2.cell (p := ⟨w.heap.size, 0, none⟩) (by simp; omega)).trans q0; have q1' := (hb2.cell (p := ⟨w.heap.size, 1, none⟩) (by simp; omega)).trans q1; have q2'' := (hb2.cell (p := ⟨w.heap.size + 1, 0, none⟩) (by simp; omega)).trans q2; have q3'' := (hb2.cell (p := ⟨w.heap.size + 1, 1, none⟩) (by simp; omega)).trans q3; have q4' := (hb2.cell (p := ⟨w.heap.size + 1 + 1, 0, none⟩) (by simp; omega)).trans q4))
          refine ⟨trivial, ?_⟩
          refine (callsIn_wide.2 (may1 _ _ _ _ _)).mono ?_
          rintro e w3 ⟨rfl, hbw3⟩
          gi_wp2
          have hb3 := hb2.trans (hbw3.mono hb2.size)
          refine ⟨by simp, .inl ⟨_, _, rfl, run_takeDeferred (FIN.out w3 hb3).1, ?_⟩⟩
          exact ⟨_, results_tmp rfl _ _ _, by rw [← HH.out, F1.out, F2.out]; rfl, (FIN.out w3 hb3).2⟩
        | cons x l =>
          obtain ⟨b1, b2, v', e, _, k1, k2, hr⟩ := HCH.out
          subst e
          have K1 := Aside0.mk k1
          have K2 := Aside0.mk k2
          have HR := Aside0.mk hr
          clear k1 k2 hr HCH
          gi_wp2_with (first | (refine ⟨trivial, ?_⟩; gi_at_call 65; refine (callsIn_wide.2 (impl_EndInside.calls _ _ true _ HF1.out)).mono ?_; rintro e w' ⟨rfl, hbw⟩; have q2' := (hbw.cell (p := ⟨w.heap.size + 1, 0, none⟩) (by simp; omega)).trans q2; have q3' := (hbw.cell (p := ⟨w.heap.size + 1, 1, none⟩) (by simp; omega)).trans q3) | (refine ⟨trivial, ?_⟩; gi_at_call 89; refine (callsIn_wide.2 (impl_EndOutside.calls _ _ true _ HF2.out)).mono ?_; rintro e w2 ⟨rfl, hbw2⟩; have hb2 := hbw.trans (hbw2.mono hbw.size); have q0' := (hb2.cell (p := ⟨w.heap.size, 0, none⟩) (by simp; omega)).trans q0; have q1' := (hb2.cell (p := ⟨w.heap.size, 1, none⟩) (by simp; omega)).trans q1; have q2'' := (hb2.cell (p := ⟨w.heap.size + 1, 0, none⟩) (by simp; omega)).trans q2; have q3'' := (hb2.cell (p := ⟨w.heap.size + 1, 1, none⟩) (by simp; omega)).trans q3; have q4' := (hb2.cell (p := ⟨w.heap.size + 1 + 1, 0, none⟩) (by simp; omega)).trans q4))
          refine ⟨trivial, ?_⟩
          refine (callsIn_wide.2 (chk_cons a1_0 a1_1 a2_0 a2_1 l x _ w2 b1 b2 v' ((hb2.block _ (blk_lt K1.out)).trans K1.out) ((hb2.block _ (blk_lt K2.out)).trans K2.out) (HR.out.below hb2))).mono ?_
          rintro e w3 ⟨rfl, hbw3⟩
          gi_wp2
          have hb3 := hb2.trans (hbw3.mono hb2.size)
          refine ⟨by simp, .inl ⟨_, _, rfl, run_takeDeferred (FIN.out w3 hb3).1, ?_⟩⟩
          exact ⟨_, results_tmp rfl _ _ _, by rw [← HH.out, F1.out, F2.out]; rfl, (FIN.out w3 hb3).2⟩
  case stop =>
    rintro D c pre W _ _ h _
    exact h.elim
end Go.Proofs.Ytiocgkggegahhaa.P

/- The contract of impl.rulesOk: whether rules are ok, each by itself, and not too many. -/
namespace Go.Proofs.Ytiocgkggegahhaa.P
open Go.RowKit Go.Proofs.YtiocgkggegahhaaUFnExactRulMay.PrintWords Go.Proofs.YtiocgkggegahhaaUFnExactRulMay.PrintLast Go.Proofs.YtiocgkggegahhaaUFnExactRulMay.PrintMore
set_option linter.unusedVariables false
set_option linter.unusedSimpArgs false

def impl_rulesOk.f (l : List S24) : Option Bool := some (decide ((l.length : Int) ≤ 5) && l.all ruleOk)

set_option maxRecDepth 100000 in
theorem rulesOk_cl (x : S24) (w : World) :
    Calls Try.prog 85 #[.agg #[.bool x.f0, .int .i64 x.f1, .int .i64 x.f2, .int .i64 x.f3, .int .i64 x.f4, .int .i64 x.f5, .int .i64 x.f6]] w fun e w' => e = .returned (.bool (!(ruleOk x))) ∧ Below w.heap.size w w' := by
  have HF := Lib.hid (RulOk_f x)
  go_enter Try.func85, Try.ntmps85
  go_wp2_with (go_at_call 12; refine (impl_RulOk.calls _ _ _ _ _ _ _ _ _ HF.out).mono ?_; rintro e w' ⟨rfl, hb⟩)
  go_ret
  exact ⟨rfl, ((Below.refl _ _).alloc (Nat.le_refl _) _).trans (hb.mono (by simp))⟩

def IdxPost (b : Bool) (w : World) (e : Ending) (w' : World) : Prop := ∃ n : Int, e = .returned (.int .i64 n) ∧ decide (0 ≤ n) = b ∧ Below w.heap.size w w'
set_option maxRecDepth 100000 in
set_option maxHeartbeats 1000000 in
theorem rulesOk_idx (A0 : Option Addr) (c0 : Nat) (l0 : List S24) (w : World) (hr0 : Kd.C k24 w A0 l0.length l0) :
    Calls Try.prog 100 #[.slice A0 l0.length c0, .func (.func 85) #[] #[]] w (IdxPost (!(l0.all ruleOk)) w) := by
  have hlen : l0.length ≤ 9223372036854775807 := hr0.2.1
  have HR := Lib.hid hr0
  clear hr0
  go_enter Try.func100, Try.ntmps100
  go_wp2
  go_loopw [8] (fun i wr => ∃ k : Nat, k ≤ l0.length ∧ i = .int .i64 k ∧ Aside0 ((l0.take k).all ruleOk = true) ∧ Aside0 (Below w.heap.size w wr)) (fun i _ => l0.length - (intOf i).toNat)
  case atStart => exact ⟨0, Nat.zero_le _, rfl, ⟨by simp⟩, ⟨Below.refl _ _⟩⟩
  case round =>
    obtain ⟨k, hk, rfl, ha, hb⟩ := hrel
    by_cases hlt : k < l0.length
    · obtain ⟨ad, e, h0, h1, h2, h3, h4, h5, h6⟩ := at_T24 (Kd.C_below HR.out hb.out) k (by omega) (by omega)
      have hx : rd_T24 l0 k = l0[k] := by simp [rd_T24, List.getD_eq_getElem?_getD, hlt]
      have htk := List.take_succ_eq_append_getElem hlt
      rw [← hx] at htk
      obtain ⟨x, hxx⟩ : ∃ x, rd_T24 l0 k = x := ⟨_, rfl⟩
      rw [hxx] at h0 h1 h2 h3 h4 h5 h6 hx htk
      have hmem : x ∈ l0 := by rw [hx]; exact List.getElem_mem _
      have HT := Lib.hid htk
      have HM := Lib.hid hmem
      clear hxx hx htk hmem
      cases e
      rw [Int.toNat_natCast] at h0 h1 h2 h3 h4 h5 h6
      cases hok : ruleOk x with
      | true =>
        have HO := Lib.hid hok
        clear hok
        go_wp2_with (go_at_call 85; refine (rulesOk_cl x _).mono ?_; rw [HO.out]; rintro e w' ⟨rfl, hb1⟩)
        go_roundw
        case rel => exact ⟨k + 1, by omega, by go_num, ⟨by rw [HT.out, List.all_append, ha.out]; simp [HO.out]⟩, ⟨hb.out.trans (hb1.mono hb.out.size)⟩⟩
        case measure => simp [intOf]; omega
      | false =>
        have HO := Lib.hid hok
        clear hok
        go_wp2_with (go_at_call 85; refine (rulesOk_cl x _).mono ?_; rw [HO.out]; rintro e w' ⟨rfl, hb1⟩)
        go_ret
        refine ⟨k, rfl, ?_, hb.out.trans (hb1.mono hb.out.size)⟩
        have : l0.all ruleOk = false := by
          rw [List.all_eq_false]
          exact ⟨x, HM.out, by simp [HO.out]⟩
        simp [this]
    · have hk2 : k = l0.length := by omega
      subst hk2
      go_wp2
      go_ret
      refine ⟨-1, rfl, ?_, hb.out⟩
      have := ha.out
      rw [List.take_length] at this
      simp [this]

def BoolPost (b : Bool) (w : World) (e : Ending) (w' : World) : Prop := e = .returned (.bool b) ∧ Below w.heap.size w w'
set_option maxRecDepth 100000 in
theorem rulesOk_has (A0 : Option Addr) (c0 : Nat) (l0 : List S24) (w : World) (hr0 : Kd.C k24 w A0 l0.length l0) :
    Calls Try.prog 84 #[.slice A0 l0.length c0, .func (.func 85) #[] #[]] w (BoolPost (!(l0.all ruleOk)) w) := by
  have HR := Lib.hid hr0
  clear hr0
  go_enter Try.func84, Try.ntmps84
  go_wp2_with (go_at_call 100; refine (rulesOk_idx A0 c0 l0 _ HR.out).mono ?_; rintro e w' ⟨n, rfl, hn, hb⟩; have HN := Lib.hid hn; clear hn)
  go_ret
  exact ⟨by rw [← HN.out]; rfl, hb⟩

set_option maxRecDepth 100000 in
theorem impl_rulesOk.calls (A0 : Option Addr) (c0 : Nat) (l0 : List (S24)) (r : Bool) (w : World) (hr0 : Kd.C k24 w A0 l0.length l0) (hc0 : l0.length ≤ c0) (h : impl_rulesOk.f l0 = some r) :
    Calls Try.prog 51 #[.slice A0 l0.length c0] w fun e w' => e = .returned (.bool r) ∧ Below w.heap.size w w' := by
  have hlen : l0.length ≤ 9223372036854775807 := hr0.2.1
  have HH := Lib.hid (Option.some.inj h)
  have HR := Lib.hid hr0
  clear hr0 h hc0
  by_cases h5 : (l0.length : Int) ≤ 5
  · have h5' : decide ((l0.length : Int) ≤ 5) = true := decide_eq_true h5
    have H5 := Lib.hid h5'
    clear h5'
    go_enter Try.func51, Try.ntmps51
    go_wp2_with (go_at_call 84; refine (rulesOk_has A0 c0 l0 _ HR.out).mono ?_; rintro e w' ⟨rfl, hb⟩)
    go_ret
    exact ⟨by rw [← HH.out, H5.out]; simp, hb⟩
  · have h5' : decide ((l0.length : Int) ≤ 5) = false := decide_eq_false h5
    have H5 := Lib.hid h5'
    clear h5'
    go_enter Try.func51, Try.ntmps51
    go_wp2_with fail
    go_ret
    exact ⟨by rw [← HH.out, H5.out]; simp, Below.refl _ _⟩
end Go.Proofs.Ytiocgkggegahhaa.P
