import Derived.Test.YtiocgkggegahhaaGLawFnExactMapPutx4
-- written by hw.py for this claim
namespace Go.Proofs.Ytiocgkggegahhaa.P
open Go.RowKit Go.Proofs.YtiocgkggegahhaaUFnExactMapPut.PrintWords Go.Proofs.YtiocgkggegahhaaUFnExactMapPut.PrintLast Go.Proofs.YtiocgkggegahhaaUFnExactMapPut.PrintMore
attribute [local go_sem] max2_int min2_int max_two min_two max_three min_three max_four min_four
set_option linter.unusedVariables false
set_option linter.unusedSimpArgs false

/-! ### spec_DrawMapPort: function 63 -/
def spec_DrawMapPort.j0 : Nat → Bool → List Int → Int → List (S29) → Option ((List (S29)) × Int × Int)
  | 0, _, _, _, _ => none
  | k + 1, x18, x590000, x590001, x595000 => if x18 = true then ((spec_l20Rd_pick.f k x590000 x590001 (x595000.length : Int)).bind fun bt597 => (if 0 ≤ bt597.1 then (if bt597.1 < (x595000.length : Int) then (some (x595000, (rd_T29 x595000 bt597.1).f0, (rd_T29 x595000 bt597.1).f1)) else (none)) else (none))) else ((spec_l20End.f k x590000 x590001 9).bind fun bt600 => (some (x595000, bt600.1, bt600.2.1)))
def spec_DrawMapPort.f (k : Nat) (l0 : List Int) : Option ((List (S29)) × Int × Int) := (spec_l20Open.f l0).bind fun bt587 => ((spec_l20Table.f k bt587.1 bt587.2 9).bind fun bt590 => (if (bt590.1.length : Int) > 0 then ((spec_l20Rd_pick.f k bt587.1 bt590.2 2).bind fun bt595 => (spec_DrawMapPort.j0 k (bt595.1 == 0) bt587.1 bt595.2 bt590.1)) else (spec_DrawMapPort.j0 k false bt587.1 bt590.2 bt590.1)))
theorem spec_DrawMapPort.mono_l : ∀ k, (∀ y0 y1 y2 y3, LeO (spec_DrawMapPort.j0 k y0 y1 y2 y3) (spec_DrawMapPort.j0 (k + 1) y0 y1 y2 y3))
  | 0 => fun _ _ _ _ r h => by simp [spec_DrawMapPort.j0] at h
  | k + 1 => by
    have ih0 := spec_DrawMapPort.mono_l k
    · intro y0 y1 y2 y3
      unfold spec_DrawMapPort.j0
      repeat' first
      | (with_reducible exact ih0 _ _ _ _)
      | (with_reducible exact spec_l20End.mono _ _ _ _)
      | (with_reducible exact spec_l20Rd_pick.mono _ _ _ _)
      | (with_reducible exact spec_l20Table.mono _ _ _ _)
      | (with_reducible exact LeO.refl _)
      | (with_reducible exact LeO.none _)
      | (with_reducible refine LeO.ite ?_ ?_)
      | (with_reducible refine LeO.bind ?_ (fun _ => ?_))
      | exact ih0 _ _ _ _
      | exact spec_l20End.mono _ _ _ _
      | exact spec_l20Rd_pick.mono _ _ _ _
      | exact spec_l20Table.mono _ _ _ _
      | exact LeO.none _
      | refine LeO.ite ?_ ?_
      | refine LeO.bind ?_ (fun _ => ?_)
theorem spec_DrawMapPort.mono : ∀ a0 k, LeO (spec_DrawMapPort.f k a0) (spec_DrawMapPort.f (k + 1) a0) := by
  intro a0 k
  have ih0 := spec_DrawMapPort.mono_l k
  unfold spec_DrawMapPort.f
  repeat' first
      | (with_reducible exact ih0 _ _ _ _)
      | (with_reducible exact spec_l20End.mono _ _ _ _)
      | (with_reducible exact spec_l20Rd_pick.mono _ _ _ _)
      | (with_reducible exact spec_l20Table.mono _ _ _ _)
      | (with_reducible exact LeO.refl _)
      | (with_reducible exact LeO.none _)
      | (with_reducible refine LeO.ite ?_ ?_)
      | (with_reducible refine LeO.bind ?_ (fun _ => ?_))
      | exact ih0 _ _ _ _
      | exact spec_l20End.mono _ _ _ _
      | exact spec_l20Rd_pick.mono _ _ _ _
      | exact spec_l20Table.mono _ _ _ _
      | exact LeO.none _
      | refine LeO.ite ?_ ?_
      | refine LeO.bind ?_ (fun _ => ?_)
def spec_DrawMapPort.T4 : Bool × List (List Nat × List Nat) := (true, [([], []), ([], []), ([1], [1]), ([], []), ([], []), ([4], [4]), ([5], [5]), ([3, 6], [3, 6]), ([2, 7], [2, 7]), ([8], [8]), ([0, 7, 0], [0]), ([9, 10, 0, 1, 2, 3, 4, 5, 6, 7, 8, 9, 10], [9])])
def spec_DrawMapPort.B4 : List Nat := [0, 0, 2, 0, 0, 16, 48, 120, 254, 510, 249, 2047]
theorem spec_DrawMapPort.tab4 : rtab .any (opsOf Try.f63 4) = spec_DrawMapPort.T4 := by kernel_rfl
theorem spec_DrawMapPort.bits4 : waitsOk spec_DrawMapPort.T4.2 spec_DrawMapPort.B4 = true := by kernel_rfl
set_option maxHeartbeats 8000000 in
set_option maxRecDepth 100000 in
theorem spec_DrawMapPort.calls (k : Nat) (A0 : Option Addr) (c0 : Nat) (l0 : List Int) (r1 : List (S29)) (r2 : Int) (r3 : Int) (w : World) (hr0 : Kd.C (Kd.int .u8) w A0 l0.length l0) (hc0 : l0.length ≤ c0) (h : spec_DrawMapPort.f k l0 = some (r1, r2, r3)) :
    Calls Try.prog 63 #[.slice A0 l0.length c0] w fun e w' => ∃ v0_ : Value, e = .returned (.tuple #[.agg #[v0_], .agg #[.int .i64 r2, .int .i64 r3]]) ∧ Kd.R k29 29 w' w.heap.size (fun _ => True) v0_ r1 ∧ Below w.heap.size w w' := by
  have hu45 := Try.underlying45
  have hu29 := Try.underlying29
  have HR0 := Aside0.mk hr0
  have HC0 := Aside0.mk hc0
  clear hr0 hc0
  have HB := Aside0.mk (Below.refl w.heap.size w)
  have H : ((spec_l20Open.f l0).bind fun bt587 => ((spec_l20Table.f k bt587.1 bt587.2 9).bind fun bt590 => (if (bt590.1.length : Int) > 0 then ((spec_l20Rd_pick.f k bt587.1 bt590.2 2).bind fun bt595 => (spec_DrawMapPort.j0 k (bt595.1 == 0) bt587.1 bt595.2 bt590.1)) else (spec_DrawMapPort.j0 k false bt587.1 bt590.2 bt590.1)))) = some (r1, r2, r3) := h
  clear h
  replace H := Option.bind_eq_some_iff.mp H
  obtain ⟨⟨t587, t588⟩, A20, H⟩ := H
  replace H : ((spec_l20Table.f k t587 t588 9).bind fun bt590 => (if (bt590.1.length : Int) > 0 then ((spec_l20Rd_pick.f k t587 bt590.2 2).bind fun bt595 => (spec_DrawMapPort.j0 k (bt595.1 == 0) t587 bt595.2 bt590.1)) else (spec_DrawMapPort.j0 k false t587 bt590.2 bt590.1))) = some (r1, r2, r3) := H
  have A2 := Aside0.mk A20
  clear A20
  replace H := Option.bind_eq_some_iff.mp H
  obtain ⟨⟨t590, t593⟩, A30, H⟩ := H
  replace H : (if (t590.length : Int) > 0 then ((spec_l20Rd_pick.f k t587 t593 2).bind fun bt595 => (spec_DrawMapPort.j0 k (bt595.1 == 0) t587 bt595.2 t590)) else (spec_DrawMapPort.j0 k false t587 t593 t590)) = some (r1, r2, r3) := H
  have A3 := Aside0.mk A30
  clear A30
  have HC4 := Aside0.mk H
  clear H
  go_enter Try.func63, Try.ntmps63
  go_upto_region 3 with (first | ((with_reducible refine gate_dst (N := 2) rfl ?_); refine box_event ?hg (N := 2) ?hd (cs := #[.slice none 0 0]) (t := 45) ?hr ?_; (case hd => rfl); (case hg => rfl); (case hr => first | (go_simp; done) | (go_simp; rfl)); intro gb585 hg w5 hbox hb; have n0_ := Aside0.mk (below_step (bl HB) hb); have n1_ := Aside0.mk (hbox); have n2_ := Aside0.mk ((by rw [hg]; exact (below_size (bl HB)) : w.heap.size ≤ gb585)); have n3_ := Aside0.mk ((by rw [hg]; exact (below_size (bl HB)) : w.heap.size ≤ gb585)); clear HB; have HB := n0_; have BK585 := n1_; have GW585 := n2_; have GE585 := n3_; clear n0_ n1_ n2_ n3_; clear hb hbox hg) | ((with_reducible refine gate_dst (N := 3) rfl ?_); refine box_event ?hg (N := 3) ?hd (cs := #[.int .i64 0, .int .i64 0]) (t := 29) ?hr ?_; (case hd => rfl); (case hg => rfl); (case hr => first | (go_simp; done) | (go_simp; rfl)); intro gb586 hg w6 hbox hb; have n0_ := bkB BK585 hb; have n1_ := Aside0.mk (below_step (bl HB) hb); have n2_ := Aside0.mk (hbox); have n3_ := Aside0.mk ((by rw [hg]; exact (below_size (bl HB)) : w.heap.size ≤ gb586)); have n4_ := Aside0.mk ((by rw [hg]; exact (below_size (bl HB)) : w.heap.size ≤ gb586)); have n5_ := Aside0.mk ((by rw [hg]; exact Nat.ne_of_lt (bkL BK585) : gb585 ≠ gb586)); have n6_ := Aside0.mk ((by rw [hg]; exact Nat.ne_of_gt (bkL BK585) : gb586 ≠ gb585)); clear BK585; clear HB; have BK585 := n0_; have HB := n1_; have BK586 := n2_; have GW586 := n3_; have GE586 := n4_; have NB585_586 := n5_; have NB586_585 := n6_; clear n0_ n1_ n2_ n3_ n4_ n5_ n6_; clear hb hbox hg) | ((with_reducible refine gate_callee (f := 45) rfl ?_); refine goesL_ (some 7) rfl rfl Try.func45 (by kernel_rfl) rfl #[.slice A0 l0.length c0] rfl (by (try simp only [List.map_toArray, List.map_cons, List.map_nil]); first | done | rfl | (simp only [List.length_drop, List.length_take]; rfl)) ?_; (with_reducible refine (spec_l20Open.calls _ _ l0 t587 t588 w _ ?side1 ?side2 ?side3 A2.out).mono ?_); (case side1 => repeat (first | (with_reducible first | exact HB.out | apply below_alloc | apply pw_below_drewN | apply below_drew1 | refine below_set ?_ GE585.out | refine below_set ?_ GE586.out) | exact HB.out)); (case side2 => exact HR0.out); (case side3 => exact HC0.out); rintro e w7 ⟨g589, rfl, hi, hb, hb2⟩; refine ⟨_, rfl, ?_⟩; have n0_ := Aside0.mk (blk_below (g := gb585) (o := .cells #[.slice none 0 0] 45 (0, 0)) (bk BK585) hb2); have n1_ := Aside0.mk (blk_below (g := gb586) (o := .cells #[.int .i64 0, .int .i64 0] 29 (0, 0)) (bk BK586) hb2); have n2_ := Aside0.mk (hb); have n3_ := Aside0.mk (hi); have n4_ := Aside0.mk (IsS102.ne_blk hi (blk_below (g := gb585) (o := .cells #[.slice none 0 0] 45 (0, 0)) (bk BK585) hb2) (by decide)); have n5_ := Aside0.mk (Ne.symm (IsS102.ne_blk hi (blk_below (g := gb585) (o := .cells #[.slice none 0 0] 45 (0, 0)) (bk BK585) hb2) (by decide))); have n6_ := Aside0.mk (IsS102.ne_blk hi (blk_below (g := gb586) (o := .cells #[.int .i64 0, .int .i64 0] 29 (0, 0)) (bk BK586) hb2) (by decide)); have n7_ := Aside0.mk (Ne.symm (IsS102.ne_blk hi (blk_below (g := gb586) (o := .cells #[.int .i64 0, .int .i64 0] 29 (0, 0)) (bk BK586) hb2) (by decide))); clear BK585; clear BK586; clear HB; have BK585 := n0_; have BK586 := n1_; have HB := n2_; have HI589 := n3_; have NB589_585 := n4_; have NB585_589 := n5_; have NB589_586 := n6_; have NB586_589 := n7_; clear n0_ n1_ n2_ n3_ n4_ n5_ n6_ n7_; (try clear hb); (try clear hb2); (try clear hk); (try clear hi)) | ((with_reducible refine gate_callee (f := 91) rfl ?_); refine goesL_ (some 9) rfl rfl Try.func91 (by kernel_rfl) rfl #[.pointer (some ⟨g589, 0, none⟩), .int .i64 9] rfl (by (try simp only [List.map_toArray, List.map_cons, List.map_nil]); first | done | rfl | (simp only [List.length_drop, List.length_take]; rfl)) ?_; (with_reducible refine (spec_l20Table.calls k g589 t587 t588 9 t590 t593 w _ ?side1 ?side2 A3.out).mono ?_); (case side1 => repeat (first | (with_reducible first | exact HI589.out | apply IsS102.alloc | apply IsS102.drewN | apply IsS102.drew | apply IsS102.set_1 | refine IsS102.far ?_ NB589_585.out _ | refine IsS102.far ?_ NB589_586.out _) | exact HI589.out)); (case side2 => repeat (first | (with_reducible first | exact HB.out | apply below_alloc | apply pw_below_drewN | apply below_drew1 | refine below_set ?_ (IsS102.ge HI589.out) | refine below_set ?_ GE585.out | refine below_set ?_ GE586.out) | exact HB.out)); rintro e w8 ⟨v591, rfl, ho0, hi, hb, hk⟩; refine ⟨_, rfl, ?_⟩; have n0_ := Aside0.mk (KeepBut.blk hk (g' := gb585) (o := .cells #[.slice none 0 0] 45 (0, 0)) (bk BK585) NB585_589.out (by simp)); have n1_ := Aside0.mk (KeepBut.blk hk (g' := gb586) (o := .cells #[.int .i64 0, .int .i64 0] 29 (0, 0)) (bk BK586) NB586_589.out (by simp)); have n2_ := Aside0.mk (Kd.R_lower (Kd.R_newB ho0 (g := gb586) (o := .cells #[.int .i64 0, .int .i64 0] 29 (0, 0)) (bk BK586)) (below_size (by repeat (first | (with_reducible first | exact HB.out | apply below_alloc | apply pw_below_drewN | apply below_drew1 | refine below_set ?_ (IsS102.ge HI589.out) | refine below_set ?_ GE585.out | refine below_set ?_ GE586.out) | exact HB.out)))); have n3_ := Aside0.mk (hb); have n4_ := Aside0.mk (hi); clear BK585; clear BK586; clear HB; clear HI589; have BK585 := n0_; have BK586 := n1_; have HO592 := n2_; have HB := n3_; have HI589 := n4_; clear n0_ n1_ n2_ n3_ n4_; (try clear hb); (try clear hb2); (try clear hk); (try clear hi); (try clear ho0)) | ((with_reducible refine gate_dst (N := 5) rfl ?_); refine box_event ?hg (N := 5) ?hd (cs := #[.slice none 0 0]) (t := 45) ?hr ?_; (case hd => rfl); (case hg => rfl); (case hr => first | (go_simp; done) | (go_simp; rfl)); intro gb594 hg w9 hbox hb; have n0_ := Aside0.mk (Kd.R_below (rs HO592) hb); have n1_ := bkB BK585 hb; have n2_ := bkB BK586 hb; have n3_ := Aside0.mk (IsS102.below (by repeat (first | (with_reducible first | exact HI589.out | apply IsS102.alloc | apply IsS102.drewN | apply IsS102.drew | apply IsS102.set_1 | refine IsS102.far ?_ NB589_585.out _ | refine IsS102.far ?_ NB589_586.out _) | exact HI589.out)) hb); have n4_ := Aside0.mk (below_step (by repeat (first | (with_reducible first | exact HB.out | apply below_alloc | apply pw_below_drewN | apply below_drew1 | refine below_set ?_ (IsS102.ge HI589.out) | refine below_set ?_ GE585.out | refine below_set ?_ GE586.out) | exact HB.out)) hb); have n5_ := Aside0.mk (hbox); have n6_ := Aside0.mk ((by rw [hg]; exact (below_size (by repeat (first | (with_reducible first | exact HB.out | apply below_alloc | apply pw_below_drewN | apply below_drew1 | refine below_set ?_ (IsS102.ge HI589.out) | refine below_set ?_ GE585.out | refine below_set ?_ GE586.out) | exact HB.out))) : w.heap.size ≤ gb594)); have n7_ := Aside0.mk ((by rw [hg]; exact (below_size (by repeat (first | (with_reducible first | exact HB.out | apply below_alloc | apply pw_below_drewN | apply below_drew1 | refine below_set ?_ (IsS102.ge HI589.out) | refine below_set ?_ GE585.out | refine below_set ?_ GE586.out) | exact HB.out))) : w.heap.size ≤ gb594)); have n8_ := Aside0.mk ((by rw [hg]; exact Nat.ne_of_lt (bkL BK585) : gb585 ≠ gb594)); have n9_ := Aside0.mk ((by rw [hg]; exact Nat.ne_of_gt (bkL BK585) : gb594 ≠ gb585)); have n10_ := Aside0.mk ((by rw [hg]; exact Nat.ne_of_lt (bkL BK586) : gb586 ≠ gb594)); have n11_ := Aside0.mk ((by rw [hg]; exact Nat.ne_of_gt (bkL BK586) : gb594 ≠ gb586)); have n12_ := Aside0.mk ((by rw [hg]; exact Nat.ne_of_lt (IsS102.lt (show IsS102 w _ g589 t587 t593 from by repeat (first | (with_reducible first | exact HI589.out | apply IsS102.alloc | apply IsS102.drewN | apply IsS102.drew | apply IsS102.set_1 | refine IsS102.far ?_ NB589_585.out _ | refine IsS102.far ?_ NB589_586.out _) | exact HI589.out))) : g589 ≠ gb594)); have n13_ := Aside0.mk ((by rw [hg]; exact Nat.ne_of_gt (IsS102.lt (show IsS102 w _ g589 t587 t593 from by repeat (first | (with_reducible first | exact HI589.out | apply IsS102.alloc | apply IsS102.drewN | apply IsS102.drew | apply IsS102.set_1 | refine IsS102.far ?_ NB589_585.out _ | refine IsS102.far ?_ NB589_586.out _) | exact HI589.out))) : gb594 ≠ g589)); clear HO592; clear BK585; clear BK586; clear HI589; clear HB; have HO592 := n0_; have BK585 := n1_; have BK586 := n2_; have HI589 := n3_; have HB := n4_; have BK594 := n5_; have GW594 := n6_; have GE594 := n7_; have NB585_594 := n8_; have NB594_585 := n9_; have NB586_594 := n10_; have NB594_586 := n11_; have NB589_594 := n12_; have NB594_589 := n13_; clear n0_ n1_ n2_ n3_ n4_ n5_ n6_ n7_ n8_ n9_ n10_ n11_ n12_ n13_; clear hb hbox hg; obtain ⟨Ao10, co10, eo10⟩ := Kd.R_slice HO592.out; subst eo10; have hnb11 := NB594_585.out; have hnc11 := NB585_594.out; have hnb12 := NB594_586.out; have hnc12 := NB586_594.out; have hnb13 := NB594_589.out; have hnc13 := NB589_594.out; have hcz14_0 : w9.cell? ⟨gb594, 0, none⟩ = some (.slice none 0 0) := (blk_cell BK594.out 0).trans rfl; have hfz14_0 := blk_frozen BK594.out 0))
  (try simp only [Act.put, List.setIfInBounds_toArray, List.set_cons_zero, List.set_cons_succ])
  go_cut [18] (fun v18 wc => ∃ (kq : Nat) (x18_3 : Bool) (x590001_3 : Int), v18 = .bool x18_3 ∧ Aside0 (spec_DrawMapPort.j0 kq x18_3 t587 x590001_3 t590 = some (r1, r2, r3)) ∧ Aside0 (kq ≤ k) ∧ Aside0 (Kd.R k29 29 wc w.heap.size (fun k_ => k_ ≠ gb586) (.slice Ao10 t590.length co10) t590) ∧ Aside0 (wc.heap[gb585]? = some (.cells #[(.slice none 0 0)] 45 (0, 0))) ∧ Aside0 (wc.heap[gb586]? = some (.cells #[.int .i64 0, .int .i64 0] 29 (0, 0))) ∧ Aside0 (wc.heap[gb594]? = some (.cells #[(.slice Ao10 t590.length co10)] 45 (0, 0))) ∧ Aside0 (IsS102 w wc g589 t587 x590001_3) ∧ Aside0 (Below w.heap.size w wc))
  case first =>
    have H := HC4.out
    clear HC4
    by_cases c15 : (t590.length : Int) > 0
    · rw [if_pos c15] at H
      have c15b0 : decide (0 < (t590.length : Int)) = true := decide_eq_true c15
      have c15b1 : decide (0 < t590.length) = true := decide_eq_true (by omega)
      clear c15
      (first | rw [c15b0] | (simp only [i64_w, i32_w]; rw [c15b0]) | skip)
      replace H := Option.bind_eq_some_iff.mp H
      obtain ⟨⟨t595, t596⟩, A160, H⟩ := H
      replace H : (spec_DrawMapPort.j0 k (t595 == 0) t587 t596 t590) = some (r1, r2, r3) := H
      have A16 := Aside0.mk A160
      clear A160
      have H' := Aside0.mk H
      clear H
      have hnb17 := NB594_585.out
      have hnc17 := NB585_594.out
      have hnb18 := NB594_586.out
      have hnc18 := NB586_594.out
      have hnb19 := NB594_589.out
      have hnc19 := NB589_594.out
      have hcz20_0 : w9.cell? ⟨gb594, 0, none⟩ = some (.slice none 0 0) := (blk_cell BK594.out 0).trans rfl
      have hfz20_0 := blk_frozen BK594.out 0
      go_wp2_with (first | (go_at_call 58; (with_reducible refine (spec_l20Rd_pick.calls k g589 t587 t593 2 t595 t596 w _ ?side1 ?side2 A16.out).mono ?_); (case side1 => repeat (first | (with_reducible first | exact HI589.out | apply IsS102.alloc | apply IsS102.drewN | apply IsS102.drew | apply IsS102.set_1 | refine IsS102.far ?_ NB589_585.out _ | refine IsS102.far ?_ NB589_586.out _ | refine IsS102.far ?_ NB589_594.out _) | exact HI589.out)); (case side2 => repeat (first | (with_reducible first | exact HB.out | apply below_alloc | apply pw_below_drewN | apply below_drew1 | refine below_set ?_ (IsS102.ge HI589.out) | refine below_set ?_ GE585.out | refine below_set ?_ GE586.out | refine below_set ?_ GE594.out) | exact HB.out)); rintro e w21 ⟨rfl, hi, hb, hk⟩; have n0_ := Aside0.mk (KeepBut.blk hk (g' := gb585) (o := .cells #[.slice none 0 0] 45 (0, 0)) (by (with_reducible repeat refine bu ?_); refine blk_far ?_ NB585_594.out _; (with_reducible repeat refine bu ?_); exact BK585.out) NB585_589.out (by simp)); have n1_ := Aside0.mk (KeepBut.blk hk (g' := gb586) (o := .cells #[.int .i64 0, .int .i64 0] 29 (0, 0)) (by (with_reducible repeat refine bu ?_); refine blk_far ?_ NB586_594.out _; (with_reducible repeat refine bu ?_); exact BK586.out) NB586_589.out (by simp)); have n2_ := Aside0.mk (Kd.R_mono (Kd.R_keep (IsS102.apart (show IsS102 w _ g589 t587 t593 from by repeat (first | (with_reducible first | exact HI589.out | apply IsS102.alloc | apply IsS102.drewN | apply IsS102.drew | apply IsS102.set_1 | refine IsS102.far ?_ NB589_585.out _ | refine IsS102.far ?_ NB589_586.out _ | refine IsS102.far ?_ NB589_594.out _) | exact HI589.out)) (by (with_reducible repeat apply ru); exact (Kd.R_mono (Kd.R_far (p := ⟨gb594, 0, none⟩) (Kd.R_types HO592.out BK594.out (by decide)) (fun _ hk => hk.2) (.slice Ao10 t590.length co10)) (fun _ h_ => h_.1))) (by decide)) hk (fun _ h => h.2)) (fun _ h => h.1)); have n3_ := Aside0.mk (KeepBut.blk hk (g' := gb594) (o := .cells #[.slice Ao10 t590.length co10] 45 (0, 0)) (by (with_reducible repeat refine bu ?_); refine blk_put (cs := #[.slice none 0 0]) ?_ 0 _ rfl; (with_reducible repeat refine bu ?_); exact BK594.out) NB594_589.out (by simp)); have n4_ := Aside0.mk (hb); have n5_ := Aside0.mk (hi); clear BK585; clear BK586; clear HO592; clear BK594; clear HB; clear HI589; have BK585 := n0_; have BK586 := n1_; have HO592 := n2_; have BK594 := n3_; have HB := n4_; have HI589 := n5_; clear n0_ n1_ n2_ n3_ n4_ n5_; (try clear hb); (try clear hb2); (try clear hk); (try clear hi)))
      go_meet
      case rel => exact ⟨_, ((t595 == 0)), (t596), (by first | rfl | (simp; done) | (simp [*]; done)), H', ⟨by first | omega | exact Nat.le_refl _⟩, ⟨by (with_reducible repeat apply ru); exact Kd.R_mono HO592.out (fun _ hk => hk.2)⟩, ⟨by (with_reducible repeat refine bu ?_); exact BK585.out⟩, ⟨by (with_reducible repeat refine bu ?_); exact BK586.out⟩, ⟨by (with_reducible repeat refine bu ?_); exact BK594.out⟩, ⟨by repeat (first | (with_reducible first | exact HI589.out | apply IsS102.alloc | apply IsS102.drewN | apply IsS102.drew | apply IsS102.set_1 | refine IsS102.far ?_ NB589_585.out _ | refine IsS102.far ?_ NB589_586.out _ | refine IsS102.far ?_ NB589_594.out _) | exact HI589.out)⟩, ⟨by repeat (first | (with_reducible first | exact HB.out | apply below_alloc | apply pw_below_drewN | apply below_drew1 | refine below_set ?_ (IsS102.ge HI589.out) | refine below_set ?_ GE585.out | refine below_set ?_ GE586.out | refine below_set ?_ GE594.out) | exact HB.out)⟩⟩
    · rw [if_neg c15] at H
      have c15b0 : decide (0 < (t590.length : Int)) = false := decide_eq_false c15
      have c15b1 : decide (0 < t590.length) = false := decide_eq_false (by omega)
      clear c15
      (first | rw [c15b0] | (simp only [i64_w, i32_w]; rw [c15b0]) | skip)
      have H' := Aside0.mk H
      clear H
      have hnb22 := NB594_585.out
      have hnc22 := NB585_594.out
      have hnb23 := NB594_586.out
      have hnc23 := NB586_594.out
      have hnb24 := NB594_589.out
      have hnc24 := NB589_594.out
      have hcz25_0 : w9.cell? ⟨gb594, 0, none⟩ = some (.slice none 0 0) := (blk_cell BK594.out 0).trans rfl
      have hfz25_0 := blk_frozen BK594.out 0
      go_wp2
      go_meet
      case rel => exact ⟨_, (false), (t593), (by first | rfl | (simp; done) | (simp [*]; done)), H', ⟨by first | omega | exact Nat.le_refl _⟩, ⟨by (with_reducible repeat apply ru); exact Kd.R_mono (Kd.R_far (p := ⟨gb594, 0, none⟩) (Kd.R_types HO592.out BK594.out (by decide)) (fun _ hk => hk.2) (.slice Ao10 t590.length co10)) (fun _ hk => hk.1.2)⟩, ⟨by (with_reducible repeat refine bu ?_); refine blk_far ?_ NB585_594.out _; (with_reducible repeat refine bu ?_); exact BK585.out⟩, ⟨by (with_reducible repeat refine bu ?_); refine blk_far ?_ NB586_594.out _; (with_reducible repeat refine bu ?_); exact BK586.out⟩, ⟨by (with_reducible repeat refine bu ?_); refine blk_put (cs := #[.slice none 0 0]) ?_ 0 _ rfl; (with_reducible repeat refine bu ?_); exact BK594.out⟩, ⟨by repeat (first | (with_reducible first | exact HI589.out | apply IsS102.alloc | apply IsS102.drewN | apply IsS102.drew | apply IsS102.set_1 | refine IsS102.far ?_ NB589_585.out _ | refine IsS102.far ?_ NB589_586.out _ | refine IsS102.far ?_ NB589_594.out _) | exact HI589.out)⟩, ⟨by repeat (first | (with_reducible first | exact HB.out | apply below_alloc | apply pw_below_drewN | apply below_drew1 | refine below_set ?_ (IsS102.ge HI589.out) | refine below_set ?_ GE585.out | refine below_set ?_ GE586.out | refine below_set ?_ GE594.out) | exact HB.out)⟩⟩
  case rest =>
    clear HC4
    try clear c1
    try clear c2
    try clear p2
    try clear c4
    try clear c6
    try clear c9
    try clear c11
    try clear c12
    try clear c13
    try clear c15
    try clear c15b0
    try clear c15b1
    try clear c17
    try clear c18
    try clear c19
    try clear c22
    try clear c23
    try clear c24
    try clear hcz14_0
    try clear hcz20_0
    try clear hcz25_0
    try clear hfz14_0
    try clear hfz20_0
    try clear hfz25_0
    obtain ⟨kq, x18_3, x590001_3, rfl, HA, HJ3, HO_595000, BK585, BK586, BK594, HI589, HB⟩ := hcut
    cases kq with
    | zero => exact absurd HA.out (by simp [spec_DrawMapPort.j0])
    | succ kj3 =>
      have H := HA.out
      clear HA
      simp only [spec_DrawMapPort.j0] at H
      by_cases c26 : x18_3 = true
      · subst c26
        have H1 : ((spec_l20Rd_pick.f kj3 t587 x590001_3 (t590.length : Int)).bind fun bt597 => (if 0 ≤ bt597.1 then (if bt597.1 < (t590.length : Int) then (some (t590, (rd_T29 t590 bt597.1).f0, (rd_T29 t590 bt597.1).f1)) else (none)) else (none))) = some (r1, r2, r3) := by rw [if_pos rfl] at H; exact H
        clear H
        have H := H1
        clear H1
        replace H := Option.bind_eq_some_iff.mp H
        obtain ⟨⟨t597, t598⟩, A270, H⟩ := H
        replace H : (if 0 ≤ t597 then (if t597 < (t590.length : Int) then (some (t590, (rd_T29 t590 t597).f0, (rd_T29 t590 t597).f1)) else (none)) else (none)) = some (r1, r2, r3) := H
        have A27 := Aside0.mk A270
        clear A270
        by_cases c28 : 0 ≤ t597
        · rw [if_pos c28] at H
          have c28b0 : decide (0 ≤ t597) = true := decide_eq_true c28
          clear c28
          by_cases c29 : t597 < (t590.length : Int)
          · rw [if_pos c29] at H
            have c29b0 : decide (t597 < (t590.length : Int)) = true := decide_eq_true c29
            clear c29
            simp only [Option.some.injEq, Prod.mk.injEq] at H
            obtain ⟨rfl, rfl, rfl⟩ := H
            try go_wp2
            have n0_ := Aside0.mk (Kd.R_drew HO_595000.out)
            have n1_ := Aside0.mk (blk_drew BK585.out)
            have n2_ := Aside0.mk (blk_drew BK586.out)
            have n3_ := Aside0.mk (blk_drew BK594.out)
            have n4_ := Aside0.mk (IsS102.drew HI589.out)
            have n5_ := Aside0.mk (below_drew1 HB.out)
            clear HO_595000
            clear BK585
            clear BK586
            clear BK594
            clear HI589
            clear HB
            have HO_595000 := n0_
            have BK585 := n1_
            have BK586 := n2_
            have BK594 := n3_
            have HI589 := n4_
            have HB := n5_
            clear n0_ n1_ n2_ n3_ n4_ n5_
            have p599 : 0 ≤ (t597 : Int) := of_decide_eq_true (by first | (with_reducible assumption) | assumption)
            have q599 : t597 < (t590.length : Int) := of_decide_eq_true (by first | (with_reducible assumption) | assumption)
            obtain ⟨ad599, e599, hx599_0, hx599_1⟩ := at_T29 (Kd.R_reads' HO_595000.out).2.2 t597 p599 q599
            cases e599
            replace p599 := eq_true p599
            replace q599 := eq_true q599
            refine start_ (n := 12) (S := fun w' => w'.cell? ⟨gb594, 0, none⟩ = some (.slice (some ad599) t590.length co10) ∧ w'.cell? (ad599.add ((t597).toNat * 2)) = some (.int .i64 ((rd_T29 t590 t597).f0)) ∧ w'.cell? ⟨(ad599.add ((t597).toNat * 2)).block, (ad599.add ((t597).toNat * 2)).off + 1, none⟩ = some (.int .i64 ((rd_T29 t590 t597).f1))) (ds := []) #[false, false, false, false, false, false, false, false, false, false, false, false] (by kernel_rfl) rfl rfl ⟨(blk_cell BK594.out 0).trans rfl, hx599_0, hx599_1⟩ (fun hHeld => ?_); refine with_tabW spec_DrawMapPort.tab4 spec_DrawMapPort.bits4 (fun HT_ HW_ => ?_)
            generalize wc.drew = w30 at HO_595000 BK585 BK586 BK594 HI589 HB hx599_0 hx599_1 hHeld ⊢
            refine pure_ (i := 1) (N := some 20) (v := ?_) (a' := ?_) #[false, true, false, false, false, false, false, false, false, false, false, false] rfl rfl (any_of HT_.out (by kernel_rfl)) (fun _ _ _ h => h) (Or.inl ⟨by rfl, ?_⟩) ?_ ?_
            rotate_left
            · intro w'
              go_simp
              with_reducible rfl
            rotate_left
            · simp only [Act.put, List.setIfInBounds_toArray, List.set_cons_zero, List.set_cons_succ, i64_w, i32_w]
              rfl
            refine pure_ (i := 3) (N := some 22) (v := ?_) (a' := ?_) #[false, true, false, true, false, false, false, false, false, false, false, false] rfl rfl (any_of HT_.out (by kernel_rfl)) (fun _ _ _ h => h) (Or.inl ⟨by rfl, ?_⟩) ?_ ?_
            rotate_left
            · intro w'
              go_simp
              with_reducible rfl
            rotate_left
            · simp only [Act.put, List.setIfInBounds_toArray, List.set_cons_zero, List.set_cons_succ, i64_w, i32_w]
              rfl
            refine pure_ (i := 4) (N := some 23) (v := ?_) (a' := ?_) #[false, true, false, true, true, false, false, false, false, false, false, false] rfl rfl (any_of HT_.out (by kernel_rfl)) (fun _ _ _ h => h) (Or.inl ⟨by rfl, ?_⟩) ?_ ?_
            rotate_left
            · intro w'
              go_simp
              with_reducible rfl
            rotate_left
            · simp only [Act.put, List.setIfInBounds_toArray, List.set_cons_zero, List.set_cons_succ, i64_w, i32_w]
              rfl
            refine take_ (i := 0) (N := some 19) (v := ?_) (a' := ?_) #[true, true, false, true, true, false, false, false, false, false, false, false] rfl rfl (take_ofW HT_.out HW_.out (by kernel_rfl)) (fun _ _ _ h => h) (Or.inl ⟨by rfl, ?_⟩) hHeld ?_ ?_
            rotate_left
            · rintro w' ⟨s0, s1, s2⟩
              go_simp
              with_reducible rfl
            rotate_left
            · simp only [Act.put, List.setIfInBounds_toArray, List.set_cons_zero, List.set_cons_succ, i64_w, i32_w]
              rfl
            refine take_ (i := 2) (N := some 21) (v := ?_) (a' := ?_) #[true, true, true, true, true, false, false, false, false, false, false, false] rfl rfl (take_ofW HT_.out HW_.out (by kernel_rfl)) (fun _ _ _ h => h) (Or.inl ⟨by rfl, ?_⟩) hHeld ?_ ?_
            rotate_left
            · rintro w' ⟨s0, s1, s2⟩
              go_simp
              with_reducible rfl
            rotate_left
            · simp only [Act.put, List.setIfInBounds_toArray, List.set_cons_zero, List.set_cons_succ, i64_w, i32_w]
              rfl
            refine take_ (i := 5) (N := some 24) (v := ?_) (a' := ?_) #[true, true, true, true, true, true, false, false, false, false, false, false] rfl rfl (take_ofW HT_.out HW_.out (by kernel_rfl)) (fun _ _ _ h => h) (Or.inl ⟨by rfl, ?_⟩) hHeld ?_ ?_
            rotate_left
            · rintro w' ⟨s0, s1, s2⟩
              go_simp
              with_reducible rfl
            rotate_left
            · simp only [Act.put, List.setIfInBounds_toArray, List.set_cons_zero, List.set_cons_succ, i64_w, i32_w]
              rfl
            refine pure_ (i := 6) (N := some 25) (v := ?_) (a' := ?_) #[true, true, true, true, true, true, true, false, false, false, false, false] rfl rfl (any_of HT_.out (by kernel_rfl)) (fun _ _ _ h => h) (Or.inl ⟨by rfl, ?_⟩) ?_ ?_
            rotate_left
            · intro w'
              go_simp
              with_reducible rfl
            rotate_left
            · simp only [Act.put, List.setIfInBounds_toArray, List.set_cons_zero, List.set_cons_succ, i64_w, i32_w]
              rfl
            refine one_ (i := 7) (N := some 26) #[true, true, true, true, true, true, true, true, false, false, false, false] rfl rfl (one_of HT_.out (by kernel_rfl)) (by decide) (fun K hK => ?_)
            refine goes_ Try.func58 (by kernel_rfl) rfl #[.pointer (some ⟨g589, 0, none⟩), .int .i64 (t590.length : Int)] (by rfl) rfl rfl (by (try simp only [List.map_toArray, List.map_cons, List.map_nil]); first | done | rfl | (simp only [List.length_drop, List.length_take]; rfl)) ?_
            with_reducible refine (spec_l20Rd_pick.calls kj3 g589 t587 x590001_3 (t590.length : Int) t597 t598 w _ ?side1 ?side2 A27.out).mono ?_
            (case side1 => repeat (first | (with_reducible first | exact HI589.out | apply IsS102.alloc | apply IsS102.drewN | apply IsS102.drew | apply IsS102.set_1 | refine IsS102.far ?_ NB589_585.out _ | refine IsS102.far ?_ NB589_586.out _ | refine IsS102.far ?_ NB589_594.out _) | exact HI589.out))
            (case side2 => repeat (first | (with_reducible first | exact HB.out | apply below_alloc | apply pw_below_drewN | apply below_drew1 | refine below_set ?_ (IsS102.ge HI589.out) | refine below_set ?_ GE585.out | refine below_set ?_ GE586.out | refine below_set ?_ GE594.out) | exact HB.out))
            rintro e w31 ⟨rfl, hi, hb, hk⟩
            have HS1_ := keep_cell hk (hHeld.2.1) (by first | (rw [add_block]; exact Kd.own_blk (IsS102.own_ne HI589.out HO_595000.out (by decide))) | (show (Addr.add _ _).block ≠ _; rw [add_block]; exact Kd.own_blk (IsS102.own_ne HI589.out HO_595000.out (by decide))) | exact Kd.own_blk (IsS102.own_ne HI589.out HO_595000.out (by decide)))
            have HS2_ := keep_cell hk (hHeld.2.2) (by first | (rw [add_block]; exact Kd.own_blk (IsS102.own_ne HI589.out HO_595000.out (by decide))) | (show (Addr.add _ _).block ≠ _; rw [add_block]; exact Kd.own_blk (IsS102.own_ne HI589.out HO_595000.out (by decide))) | exact Kd.own_blk (IsS102.own_ne HI589.out HO_595000.out (by decide)))
            refine ⟨_, rfl, ?_⟩
            have n0_ := Aside0.mk (Kd.R_mono (Kd.R_keep (IsS102.apart (show IsS102 w _ g589 t587 x590001_3 from by repeat (first | (with_reducible first | exact HI589.out | apply IsS102.alloc | apply IsS102.drewN | apply IsS102.drew | apply IsS102.set_1 | refine IsS102.far ?_ NB589_585.out _ | refine IsS102.far ?_ NB589_586.out _ | refine IsS102.far ?_ NB589_594.out _) | exact HI589.out)) (rs HO_595000) (by decide)) hk (fun _ h => h.2)) (fun _ h => h.1))
            have n1_ := Aside0.mk (KeepBut.blk hk (g' := gb585) (o := .cells #[.slice none 0 0] 45 (0, 0)) (bk BK585) NB585_589.out (by simp))
            have n2_ := Aside0.mk (KeepBut.blk hk (g' := gb586) (o := .cells #[.int .i64 0, .int .i64 0] 29 (0, 0)) (bk BK586) NB586_589.out (by simp))
            have n3_ := Aside0.mk (KeepBut.blk hk (g' := gb594) (o := .cells #[.slice (some ad599) t590.length co10] 45 (0, 0)) (bk BK594) NB594_589.out (by simp))
            have n4_ := Aside0.mk (hb)
            have n5_ := Aside0.mk (hi)
            clear HO_595000
            clear BK585
            clear BK586
            clear BK594
            clear HB
            clear HI589
            have HO_595000 := n0_
            have BK585 := n1_
            have BK586 := n2_
            have BK594 := n3_
            have HB := n4_
            have HI589 := n5_
            clear n0_ n1_ n2_ n3_ n4_ n5_
            (try clear hb)
            (try clear hb2)
            (try clear hk)
            (try clear hi)
            refine hK.out _ _ ⟨(blk_cell BK594.out 0).trans rfl, HS1_, HS2_⟩ (fun hHeld => ?_)
            clear hK K
            refine norm_ (a' := ?_) ?_ ?_
            rotate_left
            · show Act.put _ (some 26) _ = _
              simp only [Act.put, List.setIfInBounds_toArray, List.set_cons_zero, List.set_cons_succ, i64_w, i32_w]
              rfl
            refine pure_ (i := 8) (N := some 27) (v := ?_) (a' := ?_) #[true, true, true, true, true, true, true, true, true, false, false, false] rfl rfl (any_of HT_.out (by kernel_rfl)) (fun _ _ _ h => h) (Or.inl ⟨by rfl, ?_⟩) ?_ ?_
            rotate_left
            · intro w'
              go_simp
              with_reducible rfl
            rotate_left
            · simp only [Act.put, List.setIfInBounds_toArray, List.set_cons_zero, List.set_cons_succ, i64_w, i32_w]
              rfl
            refine take_ (i := 9) (N := some 28) (v := ?_) (a' := ?_) #[true, true, true, true, true, true, true, true, true, true, false, false] rfl rfl (take_ofW HT_.out HW_.out (by kernel_rfl)) (fun _ _ _ h => h) (Or.inl ⟨by rfl, ?_⟩) hHeld ?_ ?_
            rotate_left
            · rintro w' ⟨s0, s1, s2⟩
              go_simp
              with_reducible rfl
            rotate_left
            · simp only [Act.put, List.setIfInBounds_toArray, List.set_cons_zero, List.set_cons_succ, i64_w, i32_w]
              rfl
            refine one_ (i := 10) (N := none) #[true, true, true, true, true, true, true, true, true, true, true, false] rfl rfl (one_of HT_.out (by kernel_rfl)) (by decide) (fun K hK => ?_)
            have hs32 : w31.cell? ⟨gb585, 0, none⟩ = some (.slice none 0 0) := (blk_cell BK585.out 0).trans rfl
            have hfs32 := blk_frozen BK585.out 0
            have hns32_1 := NB586_585.out
            have hns32_2 := NB594_585.out
            have hms32_1 := NB585_586.out
            have hms32_2 := NB585_594.out
            refine skip_ (w1 := ?_) (by rfl) rfl ?_ ?_
            rotate_left
            · go_simp
              rfl
            refine hK.out _ _ ⟨((cell_far (p := ⟨gb585, _, none⟩) NB594_585.out _).trans (hHeld.1)), ((cell_far (p := ⟨gb585, _, none⟩) (by first | exact Kd.own_blk (Kd.R_ne HO_595000.out BK585.out (by decide)) | (rw [add_block]; exact Kd.own_blk (Kd.R_ne HO_595000.out BK585.out (by decide))) | (show (Addr.add _ _).block ≠ _; rw [add_block]; exact Kd.own_blk (Kd.R_ne HO_595000.out BK585.out (by decide))) | (dsimp only; exact Kd.own_blk (Kd.R_ne HO_595000.out BK585.out (by decide)))) _).trans (hHeld.2.1)), ((cell_far (p := ⟨gb585, _, none⟩) (by first | exact Kd.own_blk (Kd.R_ne HO_595000.out BK585.out (by decide)) | (rw [add_block]; exact Kd.own_blk (Kd.R_ne HO_595000.out BK585.out (by decide))) | (show (Addr.add _ _).block ≠ _; rw [add_block]; exact Kd.own_blk (Kd.R_ne HO_595000.out BK585.out (by decide))) | (dsimp only; exact Kd.own_blk (Kd.R_ne HO_595000.out BK585.out (by decide)))) _).trans (hHeld.2.2))⟩ (fun hHeld => ?_)
            clear hK K
            refine one_ (i := 11) (N := none) #[true, true, true, true, true, true, true, true, true, true, true, true] rfl rfl (one_of HT_.out (by kernel_rfl)) (by decide) (fun K hK => ?_)
            have hs33 : w31.cell? ⟨gb586, 0, none⟩ = some (.int .i64 0) := (blk_cell BK586.out 0).trans rfl
            have hfs33 := blk_frozen BK586.out 0
            have hns33_0 := NB585_586.out
            have hns33_2 := NB594_586.out
            have hms33_0 := NB586_585.out
            have hms33_2 := NB586_594.out
            have hs34 : w31.cell? ⟨gb586, 1, none⟩ = some (.int .i64 0) := (blk_cell BK586.out 1).trans rfl
            have hfs34 := blk_frozen BK586.out 1
            have hns34_0 := NB585_586.out
            have hns34_2 := NB594_586.out
            have hms34_0 := NB586_585.out
            have hms34_2 := NB586_594.out
            refine skip_ (w1 := ?_) (by rfl) rfl ?_ ?_
            rotate_left
            · go_simp
              rfl
            refine hK.out _ _ ⟨((cell_far (p := ⟨gb586, _, none⟩) NB594_586.out _).trans (((cell_far (p := ⟨gb586, _, none⟩) NB594_586.out _).trans (hHeld.1)))), ((cell_far (p := ⟨gb586, _, none⟩) (by first | exact Kd.own_blk (Kd.R_away HO_595000.out (fun _ hk => hk)) | (rw [add_block]; exact Kd.own_blk (Kd.R_away HO_595000.out (fun _ hk => hk))) | (show (Addr.add _ _).block ≠ _; rw [add_block]; exact Kd.own_blk (Kd.R_away HO_595000.out (fun _ hk => hk))) | (dsimp only; exact Kd.own_blk (Kd.R_away HO_595000.out (fun _ hk => hk)))) _).trans (((cell_far (p := ⟨gb586, _, none⟩) (by first | exact Kd.own_blk (Kd.R_away HO_595000.out (fun _ hk => hk)) | (rw [add_block]; exact Kd.own_blk (Kd.R_away HO_595000.out (fun _ hk => hk))) | (show (Addr.add _ _).block ≠ _; rw [add_block]; exact Kd.own_blk (Kd.R_away HO_595000.out (fun _ hk => hk))) | (dsimp only; exact Kd.own_blk (Kd.R_away HO_595000.out (fun _ hk => hk)))) _).trans (hHeld.2.1)))), ((cell_far (p := ⟨gb586, _, none⟩) (by first | exact Kd.own_blk (Kd.R_away HO_595000.out (fun _ hk => hk)) | (rw [add_block]; exact Kd.own_blk (Kd.R_away HO_595000.out (fun _ hk => hk))) | (show (Addr.add _ _).block ≠ _; rw [add_block]; exact Kd.own_blk (Kd.R_away HO_595000.out (fun _ hk => hk))) | (dsimp only; exact Kd.own_blk (Kd.R_away HO_595000.out (fun _ hk => hk)))) _).trans (((cell_far (p := ⟨gb586, _, none⟩) (by first | exact Kd.own_blk (Kd.R_away HO_595000.out (fun _ hk => hk)) | (rw [add_block]; exact Kd.own_blk (Kd.R_away HO_595000.out (fun _ hk => hk))) | (show (Addr.add _ _).block ≠ _; rw [add_block]; exact Kd.own_blk (Kd.R_away HO_595000.out (fun _ hk => hk))) | (dsimp only; exact Kd.own_blk (Kd.R_away HO_595000.out (fun _ hk => hk)))) _).trans (hHeld.2.2))))⟩ (fun hHeld => ?_)
            clear hK K
            refine done_ (done_of HT_.out (by kernel_rfl)) ?_
            try go_wp2
            refine bodyPost_ret (results_cc rfl _ _ gb585 gb586 45 29 #[.slice (some ad599) t590.length co10] #[.int .i64 ((rd_T29 t590 t597).f0), .int .i64 ((rd_T29 t590 t597).f1)] (0, 0) (0, 0) _ _ rfl (by (with_reducible repeat refine bu ?_); refine blk_far ?_ NB585_586.out _; (with_reducible repeat refine bu ?_); refine blk_far ?_ NB585_586.out _; (with_reducible repeat refine bu ?_); refine blk_put (cs := #[.slice none 0 0]) ?_ 0 _ rfl; (with_reducible repeat refine bu ?_); exact BK585.out) Try.underlying45 rfl (by kernel_rfl) rfl (by (with_reducible repeat refine bu ?_); refine blk_put (cs := #[.int .i64 ((rd_T29 t590 t597).f0), .int .i64 0]) ?_ 1 _ rfl; (with_reducible repeat refine bu ?_); refine blk_put (cs := #[.int .i64 0, .int .i64 0]) ?_ 0 _ rfl; (with_reducible repeat refine bu ?_); refine blk_far ?_ NB586_585.out _; (with_reducible repeat refine bu ?_); exact BK586.out) Try.underlying29 rfl (by kernel_rfl)) rfl ?_
            exact ⟨_, by first | rfl | (simp [errW_none, errW_some] <;> rfl) | (simp [*, errW_none, errW_some] <;> rfl), by (with_reducible repeat apply ru); exact Kd.R_mono (Kd.R_far (p := ⟨gb586, 1, none⟩) (Kd.R_far (p := ⟨gb586, 0, none⟩) (Kd.R_far (p := ⟨gb585, 0, none⟩) (Kd.R_mono (Kd.R_types HO_595000.out BK585.out (by decide)) (fun k_ hk => (⟨hk, hk.1⟩ : _ ∧ k_ ≠ gb586))) (fun _ hk => hk.1.2) (.slice (some ad599) t590.length co10)) (fun _ hk => hk.2) (.int .i64 ((rd_T29 t590 t597).f0))) (fun _ hk => hk.2) (.int .i64 ((rd_T29 t590 t597).f1))) (fun _ hk => trivial), by repeat (first | (with_reducible first | exact HB.out | apply below_alloc | apply pw_below_drewN | apply below_drew1 | refine below_set ?_ (IsS102.ge HI589.out) | refine below_set ?_ GE585.out | refine below_set ?_ GE586.out | refine below_set ?_ GE594.out) | exact HB.out)⟩
          · rw [if_neg c29] at H
            exact absurd H (by simp)
        · rw [if_neg c28] at H
          exact absurd H (by simp)
      · replace c26 := Bool.eq_false_iff.mpr c26
        subst c26
        have H1 : ((spec_l20End.f kj3 t587 x590001_3 9).bind fun bt600 => (some (t590, bt600.1, bt600.2.1))) = some (r1, r2, r3) := by rw [if_neg (show ¬ (false = true) by decide)] at H; exact H
        clear H
        have H := H1
        clear H1
        replace H := Option.bind_eq_some_iff.mp H
        obtain ⟨⟨t600, t601, t602⟩, A350, H⟩ := H
        replace H : (some (t590, t600, t601)) = some (r1, r2, r3) := H
        have A35 := Aside0.mk A350
        clear A350
        simp only [Option.some.injEq, Prod.mk.injEq] at H
        obtain ⟨rfl, rfl, rfl⟩ := H
        try go_wp2
        have n0_ := Aside0.mk (Kd.R_drew HO_595000.out)
        have n1_ := Aside0.mk (blk_drew BK585.out)
        have n2_ := Aside0.mk (blk_drew BK586.out)
        have n3_ := Aside0.mk (blk_drew BK594.out)
        have n4_ := Aside0.mk (IsS102.drew HI589.out)
        have n5_ := Aside0.mk (below_drew1 HB.out)
        clear HO_595000
        clear BK585
        clear BK586
        clear BK594
        clear HI589
        clear HB
        have HO_595000 := n0_
        have BK585 := n1_
        have BK586 := n2_
        have BK594 := n3_
        have HI589 := n4_
        have HB := n5_
        clear n0_ n1_ n2_ n3_ n4_ n5_
        refine start_ (n := 5) (S := fun w' => w'.cell? ⟨gb594, 0, none⟩ = some (.slice Ao10 t590.length co10)) (ds := []) #[false, false, false, false, false] (by kernel_rfl) rfl rfl ((blk_cell BK594.out 0).trans rfl) (fun hHeld => ?_)
        generalize wc.drew = w36 at HO_595000 BK585 BK586 BK594 HI589 HB hHeld ⊢
        refine pure_ (i := 1) (N := some 30) (v := ?_) (a' := ?_) #[false, true, false, false, false] rfl rfl (by kernel_rfl) (fun _ _ _ h => h) (Or.inl ⟨by rfl, ?_⟩) ?_ ?_
        rotate_left
        · intro w'
          go_simp
          with_reducible rfl
        rotate_left
        · simp only [Act.put, List.setIfInBounds_toArray, List.set_cons_zero, List.set_cons_succ, i64_w, i32_w]
          rfl
        refine take_ (i := 0) (N := some 29) (v := ?_) (a' := ?_) #[true, true, false, false, false] rfl rfl (by kernel_rfl) (fun _ _ _ h => h) (Or.inl ⟨by rfl, ?_⟩) hHeld ?_ ?_
        rotate_left
        · intro w' s0
          go_simp
          with_reducible rfl
        rotate_left
        · simp only [Act.put, List.setIfInBounds_toArray, List.set_cons_zero, List.set_cons_succ, i64_w, i32_w]
          rfl
        refine one_ (i := 2) (N := some 31) #[true, true, true, false, false] rfl rfl (by kernel_rfl) (by decide) (fun K hK => ?_)
        refine goes_ Try.func60 (by kernel_rfl) rfl #[.pointer (some ⟨g589, 0, none⟩), .int .i64 9] (by rfl) rfl rfl (by (try simp only [List.map_toArray, List.map_cons, List.map_nil]); first | done | rfl | (simp only [List.length_drop, List.length_take]; rfl)) ?_
        with_reducible refine (spec_l20End.calls kj3 g589 t587 x590001_3 9 t600 t601 t602 w _ ?side1 ?side2 A35.out).mono ?_
        (case side1 => repeat (first | (with_reducible first | exact HI589.out | apply IsS102.alloc | apply IsS102.drewN | apply IsS102.drew | apply IsS102.set_1 | refine IsS102.far ?_ NB589_585.out _ | refine IsS102.far ?_ NB589_586.out _ | refine IsS102.far ?_ NB589_594.out _) | exact HI589.out))
        (case side2 => repeat (first | (with_reducible first | exact HB.out | apply below_alloc | apply pw_below_drewN | apply below_drew1 | refine below_set ?_ (IsS102.ge HI589.out) | refine below_set ?_ GE585.out | refine below_set ?_ GE586.out | refine below_set ?_ GE594.out) | exact HB.out))
        rintro e w37 ⟨rfl, hi, hb, hk⟩
        refine ⟨_, rfl, ?_⟩
        have n0_ := Aside0.mk (Kd.R_mono (Kd.R_keep (IsS102.apart (show IsS102 w _ g589 t587 x590001_3 from by repeat (first | (with_reducible first | exact HI589.out | apply IsS102.alloc | apply IsS102.drewN | apply IsS102.drew | apply IsS102.set_1 | refine IsS102.far ?_ NB589_585.out _ | refine IsS102.far ?_ NB589_586.out _ | refine IsS102.far ?_ NB589_594.out _) | exact HI589.out)) (rs HO_595000) (by decide)) hk (fun _ h => h.2)) (fun _ h => h.1))
        have n1_ := Aside0.mk (KeepBut.blk hk (g' := gb585) (o := .cells #[.slice none 0 0] 45 (0, 0)) (bk BK585) NB585_589.out (by simp))
        have n2_ := Aside0.mk (KeepBut.blk hk (g' := gb586) (o := .cells #[.int .i64 0, .int .i64 0] 29 (0, 0)) (bk BK586) NB586_589.out (by simp))
        have n3_ := Aside0.mk (KeepBut.blk hk (g' := gb594) (o := .cells #[.slice Ao10 t590.length co10] 45 (0, 0)) (bk BK594) NB594_589.out (by simp))
        have n4_ := Aside0.mk (hb)
        have n5_ := Aside0.mk (hi)
        clear HO_595000
        clear BK585
        clear BK586
        clear BK594
        clear HB
        clear HI589
        have HO_595000 := n0_
        have BK585 := n1_
        have BK586 := n2_
        have BK594 := n3_
        have HB := n4_
        have HI589 := n5_
        clear n0_ n1_ n2_ n3_ n4_ n5_
        (try clear hb)
        (try clear hb2)
        (try clear hk)
        (try clear hi)
        refine hK.out _ _ ((blk_cell BK594.out 0).trans rfl) (fun hHeld => ?_)
        clear hK K
        refine norm_ (a' := ?_) ?_ ?_
        rotate_left
        · show Act.put _ (some 31) _ = _
          simp only [Act.put, List.setIfInBounds_toArray, List.set_cons_zero, List.set_cons_succ, i64_w, i32_w]
          rfl
        refine one_ (i := 3) (N := none) #[true, true, true, true, false] rfl rfl (by kernel_rfl) (by decide) (fun K hK => ?_)
        have hs38 : w37.cell? ⟨gb585, 0, none⟩ = some (.slice none 0 0) := (blk_cell BK585.out 0).trans rfl
        have hfs38 := blk_frozen BK585.out 0
        have hns38_1 := NB586_585.out
        have hns38_2 := NB594_585.out
        have hms38_1 := NB585_586.out
        have hms38_2 := NB585_594.out
        refine skip_ (w1 := ?_) (by rfl) rfl ?_ ?_
        rotate_left
        · go_simp
          rfl
        refine hK.out _ _ (((cell_far (p := ⟨gb585, _, none⟩) NB594_585.out _).trans (hHeld))) (fun hHeld => ?_)
        clear hK K
        refine one_ (i := 4) (N := none) #[true, true, true, true, true] rfl rfl (by kernel_rfl) (by decide) (fun K hK => ?_)
        have hs39 : w37.cell? ⟨gb586, 0, none⟩ = some (.int .i64 0) := (blk_cell BK586.out 0).trans rfl
        have hfs39 := blk_frozen BK586.out 0
        have hns39_0 := NB585_586.out
        have hns39_2 := NB594_586.out
        have hms39_0 := NB586_585.out
        have hms39_2 := NB586_594.out
        have hs40 : w37.cell? ⟨gb586, 1, none⟩ = some (.int .i64 0) := (blk_cell BK586.out 1).trans rfl
        have hfs40 := blk_frozen BK586.out 1
        have hns40_0 := NB585_586.out
        have hns40_2 := NB594_586.out
        have hms40_0 := NB586_585.out
        have hms40_2 := NB586_594.out
        refine skip_ (w1 := ?_) (by rfl) rfl ?_ ?_
        rotate_left
        · go_simp
          rfl
        refine hK.out _ _ (((cell_far (p := ⟨gb586, _, none⟩) NB594_586.out _).trans (((cell_far (p := ⟨gb586, _, none⟩) NB594_586.out _).trans (hHeld))))) (fun hHeld => ?_)
        clear hK K
        refine done_ (by kernel_rfl) ?_
        try go_wp2
        refine bodyPost_ret (results_cc rfl _ _ gb585 gb586 45 29 #[.slice Ao10 t590.length co10] #[.int .i64 t600, .int .i64 t601] (0, 0) (0, 0) _ _ rfl (by (with_reducible repeat refine bu ?_); refine blk_far ?_ NB585_586.out _; (with_reducible repeat refine bu ?_); refine blk_far ?_ NB585_586.out _; (with_reducible repeat refine bu ?_); refine blk_put (cs := #[.slice none 0 0]) ?_ 0 _ rfl; (with_reducible repeat refine bu ?_); exact BK585.out) Try.underlying45 rfl (by kernel_rfl) rfl (by (with_reducible repeat refine bu ?_); refine blk_put (cs := #[.int .i64 t600, .int .i64 0]) ?_ 1 _ rfl; (with_reducible repeat refine bu ?_); refine blk_put (cs := #[.int .i64 0, .int .i64 0]) ?_ 0 _ rfl; (with_reducible repeat refine bu ?_); refine blk_far ?_ NB586_585.out _; (with_reducible repeat refine bu ?_); exact BK586.out) Try.underlying29 rfl (by kernel_rfl)) rfl ?_
        exact ⟨_, by first | rfl | (simp [errW_none, errW_some] <;> rfl) | (simp [*, errW_none, errW_some] <;> rfl), by (with_reducible repeat apply ru); exact Kd.R_mono (Kd.R_far (p := ⟨gb586, 1, none⟩) (Kd.R_far (p := ⟨gb586, 0, none⟩) (Kd.R_far (p := ⟨gb585, 0, none⟩) (Kd.R_mono (Kd.R_types HO_595000.out BK585.out (by decide)) (fun k_ hk => (⟨hk, hk.1⟩ : _ ∧ k_ ≠ gb586))) (fun _ hk => hk.1.2) (.slice Ao10 t590.length co10)) (fun _ hk => hk.2) (.int .i64 t600)) (fun _ hk => hk.2) (.int .i64 t601)) (fun _ hk => trivial), by repeat (first | (with_reducible first | exact HB.out | apply below_alloc | apply pw_below_drewN | apply below_drew1 | refine below_set ?_ (IsS102.ge HI589.out) | refine below_set ?_ GE585.out | refine below_set ?_ GE586.out | refine below_set ?_ GE594.out) | exact HB.out)⟩

end Go.Proofs.Ytiocgkggegahhaa.P

-- written by hw.py for this claim
namespace Go.Proofs.Ytiocgkggegahhaa.P
open Go.RowKit Go.Proofs.YtiocgkggegahhaaUFnExactMapPut.PrintWords Go.Proofs.YtiocgkggegahhaaUFnExactMapPut.PrintLast Go.Proofs.YtiocgkggegahhaaUFnExactMapPut.PrintMore
attribute [local go_sem] max2_int min2_int max_two min_two max_three min_three max_four min_four
set_option linter.unusedVariables false
set_option linter.unusedSimpArgs false

/-! ### spec_DrawMapPut: function 24 -/
def spec_DrawMapPut.f (k : Nat) (l0 : List Int) : Option ((List (S29)) × Int × Int) := (spec_DrawMapPort.f k l0).bind fun bt605 => (some (bt605.1, bt605.2.1, bt605.2.2))
theorem spec_DrawMapPut.mono : ∀ a0 k, LeO (spec_DrawMapPut.f k a0) (spec_DrawMapPut.f (k + 1) a0) := by
  intro a0 k
  unfold spec_DrawMapPut.f
  repeat' first
      | (with_reducible exact spec_DrawMapPort.mono _ _)
      | (with_reducible exact LeO.refl _)
      | (with_reducible exact LeO.none _)
      | (with_reducible refine LeO.ite ?_ ?_)
      | (with_reducible refine LeO.bind ?_ (fun _ => ?_))
      | exact spec_DrawMapPort.mono _ _
      | exact LeO.none _
      | refine LeO.ite ?_ ?_
      | refine LeO.bind ?_ (fun _ => ?_)
set_option maxHeartbeats 8000000 in
set_option maxRecDepth 100000 in
theorem spec_DrawMapPut.calls (k : Nat) (A0 : Option Addr) (c0 : Nat) (l0 : List Int) (r1 : List (S29)) (r2 : Int) (r3 : Int) (w : World) (hr0 : Kd.C (Kd.int .u8) w A0 l0.length l0) (hc0 : l0.length ≤ c0) (h : spec_DrawMapPut.f k l0 = some (r1, r2, r3)) :
    Calls Try.prog 24 #[.slice A0 l0.length c0] w fun e w' => ∃ v0_ : Value, e = .returned (.tuple #[.agg #[v0_], .agg #[.int .i64 r2, .int .i64 r3]]) ∧ Kd.R k29 29 w' w.heap.size (fun _ => True) v0_ r1 ∧ Below w.heap.size w w' := by
  have hu45 := Try.underlying45
  have hu29 := Try.underlying29
  have HR0 := Aside0.mk hr0
  have HC0 := Aside0.mk hc0
  clear hr0 hc0
  have HB := Aside0.mk (Below.refl w.heap.size w)
  have H : ((spec_DrawMapPort.f k l0).bind fun bt605 => (some (bt605.1, bt605.2.1, bt605.2.2))) = some (r1, r2, r3) := h
  clear h
  replace H := Option.bind_eq_some_iff.mp H
  obtain ⟨⟨t605, t608, t609⟩, A20, H⟩ := H
  replace H : (some (t605, t608, t609)) = some (r1, r2, r3) := H
  have A2 := Aside0.mk A20
  clear A20
  simp only [Option.some.injEq, Prod.mk.injEq] at H
  obtain ⟨rfl, rfl, rfl⟩ := H
  go_enter Try.func24, Try.ntmps24
  go_wp2_with (first | ((with_reducible refine gate_dst (N := 2) rfl ?_); refine box_event ?hg (N := 2) ?hd (cs := #[.slice none 0 0]) (t := 45) ?hr ?_; (case hd => rfl); (case hg => rfl); (case hr => first | (go_simp; done) | (go_simp; rfl)); intro gb603 hg w3 hbox hb; have n0_ := Aside0.mk (below_step (bl HB) hb); have n1_ := Aside0.mk (hbox); have n2_ := Aside0.mk ((by rw [hg]; exact (below_size (bl HB)) : w.heap.size ≤ gb603)); have n3_ := Aside0.mk ((by rw [hg]; exact (below_size (bl HB)) : w.heap.size ≤ gb603)); clear HB; have HB := n0_; have BK603 := n1_; have GW603 := n2_; have GE603 := n3_; clear n0_ n1_ n2_ n3_; clear hb hbox hg) | ((with_reducible refine gate_dst (N := 3) rfl ?_); refine box_event ?hg (N := 3) ?hd (cs := #[.int .i64 0, .int .i64 0]) (t := 29) ?hr ?_; (case hd => rfl); (case hg => rfl); (case hr => first | (go_simp; done) | (go_simp; rfl)); intro gb604 hg w4 hbox hb; have n0_ := bkB BK603 hb; have n1_ := Aside0.mk (below_step (bl HB) hb); have n2_ := Aside0.mk (hbox); have n3_ := Aside0.mk ((by rw [hg]; exact (below_size (bl HB)) : w.heap.size ≤ gb604)); have n4_ := Aside0.mk ((by rw [hg]; exact (below_size (bl HB)) : w.heap.size ≤ gb604)); have n5_ := Aside0.mk ((by rw [hg]; exact Nat.ne_of_lt (bkL BK603) : gb603 ≠ gb604)); have n6_ := Aside0.mk ((by rw [hg]; exact Nat.ne_of_gt (bkL BK603) : gb604 ≠ gb603)); clear BK603; clear HB; have BK603 := n0_; have HB := n1_; have BK604 := n2_; have GW604 := n3_; have GE604 := n4_; have NB603_604 := n5_; have NB604_603 := n6_; clear n0_ n1_ n2_ n3_ n4_ n5_ n6_; clear hb hbox hg) | ((with_reducible refine gate_callee (f := 63) rfl ?_); refine goesL_ (some 5) rfl rfl Try.func63 (by kernel_rfl) rfl #[.slice A0 l0.length c0] rfl (by (try simp only [List.map_toArray, List.map_cons, List.map_nil]); first | done | rfl | (simp only [List.length_drop, List.length_take]; rfl)) ?_; (with_reducible refine (spec_DrawMapPort.calls k _ _ l0 t605 t608 t609 _ ?side1 ?side2 A2.out).mono ?_); (case side1 => repeat (first | exact (Kd.C_below HR0.out HB.out) | (with_reducible refine Kd.C_alloc ?_ _) | (with_reducible refine Kd.C_drewN ?_ _) | (with_reducible refine Kd.C_drew ?_))); (case side2 => exact HC0.out); rintro e w5 ⟨v606, rfl, ho0, hb⟩; refine ⟨_, rfl, ?_⟩; have n0_ := Aside0.mk (Kd.R_lower (Kd.R_newB ho0 (g := gb604) (o := .cells #[.int .i64 0, .int .i64 0] 29 (0, 0)) (bk BK604)) (below_size (bl HB))); have n1_ := bkB BK603 hb; have n2_ := bkB BK604 hb; have n3_ := Aside0.mk (below_step (bl HB) hb); clear BK603; clear BK604; clear HB; have HO607 := n0_; have BK603 := n1_; have BK604 := n2_; have HB := n3_; clear n0_ n1_ n2_ n3_; (try clear hb); (try clear hb2); (try clear hk); (try clear hi); (try clear ho0); obtain ⟨Ao6, co6, eo6⟩ := Kd.R_slice HO607.out; subst eo6; have hnb7 := NB603_604.out; have hnc7 := NB604_603.out; have hcz8_0 : w5.cell? ⟨gb603, 0, none⟩ = some (.slice none 0 0) := (blk_cell BK603.out 0).trans rfl; have hfz8_0 := blk_frozen BK603.out 0; have hcz9_0 : w5.cell? ⟨gb604, 0, none⟩ = some (.int .i64 0) := (blk_cell BK604.out 0).trans rfl; have hcz9_1 : w5.cell? ⟨gb604, 1, none⟩ = some (.int .i64 0) := (blk_cell BK604.out 1).trans rfl; have hfz9_0 := blk_frozen BK604.out 0; have hfz9_1 := blk_frozen BK604.out 1))
  refine bodyPost_ret (results_cc rfl _ _ gb603 gb604 45 29 #[.slice Ao6 t605.length co6] #[.int .i64 t608, .int .i64 t609] (0, 0) (0, 0) _ _ rfl (by (with_reducible repeat refine bu ?_); refine blk_far ?_ NB603_604.out _; (with_reducible repeat refine bu ?_); refine blk_far ?_ NB603_604.out _; (with_reducible repeat refine bu ?_); refine blk_put (cs := #[.slice none 0 0]) ?_ 0 _ rfl; (with_reducible repeat refine bu ?_); exact BK603.out) Try.underlying45 rfl (by kernel_rfl) rfl (by (with_reducible repeat refine bu ?_); refine blk_put (cs := #[.int .i64 t608, .int .i64 0]) ?_ 1 _ rfl; (with_reducible repeat refine bu ?_); refine blk_put (cs := #[.int .i64 0, .int .i64 0]) ?_ 0 _ rfl; (with_reducible repeat refine bu ?_); refine blk_far ?_ NB604_603.out _; (with_reducible repeat refine bu ?_); exact BK604.out) Try.underlying29 rfl (by kernel_rfl)) rfl ?_
  exact ⟨_, by first | rfl | (simp [errW_none, errW_some] <;> rfl) | (simp [*, errW_none, errW_some] <;> rfl), by (with_reducible repeat apply ru); exact Kd.R_mono (Kd.R_far (p := ⟨gb604, 1, none⟩) (Kd.R_far (p := ⟨gb604, 0, none⟩) (Kd.R_far (p := ⟨gb603, 0, none⟩) (Kd.R_mono (Kd.R_types HO607.out BK603.out (by decide)) (fun k_ hk => (⟨hk, hk.1.2⟩ : _ ∧ k_ ≠ gb604))) (fun _ hk => hk.1.2) (.slice Ao6 t605.length co6)) (fun _ hk => hk.2) (.int .i64 t608)) (fun _ hk => hk.2) (.int .i64 t609)) (fun _ hk => trivial), by repeat (first | (with_reducible first | exact HB.out | apply below_alloc | apply pw_below_drewN | apply below_drew1 | refine below_set ?_ GE603.out | refine below_set ?_ GE604.out) | exact HB.out)⟩

end Go.Proofs.Ytiocgkggegahhaa.P

-- written by hw.py for this claim
namespace Go.Proofs.Ytiocgkggegahhaa.P
open Go.RowKit Go.Proofs.YtiocgkggegahhaaUFnExactMapPut.PrintWords Go.Proofs.YtiocgkggegahhaaUFnExactMapPut.PrintLast Go.Proofs.YtiocgkggegahhaaUFnExactMapPut.PrintMore
attribute [local go_sem] max2_int min2_int max_two min_two max_three min_three max_four min_four
set_option linter.unusedVariables false
set_option linter.unusedSimpArgs false

attribute [local go_sem high] eqA29
/-! ### impl_EndPoint_97: function 97 -/
def impl_EndPoint_97.l0 : Nat → List (S29) → Int → Int → Int → Int → Option (Int)
  | 0, _, _, _, _, _ => none
  | k + 1, x0, x7, x8, x611000, x611001 => if x8 < x7 then (if 0 ≤ x8 then (if x8 < (x0.length : Int) then (if (x611000 == ((rd_T29 x0 x8).f0) && (x611001 == ((rd_T29 x0 x8).f1))) = true then (some x8) else (impl_EndPoint_97.l0 k x0 x7 (wrap64 (x8 + 1)) x611000 x611001)) else (none)) else (none)) else (some (-1))
def impl_EndPoint_97.f (k : Nat) (l0 : List (S29)) (a1_0 : Int) (a1_1 : Int) : Option (Int) := impl_EndPoint_97.l0 k l0 (l0.length : Int) 0 a1_0 a1_1
theorem impl_EndPoint_97.mono_l : ∀ k, (∀ y0 y1 y2 y3 y4, LeO (impl_EndPoint_97.l0 k y0 y1 y2 y3 y4) (impl_EndPoint_97.l0 (k + 1) y0 y1 y2 y3 y4))
  | 0 => fun _ _ _ _ _ r h => by simp [impl_EndPoint_97.l0] at h
  | k + 1 => by
    have ih0 := impl_EndPoint_97.mono_l k
    · intro y0 y1 y2 y3 y4
      unfold impl_EndPoint_97.l0
      repeat' first
      | (with_reducible exact ih0 _ _ _ _ _)
      | (with_reducible exact LeO.refl _)
      | (with_reducible exact LeO.none _)
      | (with_reducible refine LeO.ite ?_ ?_)
      | (with_reducible refine LeO.bind ?_ (fun _ => ?_))
      | exact ih0 _ _ _ _ _
      | exact LeO.none _
      | refine LeO.ite ?_ ?_
      | refine LeO.bind ?_ (fun _ => ?_)
theorem impl_EndPoint_97.mono : ∀ a0 a1 a2 k, LeO (impl_EndPoint_97.f k a0 a1 a2) (impl_EndPoint_97.f (k + 1) a0 a1 a2) := by
  intro a0 a1 a2 k
  have ih0 := impl_EndPoint_97.mono_l k
  unfold impl_EndPoint_97.f
  repeat' first
      | (with_reducible exact ih0 _ _ _ _ _)
      | (with_reducible exact LeO.refl _)
      | (with_reducible exact LeO.none _)
      | (with_reducible refine LeO.ite ?_ ?_)
      | (with_reducible refine LeO.bind ?_ (fun _ => ?_))
      | exact ih0 _ _ _ _ _
      | exact LeO.none _
      | refine LeO.ite ?_ ?_
      | refine LeO.bind ?_ (fun _ => ?_)
set_option maxHeartbeats 8000000 in
set_option maxRecDepth 100000 in
theorem impl_EndPoint_97.calls (k : Nat) (A0 : Option Addr) (c0 : Nat) (l0 : List (S29)) (a1_0 : Int) (a1_1 : Int) (r : Int) (w : World) (hr0 : Kd.C k29 w A0 l0.length l0) (hc0 : l0.length ≤ c0) (h : impl_EndPoint_97.f k l0 a1_0 a1_1 = some r) :
    Calls Try.prog 97 #[.slice A0 l0.length c0, .agg #[.int .i64 a1_0, .int .i64 a1_1]] w fun e w' => e = .returned (.int .i64 r) ∧ Below w.heap.size w w' := by
  have hu29 := Try.underlying29
  have HR0 := Aside0.mk hr0
  have HC0 := Aside0.mk hc0
  clear hr0 hc0
  have HB := Aside0.mk (Below.refl w.heap.size w)
  have H : (impl_EndPoint_97.l0 k l0 (l0.length : Int) 0 a1_0 a1_1) = some r := h
  clear h
  have H' := Aside0.mk H
  clear H
  go_enter Try.func97, Try.ntmps97
  go_wp2_with (first | ((with_reducible refine gate_dst (N := 3) rfl ?_); refine box_event ?hg (N := 3) ?hd (cs := #[.int .i64 a1_0, .int .i64 a1_1]) (t := 29) ?hr ?_; (case hd => rfl); (case hg => rfl); (case hr => first | (go_simp; done) | (go_simp; rfl)); intro gb610 hg w3 hbox hb; have n0_ := Aside0.mk (below_step (bl HB) hb); have n1_ := Aside0.mk (hbox); have n2_ := Aside0.mk ((by rw [hg]; exact (below_size (bl HB)) : w.heap.size ≤ gb610)); have n3_ := Aside0.mk ((by rw [hg]; exact (below_size (bl HB)) : w.heap.size ≤ gb610)); clear HB; have HB := n0_; have BK610 := n1_; have GW610 := n2_; have GE610 := n3_; clear n0_ n1_ n2_ n3_; clear hb hbox hg))
  repeat (go_quiet (first | ((with_reducible refine gate_dst (N := 3) rfl ?_); refine box_event ?hg (N := 3) ?hd (cs := #[.int .i64 a1_0, .int .i64 a1_1]) (t := 29) ?hr ?_; (case hd => rfl); (case hg => rfl); (case hr => first | (go_simp; done) | (go_simp; rfl)); intro gb610 hg w3 hbox hb; have n0_ := Aside0.mk (below_step (bl HB) hb); have n1_ := Aside0.mk (hbox); have n2_ := Aside0.mk ((by rw [hg]; exact (below_size (bl HB)) : w.heap.size ≤ gb610)); have n3_ := Aside0.mk ((by rw [hg]; exact (below_size (bl HB)) : w.heap.size ≤ gb610)); clear HB; have HB := n0_; have BK610 := n1_; have GW610 := n2_; have GE610 := n3_; clear n0_ n1_ n2_ n3_; clear hb hbox hg)); try go_wp2_with (first | ((with_reducible refine gate_dst (N := 3) rfl ?_); refine box_event ?hg (N := 3) ?hd (cs := #[.int .i64 a1_0, .int .i64 a1_1]) (t := 29) ?hr ?_; (case hd => rfl); (case hg => rfl); (case hr => first | (go_simp; done) | (go_simp; rfl)); intro gb610 hg w3 hbox hb; have n0_ := Aside0.mk (below_step (bl HB) hb); have n1_ := Aside0.mk (hbox); have n2_ := Aside0.mk ((by rw [hg]; exact (below_size (bl HB)) : w.heap.size ≤ gb610)); have n3_ := Aside0.mk ((by rw [hg]; exact (below_size (bl HB)) : w.heap.size ≤ gb610)); clear HB; have HB := n0_; have BK610 := n1_; have GW610 := n2_; have GE610 := n3_; clear n0_ n1_ n2_ n3_; clear hb hbox hg)))
  go_loopg [8] k (fun kq v8 w' => ∃ (x8_1 : Int), v8 = .int .i64 x8_1 ∧ Aside0 (impl_EndPoint_97.l0 kq l0 (l0.length : Int) x8_1 a1_0 a1_1 = some r) ∧ Aside0 (kq ≤ k) ∧ Aside0 (w'.heap[gb610]? = some (.cells #[.int .i64 a1_0, .int .i64 a1_1] 29 (0, 0))) ∧ Aside0 (Below w.heap.size w w'))
  case atStart => exact ⟨(0), (by first | rfl | (simp; done) | (simp [*]; done)), H', ⟨Nat.le_refl _⟩, ⟨by (with_reducible repeat refine bu ?_); exact BK610.out⟩, ⟨by repeat (first | (with_reducible first | exact HB.out | apply below_alloc | apply pw_below_drewN | apply below_drew1 | refine below_set ?_ GE610.out) | exact HB.out)⟩⟩
  case round =>
    clear H'
    try clear p2
    obtain ⟨x8_1, rfl, HA, HK1, BK610, HB⟩ := hrel
    cases gk with
    | zero => exact absurd HA.out (by simp [impl_EndPoint_97.l0])
    | succ k1 =>
      have H := HA.out
      clear HA
      simp only [impl_EndPoint_97.l0] at H
      by_cases c4 : x8_1 < (l0.length : Int)
      · rw [if_pos c4] at H
        have c4b0 : decide (x8_1 < (l0.length : Int)) = true := decide_eq_true c4
        clear c4
        by_cases c5 : 0 ≤ x8_1
        · rw [if_pos c5] at H
          have c5b0 : decide (0 ≤ x8_1) = true := decide_eq_true c5
          clear c5
          by_cases c6 : x8_1 < (l0.length : Int)
          · rw [if_pos c6] at H
            have c6b0 : decide (x8_1 < (l0.length : Int)) = true := decide_eq_true c6
            clear c6
            by_cases c7 : (a1_0 == ((rd_T29 l0 x8_1).f0) && (a1_1 == ((rd_T29 l0 x8_1).f1))) = true
            · rw [if_pos c7] at H
              have c7b0 : (a1_0 == ((rd_T29 l0 x8_1).f0) && (a1_1 == ((rd_T29 l0 x8_1).f1))) = true := c7
              (try (have c7b1 : decide (a1_0 = ((rd_T29 l0 x8_1).f0) && (a1_1 == ((rd_T29 l0 x8_1).f1))) = true := by simpa using c7))
              (try (have c7b2 : (a1_0 == ((rd_T29 l0 x8_1).f0) && (a1_1 == ((rd_T29 l0 x8_1).f1))) = true := by simpa using c7))
              clear c7
              obtain rfl := Option.some.inj H
              have hcz8_0 : wr.cell? ⟨gb610, 0, none⟩ = some (.int .i64 a1_0) := (blk_cell BK610.out 0).trans rfl
              have hcz8_1 : wr.cell? ⟨gb610, 1, none⟩ = some (.int .i64 a1_1) := (blk_cell BK610.out 1).trans rfl
              have hfz8_0 := blk_frozen BK610.out 0
              have hfz8_1 := blk_frozen BK610.out 1
              have p611 : 0 ≤ (x8_1 : Int) := of_decide_eq_true (by first | (with_reducible assumption) | assumption)
              have q611 : x8_1 < (l0.length : Int) := of_decide_eq_true (by first | (with_reducible assumption) | assumption)
              obtain ⟨ad611, e611, hx611_0, hx611_1⟩ := at_T29 HR0.out x8_1 p611 q611
              cases e611
              replace hx611_0 := (HB.out.cell (World.block_lt_of_cell? w _ hx611_0)).trans hx611_0
              replace hx611_1 := (HB.out.cell (World.block_lt_of_cell? w _ hx611_1)).trans hx611_1
              replace p611 := eq_true p611
              replace q611 := eq_true q611
              go_wp2
              repeat (go_quiet (fail); try go_wp2)
              go_ret
              exact ⟨by first | rfl | (simp [errW_none, errW_some] <;> rfl) | (simp [*, errW_none, errW_some] <;> rfl), by repeat (first | (with_reducible first | exact HB.out | apply below_alloc | apply pw_below_drewN | apply below_drew1 | refine below_set ?_ GE610.out) | exact HB.out)⟩
            · rw [if_neg c7] at H
              have c7b0 : (a1_0 == ((rd_T29 l0 x8_1).f0) && (a1_1 == ((rd_T29 l0 x8_1).f1))) = false := by simpa using c7
              (try (have c7b1 : decide (a1_0 = ((rd_T29 l0 x8_1).f0) && (a1_1 == ((rd_T29 l0 x8_1).f1))) = false := by simpa using c7))
              (try (have c7b2 : (a1_0 == ((rd_T29 l0 x8_1).f0) && (a1_1 == ((rd_T29 l0 x8_1).f1))) = false := by simpa using c7))
              (try (have c7b3 : ¬ (a1_0 = ((rd_T29 l0 x8_1).f0) && (a1_1 == ((rd_T29 l0 x8_1).f1))) := by simpa using c7))
              clear c7
              have H' := Aside0.mk H
              clear H
              have hcz9_0 : wr.cell? ⟨gb610, 0, none⟩ = some (.int .i64 a1_0) := (blk_cell BK610.out 0).trans rfl
              have hcz9_1 : wr.cell? ⟨gb610, 1, none⟩ = some (.int .i64 a1_1) := (blk_cell BK610.out 1).trans rfl
              have hfz9_0 := blk_frozen BK610.out 0
              have hfz9_1 := blk_frozen BK610.out 1
              have p611 : 0 ≤ (x8_1 : Int) := of_decide_eq_true (by first | (with_reducible assumption) | assumption)
              have q611 : x8_1 < (l0.length : Int) := of_decide_eq_true (by first | (with_reducible assumption) | assumption)
              obtain ⟨ad611, e611, hx611_0, hx611_1⟩ := at_T29 HR0.out x8_1 p611 q611
              cases e611
              replace hx611_0 := (HB.out.cell (World.block_lt_of_cell? w _ hx611_0)).trans hx611_0
              replace hx611_1 := (HB.out.cell (World.block_lt_of_cell? w _ hx611_1)).trans hx611_1
              replace p611 := eq_true p611
              replace q611 := eq_true q611
              go_wp2
              repeat (go_quiet (fail); try go_wp2)
              go_roundg k1
              case measure => have := HK1.out; omega
              case rel => exact ⟨(wrap64 (x8_1 + 1)), (by first | rfl | (simp; done) | (simp [*]; done)), H', ⟨by have := HK1.out; omega⟩, ⟨by (with_reducible repeat refine bu ?_); exact BK610.out⟩, ⟨by repeat (first | (with_reducible first | exact HB.out | apply below_alloc | apply pw_below_drewN | apply below_drew1 | refine below_set ?_ GE610.out) | exact HB.out)⟩⟩
          · rw [if_neg c6] at H
            exact absurd H (by simp)
        · rw [if_neg c5] at H
          exact absurd H (by simp)
      · rw [if_neg c4] at H
        have c4b0 : decide (x8_1 < (l0.length : Int)) = false := decide_eq_false c4
        clear c4
        obtain rfl := Option.some.inj H
        go_wp2
        repeat (go_quiet (fail); try go_wp2)
        go_ret
        exact ⟨by first | rfl | (simp [errW_none, errW_some] <;> rfl) | (simp [*, errW_none, errW_some] <;> rfl), by repeat (first | (with_reducible first | exact HB.out | apply below_alloc | apply pw_below_drewN | apply below_drew1 | refine below_set ?_ GE610.out) | exact HB.out)⟩

end Go.Proofs.Ytiocgkggegahhaa.P

-- written by hw.py for this claim
namespace Go.Proofs.Ytiocgkggegahhaa.P
open Go.RowKit Go.Proofs.YtiocgkggegahhaaUFnExactMapPut.PrintWords Go.Proofs.YtiocgkggegahhaaUFnExactMapPut.PrintLast Go.Proofs.YtiocgkggegahhaaUFnExactMapPut.PrintMore
attribute [local go_sem] max2_int min2_int max_two min_two max_three min_three max_four min_four
set_option linter.unusedVariables false
set_option linter.unusedSimpArgs false

/-! ### impl_EndPoint_75: function 75 -/
def impl_EndPoint_75.f (k : Nat) (l0 : List (S29)) (a1_0 : Int) (a1_1 : Int) : Option (Bool) := (impl_EndPoint_97.f k l0 a1_0 a1_1).bind fun t613 => (some (decide (t613 ≥ 0)))
theorem impl_EndPoint_75.mono : ∀ a0 a1 a2 k, LeO (impl_EndPoint_75.f k a0 a1 a2) (impl_EndPoint_75.f (k + 1) a0 a1 a2) := by
  intro a0 a1 a2 k
  unfold impl_EndPoint_75.f
  repeat' first
      | (with_reducible exact impl_EndPoint_97.mono _ _ _ _)
      | (with_reducible exact LeO.refl _)
      | (with_reducible exact LeO.none _)
      | (with_reducible refine LeO.ite ?_ ?_)
      | (with_reducible refine LeO.bind ?_ (fun _ => ?_))
      | exact impl_EndPoint_97.mono _ _ _ _
      | exact LeO.none _
      | refine LeO.ite ?_ ?_
      | refine LeO.bind ?_ (fun _ => ?_)
set_option maxHeartbeats 8000000 in
set_option maxRecDepth 100000 in
theorem impl_EndPoint_75.calls (k : Nat) (A0 : Option Addr) (c0 : Nat) (l0 : List (S29)) (a1_0 : Int) (a1_1 : Int) (r : Bool) (w : World) (hr0 : Kd.C k29 w A0 l0.length l0) (hc0 : l0.length ≤ c0) (h : impl_EndPoint_75.f k l0 a1_0 a1_1 = some r) :
    Calls Try.prog 75 #[.slice A0 l0.length c0, .agg #[.int .i64 a1_0, .int .i64 a1_1]] w fun e w' => e = .returned (.bool r) ∧ Below w.heap.size w w' := by
  have hu29 := Try.underlying29
  have HR0 := Aside0.mk hr0
  have HC0 := Aside0.mk hc0
  clear hr0 hc0
  have HB := Aside0.mk (Below.refl w.heap.size w)
  have H : ((impl_EndPoint_97.f k l0 a1_0 a1_1).bind fun t613 => (some (decide (t613 ≥ 0)))) = some r := h
  clear h
  replace H := Option.bind_eq_some_iff.mp H
  obtain ⟨t613, A30, H⟩ := H
  replace H : (some (decide (t613 ≥ 0))) = some r := H
  have A3 := Aside0.mk A30
  clear A30
  obtain rfl := Option.some.inj H
  go_enter Try.func75, Try.ntmps75
  go_wp2_with (first | ((with_reducible refine gate_dst (N := 3) rfl ?_); refine box_event ?hg (N := 3) ?hd (cs := #[.int .i64 a1_0, .int .i64 a1_1]) (t := 29) ?hr ?_; (case hd => rfl); (case hg => rfl); (case hr => first | (go_simp; done) | (go_simp; rfl)); intro gb612 hg w4 hbox hb; have n0_ := Aside0.mk (below_step (bl HB) hb); have n1_ := Aside0.mk (hbox); have n2_ := Aside0.mk ((by rw [hg]; exact (below_size (bl HB)) : w.heap.size ≤ gb612)); have n3_ := Aside0.mk ((by rw [hg]; exact (below_size (bl HB)) : w.heap.size ≤ gb612)); clear HB; have HB := n0_; have BK612 := n1_; have GW612 := n2_; have GE612 := n3_; clear n0_ n1_ n2_ n3_; clear hb hbox hg; have hcz5_0 : w4.cell? ⟨gb612, 0, none⟩ = some (.int .i64 a1_0) := (blk_cell BK612.out 0).trans rfl; have hcz5_1 : w4.cell? ⟨gb612, 1, none⟩ = some (.int .i64 a1_1) := (blk_cell BK612.out 1).trans rfl; have hfz5_0 := blk_frozen BK612.out 0; have hfz5_1 := blk_frozen BK612.out 1) | ((with_reducible refine gate_callee (f := 97) rfl ?_); refine goesL_ (some 7) rfl rfl Try.func97 (by kernel_rfl) rfl #[.slice A0 l0.length c0, .agg #[.int .i64 a1_0, .int .i64 a1_1]] rfl (by (try simp only [List.map_toArray, List.map_cons, List.map_nil]); first | done | rfl | (simp only [List.length_drop, List.length_take]; rfl)) ?_; (with_reducible refine (impl_EndPoint_97.calls k _ _ l0 a1_0 a1_1 t613 _ ?side1 ?side2 A3.out).mono ?_); (case side1 => repeat (first | exact (Kd.C_below HR0.out HB.out) | (with_reducible refine Kd.C_alloc ?_ _) | (with_reducible refine Kd.C_drewN ?_ _) | (with_reducible refine Kd.C_drew ?_))); (case side2 => exact HC0.out); rintro e w6 ⟨rfl, hb⟩; refine ⟨_, rfl, ?_⟩; have n0_ := bkB BK612 hb; have n1_ := Aside0.mk (below_step (bl HB) hb); clear BK612; clear HB; have BK612 := n0_; have HB := n1_; clear n0_ n1_; (try clear hb); (try clear hb2); (try clear hk); (try clear hi)))
  go_ret
  exact ⟨by first | rfl | (simp [errW_none, errW_some] <;> rfl) | (simp [*, errW_none, errW_some] <;> rfl), by repeat (first | (with_reducible first | exact HB.out | apply below_alloc | apply pw_below_drewN | apply below_drew1 | refine below_set ?_ GE612.out) | exact HB.out)⟩

end Go.Proofs.Ytiocgkggegahhaa.P

-- written by hw.py for this claim
namespace Go.Proofs.Ytiocgkggegahhaa.P
open Go.RowKit Go.Proofs.YtiocgkggegahhaaUFnExactMapPut.PrintWords Go.Proofs.YtiocgkggegahhaaUFnExactMapPut.PrintLast Go.Proofs.YtiocgkggegahhaaUFnExactMapPut.PrintMore
attribute [local go_sem] max2_int min2_int max_two min_two max_three min_three max_four min_four
set_option linter.unusedVariables false
set_option linter.unusedSimpArgs false

/-! ### impl_MapOk: function 35 -/
def impl_MapOk.l0 : Nat → List (S29) → Int → Int → List (S29) → Option (Bool)
  | 0, _, _, _, _ => none
  | k + 1, x6, x7, x8, x615000 => if x8 < x7 then (if 0 ≤ x8 then (if x8 < (x6.length : Int) then ((impl_EndInside.f ((rd_T29 x6 x8).f0) ((rd_T29 x6 x8).f1)).bind fun t617 => (if t617 = true then (if x8 ≤ (x615000.length : Int) then ((impl_EndPoint_75.f k (x615000.take (x8 : Int).toNat) ((rd_T29 x6 x8).f0) ((rd_T29 x6 x8).f1)).bind fun t622 => (if t622 = true then (some false) else (impl_MapOk.l0 k x6 x7 (wrap64 (x8 + 1)) x615000))) else (none)) else (some false))) else (none)) else (none)) else (some (decide ((x615000.length : Int) ≤ 6)))
def impl_MapOk.f (k : Nat) (l0_0 : List (S29)) : Option (Bool) := impl_MapOk.l0 k l0_0 (l0_0.length : Int) 0 l0_0
theorem impl_MapOk.mono_l : ∀ k, (∀ y0 y1 y2 y3, LeO (impl_MapOk.l0 k y0 y1 y2 y3) (impl_MapOk.l0 (k + 1) y0 y1 y2 y3))
  | 0 => fun _ _ _ _ r h => by simp [impl_MapOk.l0] at h
  | k + 1 => by
    have ih0 := impl_MapOk.mono_l k
    · intro y0 y1 y2 y3
      unfold impl_MapOk.l0
      repeat' first
      | (with_reducible exact ih0 _ _ _ _)
      | (with_reducible exact impl_EndPoint_75.mono _ _ _ _)
      | (with_reducible exact LeO.refl _)
      | (with_reducible exact LeO.none _)
      | (with_reducible refine LeO.ite ?_ ?_)
      | (with_reducible refine LeO.bind ?_ (fun _ => ?_))
      | exact ih0 _ _ _ _
      | exact impl_EndPoint_75.mono _ _ _ _
      | exact LeO.none _
      | refine LeO.ite ?_ ?_
      | refine LeO.bind ?_ (fun _ => ?_)
theorem impl_MapOk.mono : ∀ a0 k, LeO (impl_MapOk.f k a0) (impl_MapOk.f (k + 1) a0) := by
  intro a0 k
  have ih0 := impl_MapOk.mono_l k
  unfold impl_MapOk.f
  repeat' first
      | (with_reducible exact ih0 _ _ _ _)
      | (with_reducible exact impl_EndPoint_75.mono _ _ _ _)
      | (with_reducible exact LeO.refl _)
      | (with_reducible exact LeO.none _)
      | (with_reducible refine LeO.ite ?_ ?_)
      | (with_reducible refine LeO.bind ?_ (fun _ => ?_))
      | exact ih0 _ _ _ _
      | exact impl_EndPoint_75.mono _ _ _ _
      | exact LeO.none _
      | refine LeO.ite ?_ ?_
      | refine LeO.bind ?_ (fun _ => ?_)
def impl_MapOk.T4 : Bool × List (List Nat × List Nat) := (true, [([], []), ([0], [0]), ([1], [1]), ([2, 1], [2]), ([3], [3]), ([4, 3], [3, 4]), ([3], [3]), ([5, 6, 3], [3, 5, 6]), ([3], [3]), ([7, 8, 3, 3], [3, 7, 8]), ([3, 9], [3, 9])])
def impl_MapOk.B4 : List Nat := [0, 1, 3, 7, 15, 31, 15, 127, 15, 511, 1023]
theorem impl_MapOk.tab4 : rtab .any (opsOf Try.f35 4) = impl_MapOk.T4 := by kernel_rfl
theorem impl_MapOk.bits4 : waitsOk impl_MapOk.T4.2 impl_MapOk.B4 = true := by kernel_rfl
set_option maxHeartbeats 8000000 in
set_option maxRecDepth 100000 in
theorem impl_MapOk.calls (k : Nat) (A0_0 : Option Addr) (c0_0 : Nat) (l0_0 : List (S29)) (r : Bool) (w : World) (hr0_0 : Kd.C k29 w A0_0 l0_0.length l0_0) (hc0_0 : l0_0.length ≤ c0_0) (h : impl_MapOk.f k l0_0 = some r) :
    Calls Try.prog 35 #[.agg #[.slice A0_0 l0_0.length c0_0]] w fun e w' => e = .returned (.bool r) ∧ Below w.heap.size w w' := by
  have hu45 := Try.underlying45
  have hu29 := Try.underlying29
  have HR0_0 := Aside0.mk hr0_0
  have HC0_0 := Aside0.mk hc0_0
  clear hr0_0 hc0_0
  have HB := Aside0.mk (Below.refl w.heap.size w)
  have H : (impl_MapOk.l0 k l0_0 (l0_0.length : Int) 0 l0_0) = some r := h
  clear h
  have H' := Aside0.mk H
  clear H
  go_enter Try.func35, Try.ntmps35
  go_wp2_with (first | ((with_reducible refine gate_dst (N := 1) rfl ?_); refine box_event ?hg (N := 1) ?hd (cs := #[.slice A0_0 l0_0.length c0_0]) (t := 45) ?hr ?_; (case hd => rfl); (case hg => rfl); (case hr => first | (go_simp; done) | (go_simp; rfl)); intro gb614 hg w2 hbox hb; have n0_ := Aside0.mk (below_step (bl HB) hb); have n1_ := Aside0.mk (hbox); have n2_ := Aside0.mk ((by rw [hg]; exact (below_size (bl HB)) : w.heap.size ≤ gb614)); have n3_ := Aside0.mk ((by rw [hg]; exact (below_size (bl HB)) : w.heap.size ≤ gb614)); clear HB; have HB := n0_; have BK614 := n1_; have GW614 := n2_; have GE614 := n3_; clear n0_ n1_ n2_ n3_; clear hb hbox hg; have hcz3_0 : w2.cell? ⟨gb614, 0, none⟩ = some (.slice A0_0 l0_0.length c0_0) := (blk_cell BK614.out 0).trans rfl; have hfz3_0 := blk_frozen BK614.out 0))
  go_loopg [8] k (fun kq v8 w' => ∃ (x8_1 : Int), v8 = .int .i64 x8_1 ∧ Aside0 (impl_MapOk.l0 kq l0_0 (l0_0.length : Int) x8_1 l0_0 = some r) ∧ Aside0 (kq ≤ k) ∧ Aside0 (w'.heap[gb614]? = some (.cells #[(.slice A0_0 l0_0.length c0_0)] 45 (0, 0))) ∧ Aside0 (Below w.heap.size w w'))
  case atStart => exact ⟨(0), (by first | rfl | (simp; done) | (simp [*]; done)), H', ⟨Nat.le_refl _⟩, ⟨by (with_reducible repeat refine bu ?_); exact BK614.out⟩, ⟨by repeat (first | (with_reducible first | exact HB.out | apply below_alloc | apply pw_below_drewN | apply below_drew1 | refine below_set ?_ GE614.out) | exact HB.out)⟩⟩
  case round =>
    clear H'
    try clear p2
    try clear c3
    try clear hcz3_0
    try clear hfz3_0
    obtain ⟨x8_1, rfl, HA, HK1, BK614, HB⟩ := hrel
    cases gk with
    | zero => exact absurd HA.out (by simp [impl_MapOk.l0])
    | succ k1 =>
      have H := HA.out
      clear HA
      simp only [impl_MapOk.l0] at H
      by_cases c4 : x8_1 < (l0_0.length : Int)
      · rw [if_pos c4] at H
        have c4b0 : decide (x8_1 < (l0_0.length : Int)) = true := decide_eq_true c4
        clear c4
        by_cases c5 : 0 ≤ x8_1
        · rw [if_pos c5] at H
          have c5b0 : decide (0 ≤ x8_1) = true := decide_eq_true c5
          clear c5
          by_cases c6 : x8_1 < (l0_0.length : Int)
          · rw [if_pos c6] at H
            have c6b0 : decide (x8_1 < (l0_0.length : Int)) = true := decide_eq_true c6
            clear c6
            replace H := Option.bind_eq_some_iff.mp H
            obtain ⟨t617, A70, H⟩ := H
            replace H : (if t617 = true then (if x8_1 ≤ (l0_0.length : Int) then ((impl_EndPoint_75.f k1 (l0_0.take (x8_1 : Int).toNat) ((rd_T29 l0_0 x8_1).f0) ((rd_T29 l0_0 x8_1).f1)).bind fun t622 => (if t622 = true then (some false) else (impl_MapOk.l0 k1 l0_0 (l0_0.length : Int) (wrap64 (x8_1 + 1)) l0_0))) else (none)) else (some false)) = some r := H
            have A7 := Aside0.mk A70
            clear A70
            by_cases c8 : t617 = true
            · subst c8
              have H1 : (if x8_1 ≤ (l0_0.length : Int) then ((impl_EndPoint_75.f k1 (l0_0.take (x8_1 : Int).toNat) ((rd_T29 l0_0 x8_1).f0) ((rd_T29 l0_0 x8_1).f1)).bind fun t622 => (if t622 = true then (some false) else (impl_MapOk.l0 k1 l0_0 (l0_0.length : Int) (wrap64 (x8_1 + 1)) l0_0))) else (none)) = some r := by rw [if_pos rfl] at H; exact H
              clear H
              have H := H1
              clear H1
              have c9b0 := eq_true (of_decide_eq_true (by first | (with_reducible assumption) | assumption) : 0 ≤ x8_1)
              by_cases c10 : x8_1 ≤ (l0_0.length : Int)
              · rw [if_pos c10] at H
                have c10b0 := eq_true c10
                have c10b1 : decide (x8_1 ≤ (l0_0.length : Int)) = true := decide_eq_true c10
                clear c10
                obtain ⟨y618, hy618⟩ : ∃ y_ : List (S29), y_ = (l0_0.take (x8_1 : Int).toNat) := ⟨_, rfl⟩
                replace H : ((impl_EndPoint_75.f k1 y618 ((rd_T29 l0_0 x8_1).f0) ((rd_T29 l0_0 x8_1).f1)).bind fun t622 => (if t622 = true then (some false) else (impl_MapOk.l0 k1 l0_0 (l0_0.length : Int) (wrap64 (x8_1 + 1)) l0_0))) = some r := by first | (rw [hy618]; with_reducible exact H) | (have H2_ := (Option.bind_some _ _).symm.trans H; rw [hy618]; with_reducible exact H2_) | (have H2_ := (Option.bind_some _ _).symm.trans H; with_reducible exact H2_) | with_reducible exact H | (rw [hy618]; exact H) | exact H
                have Ny618 := Aside0.mk hy618
                clear hy618
                replace H := Option.bind_eq_some_iff.mp H
                obtain ⟨t622, A110, H⟩ := H
                replace H : (if t622 = true then (some false) else (impl_MapOk.l0 k1 l0_0 (l0_0.length : Int) (wrap64 (x8_1 + 1)) l0_0)) = some r := H
                have A11 := Aside0.mk A110
                clear A110
                by_cases c12 : t622 = true
                · subst c12
                  have H1 : (some false) = some r := by rw [if_pos rfl] at H; exact H
                  clear H
                  have H := H1
                  clear H1
                  obtain rfl := Option.some.inj H
                  have p615 : 0 ≤ (x8_1 : Int) := of_decide_eq_true (by first | (with_reducible assumption) | assumption)
                  have q615 : x8_1 < (l0_0.length : Int) := of_decide_eq_true (by first | (with_reducible assumption) | assumption)
                  obtain ⟨ad615, e615, hx615_0, hx615_1⟩ := at_T29 HR0_0.out x8_1 p615 q615
                  cases e615
                  replace hx615_0 := (HB.out.cell (World.block_lt_of_cell? w _ hx615_0)).trans hx615_0
                  replace hx615_1 := (HB.out.cell (World.block_lt_of_cell? w _ hx615_1)).trans hx615_1
                  replace p615 := eq_true p615
                  replace q615 := eq_true q615
                  try go_wp2_with (first | ((with_reducible refine gate_dst (N := 4) rfl ?_); refine box_event ?hg (N := 4) ?hd (cs := #[.int .i64 0, .int .i64 0]) (t := 29) ?hr ?_; (case hd => rfl); (case hg => rfl); (case hr => first | (go_simp; done) | (go_simp; rfl)); intro gb616 hg w13 hbox hb; have n0_ := bkB BK614 hb; have n1_ := Aside0.mk (below_step (bl HB) hb); have n2_ := Aside0.mk (hbox); have n3_ := Aside0.mk ((by rw [hg]; exact (below_size (bl HB)) : w.heap.size ≤ gb616)); have n4_ := Aside0.mk ((by rw [hg]; exact (below_size (bl HB)) : w.heap.size ≤ gb616)); have n5_ := Aside0.mk ((by rw [hg]; exact Nat.ne_of_lt (bkL BK614) : gb614 ≠ gb616)); have n6_ := Aside0.mk ((by rw [hg]; exact Nat.ne_of_gt (bkL BK614) : gb616 ≠ gb614)); clear BK614; clear HB; have BK614 := n0_; have HB := n1_; have BK616 := n2_; have GW616 := n3_; have GE616 := n4_; have NB614_616 := n5_; have NB616_614 := n6_; clear n0_ n1_ n2_ n3_ n4_ n5_ n6_; clear hb hbox hg; have hnb14 := NB616_614.out; have hnc14 := NB614_616.out; have hcz15_0 : w13.cell? ⟨gb616, 0, none⟩ = some (.int .i64 0) := (blk_cell BK616.out 0).trans rfl; have hcz15_1 : w13.cell? ⟨gb616, 1, none⟩ = some (.int .i64 0) := (blk_cell BK616.out 1).trans rfl; have hfz15_0 := blk_frozen BK616.out 0; have hfz15_1 := blk_frozen BK616.out 1))
                  have n0_ : Aside0 (((w13.setCell ⟨gb616, 0, none⟩ (.int .i64 ((rd_T29 l0_0 x8_1).f0))).setCell ⟨gb616, 1, none⟩ (.int .i64 ((rd_T29 l0_0 x8_1).f1))).heap[gb614]? = some (.cells #[.slice (some ad615) l0_0.length c0_0] 45 (0, 0))) := ⟨by (with_reducible repeat refine bu ?_); refine blk_far ?_ NB614_616.out _; (with_reducible repeat refine bu ?_); refine blk_far ?_ NB614_616.out _; (with_reducible repeat refine bu ?_); exact BK614.out⟩
                  have n1_ : Aside0 (((w13.setCell ⟨gb616, 0, none⟩ (.int .i64 ((rd_T29 l0_0 x8_1).f0))).setCell ⟨gb616, 1, none⟩ (.int .i64 ((rd_T29 l0_0 x8_1).f1))).heap[gb616]? = some (.cells #[.int .i64 ((rd_T29 l0_0 x8_1).f0), .int .i64 ((rd_T29 l0_0 x8_1).f1)] 29 (0, 0))) := ⟨by (with_reducible repeat refine bu ?_); refine blk_put (cs := #[.int .i64 ((rd_T29 l0_0 x8_1).f0), .int .i64 0]) ?_ 1 _ rfl; (with_reducible repeat refine bu ?_); refine blk_put (cs := #[.int .i64 0, .int .i64 0]) ?_ 0 _ rfl; (with_reducible repeat refine bu ?_); exact BK616.out⟩
                  have n2_ : Aside0 (Below w.heap.size w ((w13.setCell ⟨gb616, 0, none⟩ (.int .i64 ((rd_T29 l0_0 x8_1).f0))).setCell ⟨gb616, 1, none⟩ (.int .i64 ((rd_T29 l0_0 x8_1).f1)))) := ⟨by repeat (first | (with_reducible first | exact HB.out | apply below_alloc | apply pw_below_drewN | apply below_drew1 | refine below_set ?_ GE614.out | refine below_set ?_ GE616.out) | exact HB.out)⟩
                  (try clear BK614)
                  (try clear BK616)
                  (try clear HB)
                  generalize ((w13.setCell ⟨gb616, 0, none⟩ (.int .i64 ((rd_T29 l0_0 x8_1).f0))).setCell ⟨gb616, 1, none⟩ (.int .i64 ((rd_T29 l0_0 x8_1).f1))) = w16 at n0_ n1_ n2_ ⊢
                  have BK614 := n0_
                  have BK616 := n1_
                  have HB := n2_
                  clear n0_ n1_ n2_
                  have n0_ := Aside0.mk (blk_drew BK614.out)
                  have n1_ := Aside0.mk (blk_drew BK616.out)
                  have n2_ := Aside0.mk (below_drew1 HB.out)
                  clear BK614
                  clear BK616
                  clear HB
                  have BK614 := n0_
                  have BK616 := n1_
                  have HB := n2_
                  clear n0_ n1_ n2_
                  refine start_ (n := 11) (S := fun w' => w'.cell? ⟨gb616, 0, none⟩ = some (.int .i64 ((rd_T29 l0_0 x8_1).f0)) ∧ w'.cell? ⟨gb616, 1, none⟩ = some (.int .i64 ((rd_T29 l0_0 x8_1).f1)) ∧ w'.cell? ⟨gb614, 0, none⟩ = some (.slice (some ad615) l0_0.length c0_0)) (ds := []) #[false, false, false, false, false, false, false, false, false, false, false] (by kernel_rfl) rfl rfl ⟨(blk_cell BK616.out 0).trans rfl, (blk_cell BK616.out 1).trans rfl, (blk_cell BK614.out 0).trans rfl⟩ (fun hHeld => ?_); refine with_tabW impl_MapOk.tab4 impl_MapOk.bits4 (fun HT_ HW_ => ?_)
                  generalize w16.drew = w17 at BK614 BK616 HB hHeld ⊢
                  refine take_ (i := 0) (N := some 13) (v := ?_) (a' := ?_) #[true, false, false, false, false, false, false, false, false, false, false] rfl rfl (take_ofW HT_.out HW_.out (by kernel_rfl)) (fun _ _ _ h => h) (Or.inl ⟨by rfl, ?_⟩) hHeld ?_ ?_
                  rotate_left
                  · rintro w' ⟨s0, s1, s2⟩
                    go_simp
                    with_reducible rfl
                  rotate_left
                  · simp only [Act.put, List.setIfInBounds_toArray, List.set_cons_zero, List.set_cons_succ, i64_w, i32_w]
                    rfl
                  refine one_ (i := 1) (N := some 14) #[true, true, false, false, false, false, false, false, false, false, false] rfl rfl (one_of HT_.out (by kernel_rfl)) (by decide) (fun K hK => ?_)
                  refine goes_ Try.func65 (by kernel_rfl) rfl #[.agg #[.int .i64 ((rd_T29 l0_0 x8_1).f0), .int .i64 ((rd_T29 l0_0 x8_1).f1)]] (by rfl) rfl rfl (by (try simp only [List.map_toArray, List.map_cons, List.map_nil]); first | done | rfl | (simp only [List.length_drop, List.length_take]; rfl)) ?_
                  with_reducible refine (impl_EndInside.calls ((rd_T29 l0_0 x8_1).f0) ((rd_T29 l0_0 x8_1).f1) true _ A7.out).mono ?_
                  rintro e w18 ⟨rfl, hb⟩
                  refine ⟨_, rfl, ?_⟩
                  have n0_ := bkB BK614 hb
                  have n1_ := bkB BK616 hb
                  have n2_ := Aside0.mk (below_step (bl HB) hb)
                  clear BK614
                  clear BK616
                  clear HB
                  have BK614 := n0_
                  have BK616 := n1_
                  have HB := n2_
                  clear n0_ n1_ n2_
                  (try clear hb)
                  (try clear hb2)
                  (try clear hk)
                  (try clear hi)
                  have q19 : (x8_1 : Int) ≤ ((l0_0.length : Int) : Int) := of_decide_eq_true (by first | (with_reducible assumption) | assumption)
                  obtain ⟨i019, hi019, _, hsz19, _⟩ := info_parts info29
                  have hroom19 : l0_0.length ≤ c0_0 := HC0_0.out
                  have hC19 : Kd.C k29 _ (some ad615) l0_0.length l0_0 := HR0_0.out
                  have hcut19 := cut_to (P := Try.prog) 43 29 .i64 Try.underlying43 hi019 (some ad615) l0_0.length c0_0 x8_1 (of_decide_eq_true (by first | (with_reducible assumption) | assumption)) q19 hroom19
                  have hr19 := Kd.C_take (m := (x8_1 : Int).toNat) hC19 (by omega)
                  have hy19 : y618.length = (x8_1 : Int).toNat := (by rw [Ny618.out, List.length_take]; omega)
                  rw [← Ny618.out] at hr19
                  rw [← hy19] at hcut19
                  have HR621 := Aside0.mk hr19
                  have HC621 := Aside0.mk (show y618.length ≤ c0_0 from by omega)
                  clear hr19 hC19 hroom19 hi019 hsz19
                  have KY19 := Aside0.mk hy19
                  clear hy19
                  replace q19 := eq_true q19
                  refine hK.out _ _ ⟨(blk_cell BK616.out 0).trans rfl, (blk_cell BK616.out 1).trans rfl, (blk_cell BK614.out 0).trans rfl⟩ (fun hHeld => ?_)
                  clear hK K
                  refine norm_ (a' := ?_) ?_ ?_
                  rotate_left
                  · show Act.put _ (some 14) _ = _
                    simp only [Act.put, List.setIfInBounds_toArray, List.set_cons_zero, List.set_cons_succ, i64_w, i32_w]
                    rfl
                  refine pure_ (i := 2) (N := some 15) (v := ?_) (a' := ?_) #[true, true, true, false, false, false, false, false, false, false, false] rfl rfl (any_of HT_.out (by kernel_rfl)) (fun _ _ _ h => h) (Or.inl ⟨by rfl, ?_⟩) ?_ ?_
                  rotate_left
                  · intro w'
                    go_simp
                    with_reducible rfl
                  rotate_left
                  · simp only [Act.put, List.setIfInBounds_toArray, List.set_cons_zero, List.set_cons_succ, i64_w, i32_w]
                    rfl
                  refine pure_ (i := 3) (N := some 16) (v := ?_) (a' := ?_) #[true, true, true, true, false, false, false, false, false, false, false] rfl rfl (any_of HT_.out (by kernel_rfl)) (fun _ _ _ h => h) (Or.inl ⟨by rfl, ?_⟩) ?_ ?_
                  rotate_left
                  · intro w'
                    go_simp
                    with_reducible rfl
                  rotate_left
                  · simp only [Act.put, List.setIfInBounds_toArray, List.set_cons_zero, List.set_cons_succ, i64_w, i32_w]
                    rfl
                  refine pure_ (i := 4) (N := some 17) (v := ?_) (a' := ?_) #[true, true, true, true, true, false, false, false, false, false, false] rfl rfl (any_of HT_.out (by kernel_rfl)) (fun _ _ _ h => h) (Or.inl ⟨by rfl, ?_⟩) ?_ ?_
                  rotate_left
                  · intro w'
                    go_simp
                    with_reducible rfl
                  rotate_left
                  · simp only [Act.put, List.setIfInBounds_toArray, List.set_cons_zero, List.set_cons_succ, i64_w, i32_w]
                    rfl
                  refine pure_ (i := 6) (N := some 19) (v := ?_) (a' := ?_) #[true, true, true, true, true, false, true, false, false, false, false] rfl rfl (any_of HT_.out (by kernel_rfl)) (fun _ _ _ h => h) (Or.inl ⟨by rfl, ?_⟩) ?_ ?_
                  rotate_left
                  · intro w'
                    go_simp
                    with_reducible rfl
                  rotate_left
                  · simp only [Act.put, List.setIfInBounds_toArray, List.set_cons_zero, List.set_cons_succ, i64_w, i32_w]
                    rfl
                  refine take_ (i := 5) (N := some 18) (v := ?_) (a' := ?_) #[true, true, true, true, true, true, true, false, false, false, false] rfl rfl (take_ofW HT_.out HW_.out (by kernel_rfl)) (fun _ _ _ h => h) (Or.inl ⟨by rfl, ?_⟩) hHeld ?_ ?_
                  rotate_left
                  · rintro w' ⟨s0, s1, s2⟩
                    go_simp
                    with_reducible rfl
                  rotate_left
                  · simp only [Act.put, List.setIfInBounds_toArray, List.set_cons_zero, List.set_cons_succ, i64_w, i32_w]
                    rfl
                  refine pure_ (i := 7) (N := some 20) (v := ?_) (a' := ?_) #[true, true, true, true, true, true, true, true, false, false, false] rfl rfl (any_of HT_.out (by kernel_rfl)) (fun _ _ _ h => h) (Or.inl ⟨by rfl, ?_⟩) ?_ ?_
                  rotate_left
                  · intro w'
                    go_simp
                    with_reducible rfl
                  rotate_left
                  · simp only [Act.put, List.setIfInBounds_toArray, List.set_cons_zero, List.set_cons_succ, i64_w, i32_w]
                    rfl
                  refine take_ (i := 8) (N := some 21) (v := ?_) (a' := ?_) #[true, true, true, true, true, true, true, true, true, false, false] rfl rfl (take_ofW HT_.out HW_.out (by kernel_rfl)) (fun _ _ _ h => h) (Or.inl ⟨by rfl, ?_⟩) hHeld ?_ ?_
                  rotate_left
                  · rintro w' ⟨s0, s1, s2⟩
                    go_simp
                    with_reducible rfl
                  rotate_left
                  · simp only [Act.put, List.setIfInBounds_toArray, List.set_cons_zero, List.set_cons_succ, i64_w, i32_w]
                    rfl
                  refine one_ (i := 9) (N := some 22) #[true, true, true, true, true, true, true, true, true, true, false] rfl rfl (one_of HT_.out (by kernel_rfl)) (by decide) (fun K hK => ?_)
                  refine goes_ Try.func75 (by kernel_rfl) rfl #[.slice (some ad615) y618.length c0_0, .agg #[.int .i64 ((rd_T29 l0_0 x8_1).f0), .int .i64 ((rd_T29 l0_0 x8_1).f1)]] (by rfl) rfl rfl (by (try simp only [List.map_toArray, List.map_cons, List.map_nil]); first | done | rfl | (simp only [List.length_drop, List.length_take]; rfl)) ?_
                  with_reducible refine (impl_EndPoint_75.calls k1 _ _ y618 ((rd_T29 l0_0 x8_1).f0) ((rd_T29 l0_0 x8_1).f1) true _ ?side1 ?side2 A11.out).mono ?_
                  (case side1 => repeat (first | exact (Kd.C_below HR621.out HB.out) | (with_reducible refine Kd.C_alloc ?_ _) | (with_reducible refine Kd.C_drewN ?_ _) | (with_reducible refine Kd.C_drew ?_)))
                  (case side2 => exact HC621.out)
                  rintro e w20 ⟨rfl, hb⟩
                  refine ⟨_, rfl, ?_⟩
                  have n0_ := bkB BK614 hb
                  have n1_ := bkB BK616 hb
                  have n2_ := Aside0.mk (below_step (bl HB) hb)
                  clear BK614
                  clear BK616
                  clear HB
                  have BK614 := n0_
                  have BK616 := n1_
                  have HB := n2_
                  clear n0_ n1_ n2_
                  (try clear hb)
                  (try clear hb2)
                  (try clear hk)
                  (try clear hi)
                  refine hK.out _ _ ⟨(blk_cell BK616.out 0).trans rfl, (blk_cell BK616.out 1).trans rfl, (blk_cell BK614.out 0).trans rfl⟩ (fun hHeld => ?_)
                  clear hK K
                  refine norm_ (a' := ?_) ?_ ?_
                  rotate_left
                  · show Act.put _ (some 22) _ = _
                    simp only [Act.put, List.setIfInBounds_toArray, List.set_cons_zero, List.set_cons_succ, i64_w, i32_w]
                    rfl
                  refine pure_ (i := 10) (N := some 23) (v := ?_) (a' := ?_) #[true, true, true, true, true, true, true, true, true, true, true] rfl rfl (any_of HT_.out (by kernel_rfl)) (fun _ _ _ h => h) (Or.inl ⟨by rfl, ?_⟩) ?_ ?_
                  rotate_left
                  · intro w'
                    go_simp
                    with_reducible rfl
                  rotate_left
                  · simp only [Act.put, List.setIfInBounds_toArray, List.set_cons_zero, List.set_cons_succ, i64_w, i32_w]
                    rfl
                  refine done_ (done_of HT_.out (by kernel_rfl)) ?_
                  try go_wp2
                  go_ret
                  exact ⟨by first | rfl | (simp [errW_none, errW_some] <;> rfl) | (simp [*, errW_none, errW_some] <;> rfl), by repeat (first | (with_reducible first | exact HB.out | apply below_alloc | apply pw_below_drewN | apply below_drew1 | refine below_set ?_ GE614.out | refine below_set ?_ GE616.out) | exact HB.out)⟩
                · replace c12 := Bool.eq_false_iff.mpr c12
                  subst c12
                  have H1 : (impl_MapOk.l0 k1 l0_0 (l0_0.length : Int) (wrap64 (x8_1 + 1)) l0_0) = some r := by rw [if_neg (show ¬ (false = true) by decide)] at H; exact H
                  clear H
                  have H := H1
                  clear H1
                  have H' := Aside0.mk H
                  clear H
                  have p615 : 0 ≤ (x8_1 : Int) := of_decide_eq_true (by first | (with_reducible assumption) | assumption)
                  have q615 : x8_1 < (l0_0.length : Int) := of_decide_eq_true (by first | (with_reducible assumption) | assumption)
                  obtain ⟨ad615, e615, hx615_0, hx615_1⟩ := at_T29 HR0_0.out x8_1 p615 q615
                  cases e615
                  replace hx615_0 := (HB.out.cell (World.block_lt_of_cell? w _ hx615_0)).trans hx615_0
                  replace hx615_1 := (HB.out.cell (World.block_lt_of_cell? w _ hx615_1)).trans hx615_1
                  replace p615 := eq_true p615
                  replace q615 := eq_true q615
                  try go_wp2_with (first | ((with_reducible refine gate_dst (N := 4) rfl ?_); refine box_event ?hg (N := 4) ?hd (cs := #[.int .i64 0, .int .i64 0]) (t := 29) ?hr ?_; (case hd => rfl); (case hg => rfl); (case hr => first | (go_simp; done) | (go_simp; rfl)); intro gb616 hg w21 hbox hb; have n0_ := bkB BK614 hb; have n1_ := Aside0.mk (below_step (bl HB) hb); have n2_ := Aside0.mk (hbox); have n3_ := Aside0.mk ((by rw [hg]; exact (below_size (bl HB)) : w.heap.size ≤ gb616)); have n4_ := Aside0.mk ((by rw [hg]; exact (below_size (bl HB)) : w.heap.size ≤ gb616)); have n5_ := Aside0.mk ((by rw [hg]; exact Nat.ne_of_lt (bkL BK614) : gb614 ≠ gb616)); have n6_ := Aside0.mk ((by rw [hg]; exact Nat.ne_of_gt (bkL BK614) : gb616 ≠ gb614)); clear BK614; clear HB; have BK614 := n0_; have HB := n1_; have BK616 := n2_; have GW616 := n3_; have GE616 := n4_; have NB614_616 := n5_; have NB616_614 := n6_; clear n0_ n1_ n2_ n3_ n4_ n5_ n6_; clear hb hbox hg; have hnb22 := NB616_614.out; have hnc22 := NB614_616.out; have hcz23_0 : w21.cell? ⟨gb616, 0, none⟩ = some (.int .i64 0) := (blk_cell BK616.out 0).trans rfl; have hcz23_1 : w21.cell? ⟨gb616, 1, none⟩ = some (.int .i64 0) := (blk_cell BK616.out 1).trans rfl; have hfz23_0 := blk_frozen BK616.out 0; have hfz23_1 := blk_frozen BK616.out 1))
                  have n0_ : Aside0 (((w21.setCell ⟨gb616, 0, none⟩ (.int .i64 ((rd_T29 l0_0 x8_1).f0))).setCell ⟨gb616, 1, none⟩ (.int .i64 ((rd_T29 l0_0 x8_1).f1))).heap[gb614]? = some (.cells #[.slice (some ad615) l0_0.length c0_0] 45 (0, 0))) := ⟨by (with_reducible repeat refine bu ?_); refine blk_far ?_ NB614_616.out _; (with_reducible repeat refine bu ?_); refine blk_far ?_ NB614_616.out _; (with_reducible repeat refine bu ?_); exact BK614.out⟩
                  have n1_ : Aside0 (((w21.setCell ⟨gb616, 0, none⟩ (.int .i64 ((rd_T29 l0_0 x8_1).f0))).setCell ⟨gb616, 1, none⟩ (.int .i64 ((rd_T29 l0_0 x8_1).f1))).heap[gb616]? = some (.cells #[.int .i64 ((rd_T29 l0_0 x8_1).f0), .int .i64 ((rd_T29 l0_0 x8_1).f1)] 29 (0, 0))) := ⟨by (with_reducible repeat refine bu ?_); refine blk_put (cs := #[.int .i64 ((rd_T29 l0_0 x8_1).f0), .int .i64 0]) ?_ 1 _ rfl; (with_reducible repeat refine bu ?_); refine blk_put (cs := #[.int .i64 0, .int .i64 0]) ?_ 0 _ rfl; (with_reducible repeat refine bu ?_); exact BK616.out⟩
                  have n2_ : Aside0 (Below w.heap.size w ((w21.setCell ⟨gb616, 0, none⟩ (.int .i64 ((rd_T29 l0_0 x8_1).f0))).setCell ⟨gb616, 1, none⟩ (.int .i64 ((rd_T29 l0_0 x8_1).f1)))) := ⟨by repeat (first | (with_reducible first | exact HB.out | apply below_alloc | apply pw_below_drewN | apply below_drew1 | refine below_set ?_ GE614.out | refine below_set ?_ GE616.out) | exact HB.out)⟩
                  (try clear BK614)
                  (try clear BK616)
                  (try clear HB)
                  generalize ((w21.setCell ⟨gb616, 0, none⟩ (.int .i64 ((rd_T29 l0_0 x8_1).f0))).setCell ⟨gb616, 1, none⟩ (.int .i64 ((rd_T29 l0_0 x8_1).f1))) = w24 at n0_ n1_ n2_ ⊢
                  have BK614 := n0_
                  have BK616 := n1_
                  have HB := n2_
                  clear n0_ n1_ n2_
                  have n0_ := Aside0.mk (blk_drew BK614.out)
                  have n1_ := Aside0.mk (blk_drew BK616.out)
                  have n2_ := Aside0.mk (below_drew1 HB.out)
                  clear BK614
                  clear BK616
                  clear HB
                  have BK614 := n0_
                  have BK616 := n1_
                  have HB := n2_
                  clear n0_ n1_ n2_
                  refine start_ (n := 11) (S := fun w' => w'.cell? ⟨gb616, 0, none⟩ = some (.int .i64 ((rd_T29 l0_0 x8_1).f0)) ∧ w'.cell? ⟨gb616, 1, none⟩ = some (.int .i64 ((rd_T29 l0_0 x8_1).f1)) ∧ w'.cell? ⟨gb614, 0, none⟩ = some (.slice (some ad615) l0_0.length c0_0)) (ds := []) #[false, false, false, false, false, false, false, false, false, false, false] (by kernel_rfl) rfl rfl ⟨(blk_cell BK616.out 0).trans rfl, (blk_cell BK616.out 1).trans rfl, (blk_cell BK614.out 0).trans rfl⟩ (fun hHeld => ?_); refine with_tabW impl_MapOk.tab4 impl_MapOk.bits4 (fun HT_ HW_ => ?_)
                  generalize w24.drew = w25 at BK614 BK616 HB hHeld ⊢
                  refine take_ (i := 0) (N := some 13) (v := ?_) (a' := ?_) #[true, false, false, false, false, false, false, false, false, false, false] rfl rfl (take_ofW HT_.out HW_.out (by kernel_rfl)) (fun _ _ _ h => h) (Or.inl ⟨by rfl, ?_⟩) hHeld ?_ ?_
                  rotate_left
                  · rintro w' ⟨s0, s1, s2⟩
                    go_simp
                    with_reducible rfl
                  rotate_left
                  · simp only [Act.put, List.setIfInBounds_toArray, List.set_cons_zero, List.set_cons_succ, i64_w, i32_w]
                    rfl
                  refine one_ (i := 1) (N := some 14) #[true, true, false, false, false, false, false, false, false, false, false] rfl rfl (one_of HT_.out (by kernel_rfl)) (by decide) (fun K hK => ?_)
                  refine goes_ Try.func65 (by kernel_rfl) rfl #[.agg #[.int .i64 ((rd_T29 l0_0 x8_1).f0), .int .i64 ((rd_T29 l0_0 x8_1).f1)]] (by rfl) rfl rfl (by (try simp only [List.map_toArray, List.map_cons, List.map_nil]); first | done | rfl | (simp only [List.length_drop, List.length_take]; rfl)) ?_
                  with_reducible refine (impl_EndInside.calls ((rd_T29 l0_0 x8_1).f0) ((rd_T29 l0_0 x8_1).f1) true _ A7.out).mono ?_
                  rintro e w26 ⟨rfl, hb⟩
                  refine ⟨_, rfl, ?_⟩
                  have n0_ := bkB BK614 hb
                  have n1_ := bkB BK616 hb
                  have n2_ := Aside0.mk (below_step (bl HB) hb)
                  clear BK614
                  clear BK616
                  clear HB
                  have BK614 := n0_
                  have BK616 := n1_
                  have HB := n2_
                  clear n0_ n1_ n2_
                  (try clear hb)
                  (try clear hb2)
                  (try clear hk)
                  (try clear hi)
                  have q27 : (x8_1 : Int) ≤ ((l0_0.length : Int) : Int) := of_decide_eq_true (by first | (with_reducible assumption) | assumption)
                  obtain ⟨i027, hi027, _, hsz27, _⟩ := info_parts info29
                  have hroom27 : l0_0.length ≤ c0_0 := HC0_0.out
                  have hC27 : Kd.C k29 _ (some ad615) l0_0.length l0_0 := HR0_0.out
                  have hcut27 := cut_to (P := Try.prog) 43 29 .i64 Try.underlying43 hi027 (some ad615) l0_0.length c0_0 x8_1 (of_decide_eq_true (by first | (with_reducible assumption) | assumption)) q27 hroom27
                  have hr27 := Kd.C_take (m := (x8_1 : Int).toNat) hC27 (by omega)
                  have hy27 : y618.length = (x8_1 : Int).toNat := (by rw [Ny618.out, List.length_take]; omega)
                  rw [← Ny618.out] at hr27
                  rw [← hy27] at hcut27
                  have HR621 := Aside0.mk hr27
                  have HC621 := Aside0.mk (show y618.length ≤ c0_0 from by omega)
                  clear hr27 hC27 hroom27 hi027 hsz27
                  have KY27 := Aside0.mk hy27
                  clear hy27
                  replace q27 := eq_true q27
                  refine hK.out _ _ ⟨(blk_cell BK616.out 0).trans rfl, (blk_cell BK616.out 1).trans rfl, (blk_cell BK614.out 0).trans rfl⟩ (fun hHeld => ?_)
                  clear hK K
                  refine norm_ (a' := ?_) ?_ ?_
                  rotate_left
                  · show Act.put _ (some 14) _ = _
                    simp only [Act.put, List.setIfInBounds_toArray, List.set_cons_zero, List.set_cons_succ, i64_w, i32_w]
                    rfl
                  refine pure_ (i := 2) (N := some 15) (v := ?_) (a' := ?_) #[true, true, true, false, false, false, false, false, false, false, false] rfl rfl (any_of HT_.out (by kernel_rfl)) (fun _ _ _ h => h) (Or.inl ⟨by rfl, ?_⟩) ?_ ?_
                  rotate_left
                  · intro w'
                    go_simp
                    with_reducible rfl
                  rotate_left
                  · simp only [Act.put, List.setIfInBounds_toArray, List.set_cons_zero, List.set_cons_succ, i64_w, i32_w]
                    rfl
                  refine pure_ (i := 3) (N := some 16) (v := ?_) (a' := ?_) #[true, true, true, true, false, false, false, false, false, false, false] rfl rfl (any_of HT_.out (by kernel_rfl)) (fun _ _ _ h => h) (Or.inl ⟨by rfl, ?_⟩) ?_ ?_
                  rotate_left
                  · intro w'
                    go_simp
                    with_reducible rfl
                  rotate_left
                  · simp only [Act.put, List.setIfInBounds_toArray, List.set_cons_zero, List.set_cons_succ, i64_w, i32_w]
                    rfl
                  refine pure_ (i := 4) (N := some 17) (v := ?_) (a' := ?_) #[true, true, true, true, true, false, false, false, false, false, false] rfl rfl (any_of HT_.out (by kernel_rfl)) (fun _ _ _ h => h) (Or.inl ⟨by rfl, ?_⟩) ?_ ?_
                  rotate_left
                  · intro w'
                    go_simp
                    with_reducible rfl
                  rotate_left
                  · simp only [Act.put, List.setIfInBounds_toArray, List.set_cons_zero, List.set_cons_succ, i64_w, i32_w]
                    rfl
                  refine pure_ (i := 6) (N := some 19) (v := ?_) (a' := ?_) #[true, true, true, true, true, false, true, false, false, false, false] rfl rfl (any_of HT_.out (by kernel_rfl)) (fun _ _ _ h => h) (Or.inl ⟨by rfl, ?_⟩) ?_ ?_
                  rotate_left
                  · intro w'
                    go_simp
                    with_reducible rfl
                  rotate_left
                  · simp only [Act.put, List.setIfInBounds_toArray, List.set_cons_zero, List.set_cons_succ, i64_w, i32_w]
                    rfl
                  refine take_ (i := 5) (N := some 18) (v := ?_) (a' := ?_) #[true, true, true, true, true, true, true, false, false, false, false] rfl rfl (take_ofW HT_.out HW_.out (by kernel_rfl)) (fun _ _ _ h => h) (Or.inl ⟨by rfl, ?_⟩) hHeld ?_ ?_
                  rotate_left
                  · rintro w' ⟨s0, s1, s2⟩
                    go_simp
                    with_reducible rfl
                  rotate_left
                  · simp only [Act.put, List.setIfInBounds_toArray, List.set_cons_zero, List.set_cons_succ, i64_w, i32_w]
                    rfl
                  refine pure_ (i := 7) (N := some 20) (v := ?_) (a' := ?_) #[true, true, true, true, true, true, true, true, false, false, false] rfl rfl (any_of HT_.out (by kernel_rfl)) (fun _ _ _ h => h) (Or.inl ⟨by rfl, ?_⟩) ?_ ?_
                  rotate_left
                  · intro w'
                    go_simp
                    with_reducible rfl
                  rotate_left
                  · simp only [Act.put, List.setIfInBounds_toArray, List.set_cons_zero, List.set_cons_succ, i64_w, i32_w]
                    rfl
                  refine take_ (i := 8) (N := some 21) (v := ?_) (a' := ?_) #[true, true, true, true, true, true, true, true, true, false, false] rfl rfl (take_ofW HT_.out HW_.out (by kernel_rfl)) (fun _ _ _ h => h) (Or.inl ⟨by rfl, ?_⟩) hHeld ?_ ?_
                  rotate_left
                  · rintro w' ⟨s0, s1, s2⟩
                    go_simp
                    with_reducible rfl
                  rotate_left
                  · simp only [Act.put, List.setIfInBounds_toArray, List.set_cons_zero, List.set_cons_succ, i64_w, i32_w]
                    rfl
                  refine one_ (i := 9) (N := some 22) #[true, true, true, true, true, true, true, true, true, true, false] rfl rfl (one_of HT_.out (by kernel_rfl)) (by decide) (fun K hK => ?_)
                  refine goes_ Try.func75 (by kernel_rfl) rfl #[.slice (some ad615) y618.length c0_0, .agg #[.int .i64 ((rd_T29 l0_0 x8_1).f0), .int .i64 ((rd_T29 l0_0 x8_1).f1)]] (by rfl) rfl rfl (by (try simp only [List.map_toArray, List.map_cons, List.map_nil]); first | done | rfl | (simp only [List.length_drop, List.length_take]; rfl)) ?_
                  with_reducible refine (impl_EndPoint_75.calls k1 _ _ y618 ((rd_T29 l0_0 x8_1).f0) ((rd_T29 l0_0 x8_1).f1) false _ ?side1 ?side2 A11.out).mono ?_
                  (case side1 => repeat (first | exact (Kd.C_below HR621.out HB.out) | (with_reducible refine Kd.C_alloc ?_ _) | (with_reducible refine Kd.C_drewN ?_ _) | (with_reducible refine Kd.C_drew ?_)))
                  (case side2 => exact HC621.out)
                  rintro e w28 ⟨rfl, hb⟩
                  refine ⟨_, rfl, ?_⟩
                  have n0_ := bkB BK614 hb
                  have n1_ := bkB BK616 hb
                  have n2_ := Aside0.mk (below_step (bl HB) hb)
                  clear BK614
                  clear BK616
                  clear HB
                  have BK614 := n0_
                  have BK616 := n1_
                  have HB := n2_
                  clear n0_ n1_ n2_
                  (try clear hb)
                  (try clear hb2)
                  (try clear hk)
                  (try clear hi)
                  refine hK.out _ _ ⟨(blk_cell BK616.out 0).trans rfl, (blk_cell BK616.out 1).trans rfl, (blk_cell BK614.out 0).trans rfl⟩ (fun hHeld => ?_)
                  clear hK K
                  refine norm_ (a' := ?_) ?_ ?_
                  rotate_left
                  · show Act.put _ (some 22) _ = _
                    simp only [Act.put, List.setIfInBounds_toArray, List.set_cons_zero, List.set_cons_succ, i64_w, i32_w]
                    rfl
                  refine pure_ (i := 10) (N := some 23) (v := ?_) (a' := ?_) #[true, true, true, true, true, true, true, true, true, true, true] rfl rfl (any_of HT_.out (by kernel_rfl)) (fun _ _ _ h => h) (Or.inl ⟨by rfl, ?_⟩) ?_ ?_
                  rotate_left
                  · intro w'
                    go_simp
                    with_reducible rfl
                  rotate_left
                  · simp only [Act.put, List.setIfInBounds_toArray, List.set_cons_zero, List.set_cons_succ, i64_w, i32_w]
                    rfl
                  refine done_ (done_of HT_.out (by kernel_rfl)) ?_
                  try go_wp2
                  go_roundg k1
                  case measure => have := HK1.out; omega
                  case rel => exact ⟨(wrap64 (x8_1 + 1)), (by first | rfl | (simp; done) | (simp [*]; done)), H', ⟨by have := HK1.out; omega⟩, ⟨by (with_reducible repeat refine bu ?_); exact BK614.out⟩, ⟨by repeat (first | (with_reducible first | exact HB.out | apply below_alloc | apply pw_below_drewN | apply below_drew1 | refine below_set ?_ GE614.out | refine below_set ?_ GE616.out) | exact HB.out)⟩⟩
              · rw [if_neg c10] at H
                exact absurd H (by simp)
            · replace c8 := Bool.eq_false_iff.mpr c8
              subst c8
              have H1 : (some false) = some r := by rw [if_neg (show ¬ (false = true) by decide)] at H; exact H
              clear H
              have H := H1
              clear H1
              obtain rfl := Option.some.inj H
              have p615 : 0 ≤ (x8_1 : Int) := of_decide_eq_true (by first | (with_reducible assumption) | assumption)
              have q615 : x8_1 < (l0_0.length : Int) := of_decide_eq_true (by first | (with_reducible assumption) | assumption)
              obtain ⟨ad615, e615, hx615_0, hx615_1⟩ := at_T29 HR0_0.out x8_1 p615 q615
              cases e615
              replace hx615_0 := (HB.out.cell (World.block_lt_of_cell? w _ hx615_0)).trans hx615_0
              replace hx615_1 := (HB.out.cell (World.block_lt_of_cell? w _ hx615_1)).trans hx615_1
              replace p615 := eq_true p615
              replace q615 := eq_true q615
              try go_wp2_with (first | ((with_reducible refine gate_dst (N := 4) rfl ?_); refine box_event ?hg (N := 4) ?hd (cs := #[.int .i64 0, .int .i64 0]) (t := 29) ?hr ?_; (case hd => rfl); (case hg => rfl); (case hr => first | (go_simp; done) | (go_simp; rfl)); intro gb616 hg w29 hbox hb; have n0_ := bkB BK614 hb; have n1_ := Aside0.mk (below_step (bl HB) hb); have n2_ := Aside0.mk (hbox); have n3_ := Aside0.mk ((by rw [hg]; exact (below_size (bl HB)) : w.heap.size ≤ gb616)); have n4_ := Aside0.mk ((by rw [hg]; exact (below_size (bl HB)) : w.heap.size ≤ gb616)); have n5_ := Aside0.mk ((by rw [hg]; exact Nat.ne_of_lt (bkL BK614) : gb614 ≠ gb616)); have n6_ := Aside0.mk ((by rw [hg]; exact Nat.ne_of_gt (bkL BK614) : gb616 ≠ gb614)); clear BK614; clear HB; have BK614 := n0_; have HB := n1_; have BK616 := n2_; have GW616 := n3_; have GE616 := n4_; have NB614_616 := n5_; have NB616_614 := n6_; clear n0_ n1_ n2_ n3_ n4_ n5_ n6_; clear hb hbox hg; have hnb30 := NB616_614.out; have hnc30 := NB614_616.out; have hcz31_0 : w29.cell? ⟨gb616, 0, none⟩ = some (.int .i64 0) := (blk_cell BK616.out 0).trans rfl; have hcz31_1 : w29.cell? ⟨gb616, 1, none⟩ = some (.int .i64 0) := (blk_cell BK616.out 1).trans rfl; have hfz31_0 := blk_frozen BK616.out 0; have hfz31_1 := blk_frozen BK616.out 1))
              have n0_ : Aside0 (((w29.setCell ⟨gb616, 0, none⟩ (.int .i64 ((rd_T29 l0_0 x8_1).f0))).setCell ⟨gb616, 1, none⟩ (.int .i64 ((rd_T29 l0_0 x8_1).f1))).heap[gb614]? = some (.cells #[.slice (some ad615) l0_0.length c0_0] 45 (0, 0))) := ⟨by (with_reducible repeat refine bu ?_); refine blk_far ?_ NB614_616.out _; (with_reducible repeat refine bu ?_); refine blk_far ?_ NB614_616.out _; (with_reducible repeat refine bu ?_); exact BK614.out⟩
              have n1_ : Aside0 (((w29.setCell ⟨gb616, 0, none⟩ (.int .i64 ((rd_T29 l0_0 x8_1).f0))).setCell ⟨gb616, 1, none⟩ (.int .i64 ((rd_T29 l0_0 x8_1).f1))).heap[gb616]? = some (.cells #[.int .i64 ((rd_T29 l0_0 x8_1).f0), .int .i64 ((rd_T29 l0_0 x8_1).f1)] 29 (0, 0))) := ⟨by (with_reducible repeat refine bu ?_); refine blk_put (cs := #[.int .i64 ((rd_T29 l0_0 x8_1).f0), .int .i64 0]) ?_ 1 _ rfl; (with_reducible repeat refine bu ?_); refine blk_put (cs := #[.int .i64 0, .int .i64 0]) ?_ 0 _ rfl; (with_reducible repeat refine bu ?_); exact BK616.out⟩
              have n2_ : Aside0 (Below w.heap.size w ((w29.setCell ⟨gb616, 0, none⟩ (.int .i64 ((rd_T29 l0_0 x8_1).f0))).setCell ⟨gb616, 1, none⟩ (.int .i64 ((rd_T29 l0_0 x8_1).f1)))) := ⟨by repeat (first | (with_reducible first | exact HB.out | apply below_alloc | apply pw_below_drewN | apply below_drew1 | refine below_set ?_ GE614.out | refine below_set ?_ GE616.out) | exact HB.out)⟩
              (try clear BK614)
              (try clear BK616)
              (try clear HB)
              generalize ((w29.setCell ⟨gb616, 0, none⟩ (.int .i64 ((rd_T29 l0_0 x8_1).f0))).setCell ⟨gb616, 1, none⟩ (.int .i64 ((rd_T29 l0_0 x8_1).f1))) = w32 at n0_ n1_ n2_ ⊢
              have BK614 := n0_
              have BK616 := n1_
              have HB := n2_
              clear n0_ n1_ n2_
              have n0_ := Aside0.mk (blk_drew BK614.out)
              have n1_ := Aside0.mk (blk_drew BK616.out)
              have n2_ := Aside0.mk (below_drew1 HB.out)
              clear BK614
              clear BK616
              clear HB
              have BK614 := n0_
              have BK616 := n1_
              have HB := n2_
              clear n0_ n1_ n2_
              refine start_ (n := 11) (S := fun w' => w'.cell? ⟨gb616, 0, none⟩ = some (.int .i64 ((rd_T29 l0_0 x8_1).f0)) ∧ w'.cell? ⟨gb616, 1, none⟩ = some (.int .i64 ((rd_T29 l0_0 x8_1).f1))) (ds := []) #[false, false, false, false, false, false, false, false, false, false, false] (by kernel_rfl) rfl rfl ⟨(blk_cell BK616.out 0).trans rfl, (blk_cell BK616.out 1).trans rfl⟩ (fun hHeld => ?_); refine with_tabW impl_MapOk.tab4 impl_MapOk.bits4 (fun HT_ HW_ => ?_)
              generalize w32.drew = w33 at BK614 BK616 HB hHeld ⊢
              refine take_ (i := 0) (N := some 13) (v := ?_) (a' := ?_) #[true, false, false, false, false, false, false, false, false, false, false] rfl rfl (take_ofW HT_.out HW_.out (by kernel_rfl)) (fun _ _ _ h => h) (Or.inl ⟨by rfl, ?_⟩) hHeld ?_ ?_
              rotate_left
              · rintro w' ⟨s0, s1⟩
                go_simp
                with_reducible rfl
              rotate_left
              · simp only [Act.put, List.setIfInBounds_toArray, List.set_cons_zero, List.set_cons_succ, i64_w, i32_w]
                rfl
              refine one_ (i := 1) (N := some 14) #[true, true, false, false, false, false, false, false, false, false, false] rfl rfl (one_of HT_.out (by kernel_rfl)) (by decide) (fun K hK => ?_)
              refine goes_ Try.func65 (by kernel_rfl) rfl #[.agg #[.int .i64 ((rd_T29 l0_0 x8_1).f0), .int .i64 ((rd_T29 l0_0 x8_1).f1)]] (by rfl) rfl rfl (by (try simp only [List.map_toArray, List.map_cons, List.map_nil]); first | done | rfl | (simp only [List.length_drop, List.length_take]; rfl)) ?_
              with_reducible refine (impl_EndInside.calls ((rd_T29 l0_0 x8_1).f0) ((rd_T29 l0_0 x8_1).f1) false _ A7.out).mono ?_
              rintro e w34 ⟨rfl, hb⟩
              refine ⟨_, rfl, ?_⟩
              have n0_ := bkB BK614 hb
              have n1_ := bkB BK616 hb
              have n2_ := Aside0.mk (below_step (bl HB) hb)
              clear BK614
              clear BK616
              clear HB
              have BK614 := n0_
              have BK616 := n1_
              have HB := n2_
              clear n0_ n1_ n2_
              (try clear hb)
              (try clear hb2)
              (try clear hk)
              (try clear hi)
              refine hK.out _ _ ⟨(blk_cell BK616.out 0).trans rfl, (blk_cell BK616.out 1).trans rfl⟩ (fun hHeld => ?_)
              clear hK K
              refine norm_ (a' := ?_) ?_ ?_
              rotate_left
              · show Act.put _ (some 14) _ = _
                simp only [Act.put, List.setIfInBounds_toArray, List.set_cons_zero, List.set_cons_succ, i64_w, i32_w]
                rfl
              refine pure_ (i := 2) (N := some 15) (v := ?_) (a' := ?_) #[true, true, true, false, false, false, false, false, false, false, false] rfl rfl (any_of HT_.out (by kernel_rfl)) (fun _ _ _ h => h) (Or.inl ⟨by rfl, ?_⟩) ?_ ?_
              rotate_left
              · intro w'
                go_simp
                with_reducible rfl
              rotate_left
              · simp only [Act.put, List.setIfInBounds_toArray, List.set_cons_zero, List.set_cons_succ, i64_w, i32_w]
                rfl
              refine pure_ (i := 3) (N := some 16) (v := ?_) (a' := ?_) #[true, true, true, true, false, false, false, false, false, false, false] rfl rfl (any_of HT_.out (by kernel_rfl)) (fun _ _ _ h => h) (Or.inl ⟨by rfl, ?_⟩) ?_ ?_
              rotate_left
              · intro w'
                go_simp
                with_reducible rfl
              rotate_left
              · simp only [Act.put, List.setIfInBounds_toArray, List.set_cons_zero, List.set_cons_succ, i64_w, i32_w]
                rfl
              refine pure_ (i := 4) (N := some 17) (v := undef) (a' := ?_) #[true, true, true, true, true, false, false, false, false, false, false] rfl rfl (any_of HT_.out (by kernel_rfl)) (fun _ _ _ h => h) (Or.inr ⟨by rfl, rfl⟩) ?_ ?_
              rotate_left
              · simp only [Act.put, List.setIfInBounds_toArray, List.set_cons_zero, List.set_cons_succ, i64_w, i32_w]
                rfl
              refine pure_ (i := 5) (N := some 18) (v := undef) (a' := ?_) #[true, true, true, true, true, true, false, false, false, false, false] rfl rfl (any_of HT_.out (by kernel_rfl)) (fun _ _ _ h => h) (Or.inr ⟨by rfl, rfl⟩) ?_ ?_
              rotate_left
              · simp only [Act.put, List.setIfInBounds_toArray, List.set_cons_zero, List.set_cons_succ, i64_w, i32_w]
                rfl
              refine pure_ (i := 6) (N := some 19) (v := undef) (a' := ?_) #[true, true, true, true, true, true, true, false, false, false, false] rfl rfl (any_of HT_.out (by kernel_rfl)) (fun _ _ _ h => h) (Or.inr ⟨by rfl, rfl⟩) ?_ ?_
              rotate_left
              · simp only [Act.put, List.setIfInBounds_toArray, List.set_cons_zero, List.set_cons_succ, i64_w, i32_w]
                rfl
              refine pure_ (i := 7) (N := some 20) (v := undef) (a' := ?_) #[true, true, true, true, true, true, true, true, false, false, false] rfl rfl (any_of HT_.out (by kernel_rfl)) (fun _ _ _ h => h) (Or.inr ⟨by rfl, rfl⟩) ?_ ?_
              rotate_left
              · simp only [Act.put, List.setIfInBounds_toArray, List.set_cons_zero, List.set_cons_succ, i64_w, i32_w]
                rfl
              refine pure_ (i := 8) (N := some 21) (v := undef) (a' := ?_) #[true, true, true, true, true, true, true, true, true, false, false] rfl rfl (any_of HT_.out (by kernel_rfl)) (fun _ _ _ h => h) (Or.inr ⟨by rfl, rfl⟩) ?_ ?_
              rotate_left
              · simp only [Act.put, List.setIfInBounds_toArray, List.set_cons_zero, List.set_cons_succ, i64_w, i32_w]
                rfl
              refine pure_ (i := 9) (N := some 22) (v := undef) (a' := ?_) #[true, true, true, true, true, true, true, true, true, true, false] rfl rfl (any_of HT_.out (by kernel_rfl)) (fun _ _ _ h => h) (Or.inr ⟨by rfl, rfl⟩) ?_ ?_
              rotate_left
              · simp only [Act.put, List.setIfInBounds_toArray, List.set_cons_zero, List.set_cons_succ, i64_w, i32_w]
                rfl
              refine pure_ (i := 10) (N := some 23) (v := ?_) (a' := ?_) #[true, true, true, true, true, true, true, true, true, true, true] rfl rfl (any_of HT_.out (by kernel_rfl)) (fun _ _ _ h => h) (Or.inl ⟨by rfl, ?_⟩) ?_ ?_
              rotate_left
              · intro w'
                go_simp
                with_reducible rfl
              rotate_left
              · simp only [Act.put, List.setIfInBounds_toArray, List.set_cons_zero, List.set_cons_succ, i64_w, i32_w]
                rfl
              refine done_ (done_of HT_.out (by kernel_rfl)) ?_
              try go_wp2
              go_ret
              exact ⟨by first | rfl | (simp [errW_none, errW_some] <;> rfl) | (simp [*, errW_none, errW_some] <;> rfl), by repeat (first | (with_reducible first | exact HB.out | apply below_alloc | apply pw_below_drewN | apply below_drew1 | refine below_set ?_ GE614.out | refine below_set ?_ GE616.out) | exact HB.out)⟩
          · rw [if_neg c6] at H
            exact absurd H (by simp)
        · rw [if_neg c5] at H
          exact absurd H (by simp)
      · rw [if_neg c4] at H
        have c4b0 : decide (x8_1 < (l0_0.length : Int)) = false := decide_eq_false c4
        clear c4
        obtain rfl := Option.some.inj H
        have hcz35_0 : wr.cell? ⟨gb614, 0, none⟩ = some (.slice A0_0 l0_0.length c0_0) := (blk_cell BK614.out 0).trans rfl
        have hfz35_0 := blk_frozen BK614.out 0
        go_wp2
        go_ret
        exact ⟨by first | rfl | (simp [errW_none, errW_some] <;> rfl) | (simp [*, errW_none, errW_some] <;> rfl), by repeat (first | (with_reducible first | exact HB.out | apply below_alloc | apply pw_below_drewN | apply below_drew1 | refine below_set ?_ GE614.out) | exact HB.out)⟩

end Go.Proofs.Ytiocgkggegahhaa.P

-- written by hw.py for this claim
namespace Go.Proofs.Ytiocgkggegahhaa.P
open Go.RowKit Go.Proofs.YtiocgkggegahhaaUFnExactMapPut.PrintWords Go.Proofs.YtiocgkggegahhaaUFnExactMapPut.PrintLast Go.Proofs.YtiocgkggegahhaaUFnExactMapPut.PrintMore
attribute [local go_sem] max2_int min2_int max_two min_two max_three min_three max_four min_four
set_option linter.unusedVariables false
set_option linter.unusedSimpArgs false

/-! ### impl_MapTab_copied: function 92 -/
def impl_MapTab_copied.f (l0_0 : List (S29)) : Option ((List (S29))) := (impl_EndPoint_103.f l0_0).bind fun t625 => ((impl_EndPoint_93.f t625).bind fun bt628 => (some bt628.1))
set_option maxHeartbeats 8000000 in
set_option maxRecDepth 100000 in
theorem impl_MapTab_copied.calls (A0_0 : Option Addr) (c0_0 : Nat) (l0_0 : List (S29)) (r : List (S29)) (w : World) (hr0_0 : Kd.C k29 w A0_0 l0_0.length l0_0) (hc0_0 : l0_0.length ≤ c0_0) (h : impl_MapTab_copied.f l0_0 = some r) :
    Calls Try.prog 92 #[.agg #[.slice A0_0 l0_0.length c0_0]] w fun e w' => ∃ v0_ : Value, e = .returned (.agg #[v0_]) ∧ Kd.R k29 29 w' w.heap.size (fun _ => True) v0_ r ∧ Below w.heap.size w w' := by
  have hu45 := Try.underlying45
  have HR0_0 := Aside0.mk hr0_0
  have HC0_0 := Aside0.mk hc0_0
  clear hr0_0 hc0_0
  have HB := Aside0.mk (Below.refl w.heap.size w)
  have H : ((impl_EndPoint_103.f l0_0).bind fun t625 => ((impl_EndPoint_93.f t625).bind fun bt628 => (some bt628.1))) = some r := h
  clear h
  replace H := Option.bind_eq_some_iff.mp H
  obtain ⟨t625, A20, H⟩ := H
  replace H : ((impl_EndPoint_93.f t625).bind fun bt628 => (some bt628.1)) = some r := H
  have A2 := Aside0.mk A20
  clear A20
  replace H := Option.bind_eq_some_iff.mp H
  obtain ⟨⟨t628, t631⟩, A30, H⟩ := H
  replace H : (some t628) = some r := H
  have A3 := Aside0.mk A30
  clear A30
  obtain rfl := Option.some.inj H
  go_enter Try.func92, Try.ntmps92
  go_wp2_with (first | ((with_reducible refine gate_dst (N := 1) rfl ?_); refine box_event ?hg (N := 1) ?hd (cs := #[.slice A0_0 l0_0.length c0_0]) (t := 45) ?hr ?_; (case hd => rfl); (case hg => rfl); (case hr => first | (go_simp; done) | (go_simp; rfl)); intro gb623 hg w4 hbox hb; have n0_ := Aside0.mk (below_step (bl HB) hb); have n1_ := Aside0.mk (hbox); have n2_ := Aside0.mk ((by rw [hg]; exact (below_size (bl HB)) : w.heap.size ≤ gb623)); have n3_ := Aside0.mk ((by rw [hg]; exact (below_size (bl HB)) : w.heap.size ≤ gb623)); clear HB; have HB := n0_; have BK623 := n1_; have GW623 := n2_; have GE623 := n3_; clear n0_ n1_ n2_ n3_; clear hb hbox hg) | ((with_reducible refine gate_dst (N := 2) rfl ?_); refine box_event ?hg (N := 2) ?hd (cs := #[.slice none 0 0]) (t := 45) ?hr ?_; (case hd => rfl); (case hg => rfl); (case hr => first | (go_simp; done) | (go_simp; rfl)); intro gb624 hg w5 hbox hb; have n0_ := bkB BK623 hb; have n1_ := Aside0.mk (below_step (bl HB) hb); have n2_ := Aside0.mk (hbox); have n3_ := Aside0.mk ((by rw [hg]; exact (below_size (bl HB)) : w.heap.size ≤ gb624)); have n4_ := Aside0.mk ((by rw [hg]; exact (below_size (bl HB)) : w.heap.size ≤ gb624)); have n5_ := Aside0.mk ((by rw [hg]; exact Nat.ne_of_lt (bkL BK623) : gb623 ≠ gb624)); have n6_ := Aside0.mk ((by rw [hg]; exact Nat.ne_of_gt (bkL BK623) : gb624 ≠ gb623)); clear BK623; clear HB; have BK623 := n0_; have HB := n1_; have BK624 := n2_; have GW624 := n3_; have GE624 := n4_; have NB623_624 := n5_; have NB624_623 := n6_; clear n0_ n1_ n2_ n3_ n4_ n5_ n6_; clear hb hbox hg; have hnb6 := NB623_624.out; have hnc6 := NB624_623.out; have hcz7_0 : w5.cell? ⟨gb623, 0, none⟩ = some (.slice A0_0 l0_0.length c0_0) := (blk_cell BK623.out 0).trans rfl; have hfz7_0 := blk_frozen BK623.out 0) | ((with_reducible refine gate_callee (f := 103) rfl ?_); refine goesL_ (some 5) rfl rfl Try.func103 (by kernel_rfl) rfl #[.slice A0_0 l0_0.length c0_0] rfl (by (try simp only [List.map_toArray, List.map_cons, List.map_nil]); first | done | rfl | (simp only [List.length_drop, List.length_take]; rfl)) ?_; (with_reducible refine (impl_EndPoint_103.calls _ _ l0_0 t625 _ ?side1 ?side2 A2.out).mono ?_); (case side1 => repeat (first | exact (Kd.C_below HR0_0.out HB.out) | (with_reducible refine Kd.C_alloc ?_ _) | (with_reducible refine Kd.C_drewN ?_ _) | (with_reducible refine Kd.C_drew ?_))); (case side2 => exact HC0_0.out); rintro e w8 ⟨v626, rfl, ho0, hb⟩; refine ⟨_, rfl, ?_⟩; have n0_ := Aside0.mk (Kd.R_lower ho0 (below_size (bl HB))); have n1_ := bkB BK623 hb; have n2_ := bkB BK624 hb; have n3_ := Aside0.mk (below_step (bl HB) hb); clear BK623; clear BK624; clear HB; have HO627 := n0_; have BK623 := n1_; have BK624 := n2_; have HB := n3_; clear n0_ n1_ n2_ n3_; (try clear hb); (try clear hb2); (try clear hk); (try clear hi); (try clear ho0); obtain ⟨Ao9, co9, eo9⟩ := Kd.R_slice HO627.out; subst eo9) | ((with_reducible refine gate_callee (f := 93) rfl ?_); refine goesL_ (some 6) rfl rfl Try.func93 (by kernel_rfl) rfl #[.slice Ao9 t625.length co9] rfl (by (try simp only [List.map_toArray, List.map_cons, List.map_nil]); first | done | rfl | (simp only [List.length_drop, List.length_take]; rfl)) ?_; (with_reducible refine (clip_end Ao9 t625.length co9 (Kd.R_reads' HO627.out).2.1 _).mono ?_); rintro e w10 ⟨v629, rfl, hv_, hw_⟩; refine ⟨_, rfl, ?_⟩; have n0_ := bkW BK623 hw_; have n1_ := bkW BK624 hw_; have n2_ := clipNil HO627 w10 A3.out; have n3_ := clipR (ok' := fun k_ => some k_ ≠ (.slice none 0 0 : Value).ownBlock) HO627 hv_ hw_ A3.out (fun k_ hk_ => by first | exact ⟨by simp [Value.ownBlock], hk_⟩ | (simp [Value.ownBlock]; done) | exact hk_); have n4_ := blW HB hw_; clear hv_ hw_; clear BK623; clear BK624; clear HO627; clear HB; have BK623 := n0_; have BK624 := n1_; have HO627 := n2_; have HO630 := n3_; have HB := n4_; clear n0_ n1_ n2_ n3_ n4_; (try clear hb); (try clear hkp); (try clear ho0); (try clear hy0); obtain ⟨Ao11, co11, eo11⟩ := Kd.R_slice HO630.out; subst eo11; have hcz12_0 : w10.cell? ⟨gb624, 0, none⟩ = some (.slice none 0 0) := (blk_cell BK624.out 0).trans rfl; have hfz12_0 := blk_frozen BK624.out 0))
  refine bodyPost_ret (results_cell_row rfl _ _ gb624 45 #[.slice Ao11 t628.length co11] (0, 0) _ rfl (by (with_reducible repeat refine bu ?_); refine blk_put (cs := #[.slice none 0 0]) ?_ 0 _ rfl; (with_reducible repeat refine bu ?_); exact BK624.out) Try.underlying45 rfl (by kernel_rfl)) rfl ?_
  exact ⟨_, by first | rfl | (simp [errW_none, errW_some] <;> rfl) | (simp [*, errW_none, errW_some] <;> rfl), by (with_reducible repeat apply ru); exact Kd.R_mono (Kd.R_far (p := ⟨gb624, 0, none⟩) (Kd.R_types HO630.out BK624.out (by decide)) (fun _ hk => hk.2) (.slice Ao11 t628.length co11)) (fun _ hk => trivial), by repeat (first | (with_reducible first | exact HB.out | apply below_alloc | apply pw_below_drewN | apply below_drew1 | refine below_set ?_ GE623.out | refine below_set ?_ GE624.out) | exact HB.out)⟩

end Go.Proofs.Ytiocgkggegahhaa.P
