import Derived.Test.YtiocgkggegahhaaGLawFnRulMayx3
-- written by hw.py for this claim
namespace Go.Proofs.Ytiocgkggegahhaa.P
open Go.RowKit Go.Proofs.YtiocgkggegahhaaW.PrintWords Go.Proofs.YtiocgkggegahhaaW.PrintLast Go.Proofs.YtiocgkggegahhaaW.PrintMore
attribute [local go_sem] max2_int min2_int max_two min_two max_three min_three max_four min_four
set_option linter.unusedVariables false
set_option linter.unusedSimpArgs false

/-! ### laws_FnRulMay: function 6 -/
mutual
def laws_FnRulMay.j0 : Nat → List (S24) → Bool → Bool → Int → Int → Int → Int → Option (Bool)
  | 0, _, _, _, _, _, _, _ => none
  | k + 1, x3, x6, x36, x462000, x462001, x463000, x463001 => if x36 = true then (if x6 = true then (some false) else ((laws_haOk.f).bind fun t467 => (some t467))) else ((impl_RulMay.f (([] : List (S24))) x462000 x462001 x463000 x463001).bind fun t471 => (if t471 = true then (if (x3.length : Int) ≥ 5 then (some true) else (laws_FnRulMay.l0 k x3 x6 0 x462000 x462001 x463000 x463001 false x462000 x462000 x463000 x463000 x463001 x463001)) else (some false)))
def laws_FnRulMay.l0 : Nat → List (S24) → Bool → Int → Int → Int → Int → Int → Bool → Int → Int → Int → Int → Int → Int → Option (Bool)
  | 0, _, _, _, _, _, _, _, _, _, _, _, _, _, _ => none
  | k + 1, x3, x6, x8, x462000, x462001, x463000, x463001, x473000, x473001, x473002, x473003, x473004, x473005, x473006 => if x8 < (x3.length : Int) then (if 0 ≤ x8 then ((spec_RulOk.f ((rd_T24 x3 x8).f0) ((rd_T24 x3 x8).f1) ((rd_T24 x3 x8).f2) ((rd_T24 x3 x8).f3) ((rd_T24 x3 x8).f4) ((rd_T24 x3 x8).f5) ((rd_T24 x3 x8).f6)).bind fun t474 => (if t474 = true then (laws_FnRulMay.l0 k x3 x6 (wrap64 (x8 + 1)) x462000 x462001 x463000 x463001 x473000 x473001 x473002 x473003 x473004 x473005 x473006) else (some (!x6)))) else (none)) else ((some (([(⟨x473000, x473001, x473002, x473003, x473004, x473005, x473006⟩ : S24)] : List (S24)) : List (S24))).bind fun y476 => (if y476.length + x3.length < 2513169434916 then ((impl_RulMay.f (y476 ++ x3) x462000 x462001 x463000 x463001).bind fun t482 => (if t482 = true then (some false) else ((some (([(⟨true, x473001, x473002, x473003, x473004, x473005, x473006⟩ : S24)] : List (S24)) : List (S24))).bind fun y483 => (if y483.length + x3.length < 2513169434916 then ((impl_RulMay.f (y483 ++ x3) x462000 x462001 x463000 x463001).bind fun t489 => (if t489 = true then ((some (([] : List (S24)) : List (S24))).bind fun y490 => (if y490.length + x3.length < 2513169434916 then ((some (y490 ++ x3 : List (S24))).bind fun y493 => ((some (([(⟨true, x473001, x473002, x473003, x473004, x473005, x473006⟩ : S24)] : List (S24)) : List (S24))).bind fun y496 => (if y493.length + y496.length < 2513169434916 then ((impl_RulMay.f (y493 ++ y496) x462000 x462001 x463000 x463001).bind fun t502 => (some (t502 == x6))) else (none)))) else (none))) else (some false))) else (none))))) else (none)))
end
def laws_FnRulMay.f (k : Nat) (l0 : List Int) : Option (Bool) := if (l0.length : Int) > 1048576 then (some true) else ((spec_DrawRulMay.f k l0).bind fun bt454 => ((impl_RulMay.f bt454.1 bt454.2.1 bt454.2.2.1 bt454.2.2.2.1 bt454.2.2.2.2).bind fun t463 => ((spec_RulMay.f k bt454.1 bt454.2.1 bt454.2.2.1 bt454.2.2.2.1 bt454.2.2.2.2).bind fun t464 => (if (t463 != t464) = true then (some false) else ((spec_EndInside.f bt454.2.1 bt454.2.2.1).bind fun t465 => (if t465 = true then ((spec_EndOutside.f bt454.2.2.2.1 bt454.2.2.2.2).bind fun t466 => (laws_FnRulMay.j0 k bt454.1 t463 (!t466) bt454.2.1 bt454.2.2.1 bt454.2.2.2.1 bt454.2.2.2.2)) else (laws_FnRulMay.j0 k bt454.1 t463 true bt454.2.1 bt454.2.2.1 bt454.2.2.2.1 bt454.2.2.2.2)))))))
theorem laws_FnRulMay.mono_l : ∀ k, (∀ y0 y1 y2 y3 y4 y5 y6, LeO (laws_FnRulMay.j0 k y0 y1 y2 y3 y4 y5 y6) (laws_FnRulMay.j0 (k + 1) y0 y1 y2 y3 y4 y5 y6)) ∧ (∀ y0 y1 y2 y3 y4 y5 y6 y7 y8 y9 y10 y11 y12 y13, LeO (laws_FnRulMay.l0 k y0 y1 y2 y3 y4 y5 y6 y7 y8 y9 y10 y11 y12 y13) (laws_FnRulMay.l0 (k + 1) y0 y1 y2 y3 y4 y5 y6 y7 y8 y9 y10 y11 y12 y13))
  | 0 => ⟨fun _ _ _ _ _ _ _ r h => by simp [laws_FnRulMay.j0] at h, fun _ _ _ _ _ _ _ _ _ _ _ _ _ _ r h => by simp [laws_FnRulMay.l0] at h⟩
  | k + 1 => by
    obtain ⟨ih0, ih1⟩ := laws_FnRulMay.mono_l k
    refine ⟨?_, ?_⟩
    · intro y0 y1 y2 y3 y4 y5 y6
      unfold laws_FnRulMay.j0
      repeat' first
      | (with_reducible exact ih0 _ _ _ _ _ _ _)
      | (with_reducible exact ih1 _ _ _ _ _ _ _ _ _ _ _ _ _ _)
      | (with_reducible exact spec_DrawRulMay.mono _ _)
      | (with_reducible exact spec_RulMay.mono _ _ _ _ _ _)
      | (with_reducible exact LeO.refl _)
      | (with_reducible exact LeO.none _)
      | (with_reducible refine LeO.ite ?_ ?_)
      | (with_reducible refine LeO.bind ?_ (fun _ => ?_))
      | exact ih0 _ _ _ _ _ _ _
      | exact ih1 _ _ _ _ _ _ _ _ _ _ _ _ _ _
      | exact spec_DrawRulMay.mono _ _
      | exact spec_RulMay.mono _ _ _ _ _ _
      | exact LeO.none _
      | refine LeO.ite ?_ ?_
      | refine LeO.bind ?_ (fun _ => ?_)
    · intro y0 y1 y2 y3 y4 y5 y6 y7 y8 y9 y10 y11 y12 y13
      unfold laws_FnRulMay.l0
      repeat' first
      | (with_reducible exact ih0 _ _ _ _ _ _ _)
      | (with_reducible exact ih1 _ _ _ _ _ _ _ _ _ _ _ _ _ _)
      | (with_reducible exact spec_DrawRulMay.mono _ _)
      | (with_reducible exact spec_RulMay.mono _ _ _ _ _ _)
      | (with_reducible exact LeO.refl _)
      | (with_reducible exact LeO.none _)
      | (with_reducible refine LeO.ite ?_ ?_)
      | (with_reducible refine LeO.bind ?_ (fun _ => ?_))
      | exact ih0 _ _ _ _ _ _ _
      | exact ih1 _ _ _ _ _ _ _ _ _ _ _ _ _ _
      | exact spec_DrawRulMay.mono _ _
      | exact spec_RulMay.mono _ _ _ _ _ _
      | exact LeO.none _
      | refine LeO.ite ?_ ?_
      | refine LeO.bind ?_ (fun _ => ?_)
theorem laws_FnRulMay.mono : ∀ a0 k, LeO (laws_FnRulMay.f k a0) (laws_FnRulMay.f (k + 1) a0) := by
  intro a0 k
  obtain ⟨ih0, ih1⟩ := laws_FnRulMay.mono_l k
  unfold laws_FnRulMay.f
  repeat' first
      | (with_reducible exact ih0 _ _ _ _ _ _ _)
      | (with_reducible exact ih1 _ _ _ _ _ _ _ _ _ _ _ _ _ _)
      | (with_reducible exact spec_DrawRulMay.mono _ _)
      | (with_reducible exact spec_RulMay.mono _ _ _ _ _ _)
      | (with_reducible exact LeO.refl _)
      | (with_reducible exact LeO.none _)
      | (with_reducible refine LeO.ite ?_ ?_)
      | (with_reducible refine LeO.bind ?_ (fun _ => ?_))
      | exact ih0 _ _ _ _ _ _ _
      | exact ih1 _ _ _ _ _ _ _ _ _ _ _ _ _ _
      | exact spec_DrawRulMay.mono _ _
      | exact spec_RulMay.mono _ _ _ _ _ _
      | exact LeO.none _
      | refine LeO.ite ?_ ?_
      | refine LeO.bind ?_ (fun _ => ?_)
def laws_FnRulMay.T21 : Bool × List (List Nat × List Nat) := (true, [([], []), ([0], [0]), ([], []), ([1, 2], [1, 2]), ([], []), ([], []), ([3, 4, 5, 3], [3, 4, 5]), ([6], [6]), ([7, 6], [7]), ([8], [8]), ([9, 8], [8, 9]), ([8], [8]), ([10, 11, 8, 8], [8, 10, 11]), ([8], [8]), ([8], [8]), ([12, 13, 14, 12, 8], [8, 12, 13, 14]), ([8, 15], [8, 15]), ([16, 15], [16]), ([17], [17]), ([17], [17]), ([18, 19, 17, 17], [17, 18, 19]), ([17], [17]), ([21, 17], [17, 21]), ([20, 22, 20, 17], [17, 20, 22]), ([17], [17]), ([17], [17]), ([23, 24, 25, 23, 17], [17, 23, 24, 25]), ([17], [17]), ([26, 27, 17], [17, 26, 27]), ([17, 28], [17, 28]), ([29, 26, 0, 1, 2, 3, 4, 5, 6, 7, 8, 9, 10, 11, 12, 13, 14, 15, 16, 17, 18, 19, 20, 21, 22, 23, 24, 25, 26, 27, 28, 29], [29])])
def laws_FnRulMay.B21 : List Nat := [0, 1, 0, 7, 0, 0, 63, 127, 255, 511, 1023, 511, 4095, 511, 511, 32767, 65535, 131071, 262143, 262143, 1048575, 262143, 2359295, 8388607, 262143, 262143, 67108863, 262143, 268435455, 536870911, 1073741823]
theorem laws_FnRulMay.tab21 : rtab .any (opsOf Try.f6 21) = laws_FnRulMay.T21 := by kernel_rfl
theorem laws_FnRulMay.bits21 : waitsOk laws_FnRulMay.T21.2 laws_FnRulMay.B21 = true := by kernel_rfl
set_option maxHeartbeats 8000000 in
set_option maxRecDepth 100000 in
theorem laws_FnRulMay.calls (k : Nat) (A0 : Option Addr) (c0 : Nat) (l0 : List Int) (r : Bool) (w : World) (hr0 : Kd.C (Kd.int .u8) w A0 l0.length l0) (hc0 : l0.length ≤ c0) (h : laws_FnRulMay.f k l0 = some r) (hrt : Aside0 (r = true)) :
    Calls Try.prog 6 #[.slice A0 l0.length c0] w fun e w' => e = .returned (.bool r) ∧ Below w.heap.size w w' := by
  have hu29 := Try.underlying29
  have hu24 := Try.underlying24
  have HR0 := Aside0.mk hr0
  have HC0 := Aside0.mk hc0
  clear hr0 hc0
  have HB := Aside0.mk (Below.refl w.heap.size w)
  have H : (if (l0.length : Int) > 1048576 then (some true) else ((spec_DrawRulMay.f k l0).bind fun bt454 => ((impl_RulMay.f bt454.1 bt454.2.1 bt454.2.2.1 bt454.2.2.2.1 bt454.2.2.2.2).bind fun t463 => ((spec_RulMay.f k bt454.1 bt454.2.1 bt454.2.2.1 bt454.2.2.2.1 bt454.2.2.2.2).bind fun t464 => (if (t463 != t464) = true then (some false) else ((spec_EndInside.f bt454.2.1 bt454.2.2.1).bind fun t465 => (if t465 = true then ((spec_EndOutside.f bt454.2.2.2.1 bt454.2.2.2.2).bind fun t466 => (laws_FnRulMay.j0 k bt454.1 t463 (!t466) bt454.2.1 bt454.2.2.1 bt454.2.2.2.1 bt454.2.2.2.2)) else (laws_FnRulMay.j0 k bt454.1 t463 true bt454.2.1 bt454.2.2.1 bt454.2.2.2.1 bt454.2.2.2.2)))))))) = some r := h
  clear h
  by_cases c2 : (l0.length : Int) > 1048576
  · rw [if_pos c2] at H
    have c2b0 : decide (1048576 < (l0.length : Int)) = true := decide_eq_true c2
    have c2b1 : decide (1048576 < l0.length) = true := decide_eq_true (by omega)
    clear c2
    obtain rfl := Option.some.inj H
    go_enter Try.func6, Try.ntmps6
    go_wp2
    go_ret
    exact ⟨by first | rfl | (simp [errW_none, errW_some] <;> rfl) | (simp [*, errW_none, errW_some] <;> rfl), by repeat (first | (with_reducible first | exact HB.out | apply below_alloc | apply pw_below_drewN | apply below_drew1) | exact HB.out)⟩
  · rw [if_neg c2] at H
    have c2b0 : decide (1048576 < (l0.length : Int)) = false := decide_eq_false c2
    have c2b1 : decide (1048576 < l0.length) = false := decide_eq_false (by omega)
    clear c2
    replace H := Option.bind_eq_some_iff.mp H
    obtain ⟨⟨t454, t457, t458, t459, t460⟩, A30, H⟩ := H
    replace H : ((impl_RulMay.f t454 t457 t458 t459 t460).bind fun t463 => ((spec_RulMay.f k t454 t457 t458 t459 t460).bind fun t464 => (if (t463 != t464) = true then (some false) else ((spec_EndInside.f t457 t458).bind fun t465 => (if t465 = true then ((spec_EndOutside.f t459 t460).bind fun t466 => (laws_FnRulMay.j0 k t454 t463 (!t466) t457 t458 t459 t460)) else (laws_FnRulMay.j0 k t454 t463 true t457 t458 t459 t460)))))) = some r := H
    have A3 := Aside0.mk A30
    clear A30
    replace H := Option.bind_eq_some_iff.mp H
    obtain ⟨t463, A40, H⟩ := H
    replace H : ((spec_RulMay.f k t454 t457 t458 t459 t460).bind fun t464 => (if (t463 != t464) = true then (some false) else ((spec_EndInside.f t457 t458).bind fun t465 => (if t465 = true then ((spec_EndOutside.f t459 t460).bind fun t466 => (laws_FnRulMay.j0 k t454 t463 (!t466) t457 t458 t459 t460)) else (laws_FnRulMay.j0 k t454 t463 true t457 t458 t459 t460))))) = some r := H
    have A4 := Aside0.mk A40
    clear A40
    replace H := Option.bind_eq_some_iff.mp H
    obtain ⟨t464, A50, H⟩ := H
    replace H : (if (t463 != t464) = true then (some false) else ((spec_EndInside.f t457 t458).bind fun t465 => (if t465 = true then ((spec_EndOutside.f t459 t460).bind fun t466 => (laws_FnRulMay.j0 k t454 t463 (!t466) t457 t458 t459 t460)) else (laws_FnRulMay.j0 k t454 t463 true t457 t458 t459 t460)))) = some r := H
    have A5 := Aside0.mk A50
    clear A50
    by_cases c6 : (t463 != t464) = true
    · rw [if_pos c6] at H
      have c6b0 : (t463 != t464) = true := c6
      (try (have c6b1 : decide (t463 = t464) = false := by simpa using c6))
      (try (have c6b2 : (t463 == t464) = false := by simpa using c6))
      (try (have c6b3 : ¬ (t463 = t464) := by simpa using c6))
      clear c6
      exact absurd ((Option.some.inj H).trans hrt.out) (by decide)
    · rw [if_neg c6] at H
      have c6b0 : (t463 != t464) = false := by simpa using c6
      (try (have c6b1 : decide (t463 = t464) = true := by simpa using c6))
      (try (have c6b2 : (t463 == t464) = true := by simpa using c6))
      clear c6
      have HC7 := Aside0.mk H
      clear H
      go_enter Try.func6, Try.ntmps6
      go_upto_region 7 with (first | ((with_reducible refine gate_callee (f := 21) rfl ?_); refine goesL_ (some 15) rfl rfl Try.func21 (by kernel_rfl) rfl #[.slice A0 l0.length c0] rfl (by (try simp only [List.map_toArray, List.map_cons, List.map_nil]); first | done | rfl | (simp only [List.length_drop, List.length_take]; rfl)) ?_; (with_reducible refine (spec_DrawRulMay.calls k _ _ l0 t454 t457 t458 t459 t460 _ ?side1 ?side2 A3.out).mono ?_); (case side1 => repeat (first | exact HR0.out | (with_reducible refine Kd.C_alloc ?_ _) | (with_reducible refine Kd.C_drewN ?_ _) | (with_reducible refine Kd.C_drew ?_))); (case side2 => exact HC0.out); rintro e w8 ⟨v455, rfl, ho0, hb⟩; refine ⟨_, rfl, ?_⟩; have n0_ := Aside0.mk (Kd.R_lower ho0 (below_size (bl HB))); have n1_ := Aside0.mk (below_step (bl HB) hb); clear HB; have HO456 := n0_; have HB := n1_; clear n0_ n1_; (try clear hb); (try clear hb2); (try clear hk); (try clear hi); (try clear ho0)) | ((with_reducible refine gate_dst (N := 4) rfl ?_); (try (refine gate_guard (by rfl) ?_; dsimp only)); refine box_event ?hg (N := 4) ?hd (cs := #[.int .i64 0, .int .i64 0]) (t := 29) ?hr ?_; (case hd => rfl); (case hg => rfl); (case hr => first | (go_simp; done) | (go_simp; rfl)); intro gb461 hg w9 hbox hb; have n0_ := Aside0.mk (Kd.R_below (rs HO456) hb); have n1_ := Aside0.mk (below_step (bl HB) hb); have n2_ := Aside0.mk (hbox); have n3_ := Aside0.mk ((by rw [hg]; exact (below_size (bl HB)) : w.heap.size ≤ gb461)); have n4_ := Aside0.mk ((by rw [hg]; exact (below_size (bl HB)) : w.heap.size ≤ gb461)); clear HO456; clear HB; have HO456 := n0_; have HB := n1_; have BK461 := n2_; have GW461 := n3_; have GE461 := n4_; clear n0_ n1_ n2_ n3_ n4_; clear hb hbox hg) | ((with_reducible refine gate_dst (N := 5) rfl ?_); (try (refine gate_guard (by rfl) ?_; dsimp only)); refine box_event ?hg (N := 5) ?hd (cs := #[.int .i64 0, .int .i64 0]) (t := 29) ?hr ?_; (case hd => rfl); (case hg => rfl); (case hr => first | (go_simp; done) | (go_simp; rfl)); intro gb462 hg w10 hbox hb; have n0_ := Aside0.mk (Kd.R_below (rs HO456) hb); have n1_ := bkB BK461 hb; have n2_ := Aside0.mk (below_step (bl HB) hb); have n3_ := Aside0.mk (hbox); have n4_ := Aside0.mk ((by rw [hg]; exact (below_size (bl HB)) : w.heap.size ≤ gb462)); have n5_ := Aside0.mk ((by rw [hg]; exact (below_size (bl HB)) : w.heap.size ≤ gb462)); have n6_ := Aside0.mk ((by rw [hg]; exact Nat.ne_of_lt (bkL BK461) : gb461 ≠ gb462)); have n7_ := Aside0.mk ((by rw [hg]; exact Nat.ne_of_gt (bkL BK461) : gb462 ≠ gb461)); clear HO456; clear BK461; clear HB; have HO456 := n0_; have BK461 := n1_; have HB := n2_; have BK462 := n3_; have GW462 := n4_; have GE462 := n5_; have NB461_462 := n6_; have NB462_461 := n7_; clear n0_ n1_ n2_ n3_ n4_ n5_ n6_ n7_; clear hb hbox hg; have hnb11 := NB461_462.out; have hnc11 := NB462_461.out; have hcz12_0 : w10.cell? ⟨gb461, 0, none⟩ = some (.int .i64 0) := (blk_cell BK461.out 0).trans rfl; have hcz12_1 : w10.cell? ⟨gb461, 1, none⟩ = some (.int .i64 0) := (blk_cell BK461.out 1).trans rfl; have hfz12_0 := blk_frozen BK461.out 0; have hfz12_1 := blk_frozen BK461.out 1; have hcz13_0 : w10.cell? ⟨gb462, 0, none⟩ = some (.int .i64 0) := (blk_cell BK462.out 0).trans rfl; have hcz13_1 : w10.cell? ⟨gb462, 1, none⟩ = some (.int .i64 0) := (blk_cell BK462.out 1).trans rfl; have hfz13_0 := blk_frozen BK462.out 0; have hfz13_1 := blk_frozen BK462.out 1; obtain ⟨Ao14, co14, eo14⟩ := Kd.R_slice HO456.out; subst eo14) | ((with_reducible refine gate_callee (f := 15) rfl ?_); refine goesL_ (some 22) rfl rfl Try.func15 (by kernel_rfl) rfl #[.slice Ao14 t454.length co14, .agg #[.int .i64 t457, .int .i64 t458], .agg #[.int .i64 t459, .int .i64 t460]] rfl (by (try simp only [List.map_toArray, List.map_cons, List.map_nil]); first | done | rfl | (simp only [List.length_drop, List.length_take]; rfl)) ?_; (with_reducible refine (impl_RulMay.calls _ _ t454 t457 t458 t459 t460 t463 _ ?side1 ?side2 A4.out).mono ?_); (case side1 => refine (Kd.R_reads' (e := 24) (base := w.heap.size) (ok := fun k_ => True) (n := t454.length) (c := co14) ?_).2.2; exact (by (with_reducible repeat apply ru); exact (Kd.R_mono (Kd.R_mono (Kd.R_far (p := ⟨gb462, 1, none⟩) (Kd.R_far (p := ⟨gb462, 0, none⟩) (Kd.R_far (p := ⟨gb461, 1, none⟩) (Kd.R_far (p := ⟨gb461, 0, none⟩) (Kd.R_types (Kd.R_types HO456.out BK461.out (by decide)) BK462.out (by decide)) (fun _ hk => hk.1.2) (.int .i64 t457)) (fun _ hk => hk.1.2) (.int .i64 t458)) (fun _ hk => hk.2) (.int .i64 t459)) (fun _ hk => hk.2) (.int .i64 t460)) (fun _ h_ => h_.1)) (fun _ h_ => h_.1)))); (case side2 => exact (Kd.R_reads' HO456.out).2.1); rintro e w15 ⟨rfl, hb⟩; refine ⟨_, rfl, ?_⟩; have n0_ := Aside0.mk (Kd.R_below (by (with_reducible repeat apply ru); exact (Kd.R_mono (Kd.R_mono (Kd.R_far (p := ⟨gb462, 1, none⟩) (Kd.R_far (p := ⟨gb462, 0, none⟩) (Kd.R_far (p := ⟨gb461, 1, none⟩) (Kd.R_far (p := ⟨gb461, 0, none⟩) (Kd.R_types (Kd.R_types HO456.out BK461.out (by decide)) BK462.out (by decide)) (fun _ hk => hk.1.2) (.int .i64 t457)) (fun _ hk => hk.1.2) (.int .i64 t458)) (fun _ hk => hk.2) (.int .i64 t459)) (fun _ hk => hk.2) (.int .i64 t460)) (fun _ h_ => h_.1)) (fun _ h_ => h_.1))) hb); have n1_ := Aside0.mk (blk_below (g := gb461) (o := .cells #[.int .i64 t457, .int .i64 t458] 29 (0, 0)) (by (with_reducible repeat refine bu ?_); refine blk_far ?_ NB461_462.out _; (with_reducible repeat refine bu ?_); refine blk_far ?_ NB461_462.out _; (with_reducible repeat refine bu ?_); refine blk_put (cs := #[.int .i64 t457, .int .i64 0]) ?_ 1 _ rfl; (with_reducible repeat refine bu ?_); refine blk_put (cs := #[.int .i64 0, .int .i64 0]) ?_ 0 _ rfl; (with_reducible repeat refine bu ?_); exact BK461.out) hb); have n2_ := Aside0.mk (blk_below (g := gb462) (o := .cells #[.int .i64 t459, .int .i64 t460] 29 (0, 0)) (by (with_reducible repeat refine bu ?_); refine blk_put (cs := #[.int .i64 t459, .int .i64 0]) ?_ 1 _ rfl; (with_reducible repeat refine bu ?_); refine blk_put (cs := #[.int .i64 0, .int .i64 0]) ?_ 0 _ rfl; (with_reducible repeat refine bu ?_); refine blk_far ?_ NB462_461.out _; (with_reducible repeat refine bu ?_); refine blk_far ?_ NB462_461.out _; (with_reducible repeat refine bu ?_); exact BK462.out) hb); have n3_ := Aside0.mk (below_step (bl HB) hb); clear HO456; clear BK461; clear BK462; clear HB; have HO456 := n0_; have BK461 := n1_; have BK462 := n2_; have HB := n3_; clear n0_ n1_ n2_ n3_; (try clear hb); (try clear hb2); (try clear hk); (try clear hi); have hcz16_0 : w15.cell? ⟨gb461, 0, none⟩ = some (.int .i64 t457) := (blk_cell BK461.out 0).trans rfl; have hcz16_1 : w15.cell? ⟨gb461, 1, none⟩ = some (.int .i64 t458) := (blk_cell BK461.out 1).trans rfl; have hfz16_0 := blk_frozen BK461.out 0; have hfz16_1 := blk_frozen BK461.out 1; have hcz17_0 : w15.cell? ⟨gb462, 0, none⟩ = some (.int .i64 t459) := (blk_cell BK462.out 0).trans rfl; have hcz17_1 : w15.cell? ⟨gb462, 1, none⟩ = some (.int .i64 t460) := (blk_cell BK462.out 1).trans rfl; have hfz17_0 := blk_frozen BK462.out 0; have hfz17_1 := blk_frozen BK462.out 1) | ((with_reducible refine gate_callee (f := 17) rfl ?_); refine goesL_ (some 27) rfl rfl Try.func17 (by kernel_rfl) rfl #[.slice Ao14 t454.length co14, .agg #[.int .i64 t457, .int .i64 t458], .agg #[.int .i64 t459, .int .i64 t460]] rfl (by (try simp only [List.map_toArray, List.map_cons, List.map_nil]); first | done | rfl | (simp only [List.length_drop, List.length_take]; rfl)) ?_; (with_reducible refine (spec_RulMay.calls k _ _ t454 t457 t458 t459 t460 t464 _ ?side1 ?side2 A5.out).mono ?_); (case side1 => repeat (first | exact (Kd.R_reads' HO456.out).2.2 | (with_reducible refine Kd.C_alloc ?_ _) | (with_reducible refine Kd.C_drewN ?_ _) | (with_reducible refine Kd.C_drew ?_))); (case side2 => exact (Kd.R_reads' HO456.out).2.1); rintro e w18 ⟨rfl, hb⟩; refine ⟨_, rfl, ?_⟩; have n0_ := Aside0.mk (Kd.R_below (rs HO456) hb); have n1_ := bkB BK461 hb; have n2_ := bkB BK462 hb; have n3_ := Aside0.mk (below_step (bl HB) hb); clear HO456; clear BK461; clear BK462; clear HB; have HO456 := n0_; have BK461 := n1_; have BK462 := n2_; have HB := n3_; clear n0_ n1_ n2_ n3_; (try clear hb); (try clear hb2); (try clear hk); (try clear hi)))
      (try simp only [Act.put, List.setIfInBounds_toArray, List.set_cons_zero, List.set_cons_succ])
      go_cut [36] (fun v36 wc => ∃ (kq : Nat) (x36_6 : Bool), v36 = .bool x36_6 ∧ Aside0 (laws_FnRulMay.j0 kq t454 t463 x36_6 t457 t458 t459 t460 = some r) ∧ Aside0 (kq ≤ k) ∧ Aside0 (Kd.R k24 24 wc w.heap.size (fun _ => True) (.slice Ao14 t454.length co14) t454) ∧ Aside0 (wc.heap[gb461]? = some (.cells #[.int .i64 t457, .int .i64 t458] 29 (0, 0))) ∧ Aside0 (wc.heap[gb462]? = some (.cells #[.int .i64 t459, .int .i64 t460] 29 (0, 0))) ∧ Aside0 (Below w.heap.size w wc))
      case first =>
        have H := HC7.out
        clear HC7
        replace H := Option.bind_eq_some_iff.mp H
        obtain ⟨t465, A190, H⟩ := H
        replace H : (if t465 = true then ((spec_EndOutside.f t459 t460).bind fun t466 => (laws_FnRulMay.j0 k t454 t463 (!t466) t457 t458 t459 t460)) else (laws_FnRulMay.j0 k t454 t463 true t457 t458 t459 t460)) = some r := H
        have A19 := Aside0.mk A190
        clear A190
        by_cases c20 : t465 = true
        · subst c20
          have H1 : ((spec_EndOutside.f t459 t460).bind fun t466 => (laws_FnRulMay.j0 k t454 t463 (!t466) t457 t458 t459 t460)) = some r := by rw [if_pos rfl] at H; exact H
          clear H
          have H := H1
          clear H1
          replace H := Option.bind_eq_some_iff.mp H
          obtain ⟨t466, A210, H⟩ := H
          replace H : (laws_FnRulMay.j0 k t454 t463 (!t466) t457 t458 t459 t460) = some r := H
          have A21 := Aside0.mk A210
          clear A210
          have H' := Aside0.mk H
          clear H
          have hnb22 := NB461_462.out
          have hnc22 := NB462_461.out
          have hcz23_0 : w18.cell? ⟨gb461, 0, none⟩ = some (.int .i64 t457) := (blk_cell BK461.out 0).trans rfl
          have hcz23_1 : w18.cell? ⟨gb461, 1, none⟩ = some (.int .i64 t458) := (blk_cell BK461.out 1).trans rfl
          have hfz23_0 := blk_frozen BK461.out 0
          have hfz23_1 := blk_frozen BK461.out 1
          go_wp2_with (first | ((with_reducible refine gate_callee (f := 22) rfl ?_); refine goesL_ (some 30) rfl rfl Try.func22 (by kernel_rfl) rfl #[.agg #[.int .i64 t457, .int .i64 t458]] rfl (by (try simp only [List.map_toArray, List.map_cons, List.map_nil]); first | done | rfl | (simp only [List.length_drop, List.length_take]; rfl)) ?_; (with_reducible refine (spec_EndInside.calls t457 t458 true _ A19.out).mono ?_); rintro e w24 ⟨rfl, hb⟩; refine ⟨_, rfl, ?_⟩; have n0_ := Aside0.mk (Kd.R_below (rs HO456) hb); have n1_ := bkB BK461 hb; have n2_ := bkB BK462 hb; have n3_ := Aside0.mk (below_step (bl HB) hb); clear HO456; clear BK461; clear BK462; clear HB; have HO456 := n0_; have BK461 := n1_; have BK462 := n2_; have HB := n3_; clear n0_ n1_ n2_ n3_; (try clear hb); (try clear hb2); (try clear hk); (try clear hi); have hcz25_0 : w24.cell? ⟨gb462, 0, none⟩ = some (.int .i64 t459) := (blk_cell BK462.out 0).trans rfl; have hcz25_1 : w24.cell? ⟨gb462, 1, none⟩ = some (.int .i64 t460) := (blk_cell BK462.out 1).trans rfl; have hfz25_0 := blk_frozen BK462.out 0; have hfz25_1 := blk_frozen BK462.out 1) | (go_at_call 23; (with_reducible refine (spec_EndOutside.calls t459 t460 t466 _ A21.out).mono ?_); rintro e w26 ⟨rfl, hb⟩; have n0_ := Aside0.mk (Kd.R_below (rs HO456) hb); have n1_ := bkB BK461 hb; have n2_ := bkB BK462 hb; have n3_ := Aside0.mk (below_step (bl HB) hb); clear HO456; clear BK461; clear BK462; clear HB; have HO456 := n0_; have BK461 := n1_; have BK462 := n2_; have HB := n3_; clear n0_ n1_ n2_ n3_; (try clear hb); (try clear hb2); (try clear hk); (try clear hi)))
          go_meet
          case rel => exact ⟨_, (!t466), (by first | rfl | (simp; done) | (simp [*]; done)), H', ⟨by first | omega | exact Nat.le_refl _⟩, ⟨by (with_reducible repeat apply ru); exact HO456.out⟩, ⟨by (with_reducible repeat refine bu ?_); exact BK461.out⟩, ⟨by (with_reducible repeat refine bu ?_); exact BK462.out⟩, ⟨by repeat (first | (with_reducible first | exact HB.out | apply below_alloc | apply pw_below_drewN | apply below_drew1 | refine below_set ?_ GE461.out | refine below_set ?_ GE462.out) | exact HB.out)⟩⟩
        · replace c20 := Bool.eq_false_iff.mpr c20
          subst c20
          have H1 : (laws_FnRulMay.j0 k t454 t463 true t457 t458 t459 t460) = some r := by rw [if_neg (show ¬ (false = true) by decide)] at H; exact H
          clear H
          have H := H1
          clear H1
          have H' := Aside0.mk H
          clear H
          have hnb27 := NB461_462.out
          have hnc27 := NB462_461.out
          have hcz28_0 : w18.cell? ⟨gb461, 0, none⟩ = some (.int .i64 t457) := (blk_cell BK461.out 0).trans rfl
          have hcz28_1 : w18.cell? ⟨gb461, 1, none⟩ = some (.int .i64 t458) := (blk_cell BK461.out 1).trans rfl
          have hfz28_0 := blk_frozen BK461.out 0
          have hfz28_1 := blk_frozen BK461.out 1
          go_wp2_with (first | ((with_reducible refine gate_callee (f := 22) rfl ?_); refine goesL_ (some 30) rfl rfl Try.func22 (by kernel_rfl) rfl #[.agg #[.int .i64 t457, .int .i64 t458]] rfl (by (try simp only [List.map_toArray, List.map_cons, List.map_nil]); first | done | rfl | (simp only [List.length_drop, List.length_take]; rfl)) ?_; (with_reducible refine (spec_EndInside.calls t457 t458 false _ A19.out).mono ?_); rintro e w29 ⟨rfl, hb⟩; refine ⟨_, rfl, ?_⟩; have n0_ := Aside0.mk (Kd.R_below (rs HO456) hb); have n1_ := bkB BK461 hb; have n2_ := bkB BK462 hb; have n3_ := Aside0.mk (below_step (bl HB) hb); clear HO456; clear BK461; clear BK462; clear HB; have HO456 := n0_; have BK461 := n1_; have BK462 := n2_; have HB := n3_; clear n0_ n1_ n2_ n3_; (try clear hb); (try clear hb2); (try clear hk); (try clear hi)))
          go_meet
          case rel => exact ⟨_, (true), (by first | rfl | (simp; done) | (simp [*]; done)), H', ⟨by first | omega | exact Nat.le_refl _⟩, ⟨by (with_reducible repeat apply ru); exact HO456.out⟩, ⟨by (with_reducible repeat refine bu ?_); exact BK461.out⟩, ⟨by (with_reducible repeat refine bu ?_); exact BK462.out⟩, ⟨by repeat (first | (with_reducible first | exact HB.out | apply below_alloc | apply pw_below_drewN | apply below_drew1 | refine below_set ?_ GE461.out | refine below_set ?_ GE462.out) | exact HB.out)⟩⟩
      case rest =>
        clear HC7
        try clear c1
        try clear c2
        try clear c2b0
        try clear c2b1
        try clear p2
        try clear c6
        try clear c6b0
        try clear c6b1
        try clear c6b2
        try clear c11
        try clear c15
        try clear c17
        try clear c20
        try clear c21
        try clear c22
        try clear c27
        try clear hcz12_0
        try clear hcz12_1
        try clear hcz13_0
        try clear hcz13_1
        try clear hcz16_0
        try clear hcz16_1
        try clear hcz17_0
        try clear hcz17_1
        try clear hcz23_0
        try clear hcz23_1
        try clear hcz25_0
        try clear hcz25_1
        try clear hcz28_0
        try clear hcz28_1
        try clear hfz12_0
        try clear hfz12_1
        try clear hfz13_0
        try clear hfz13_1
        try clear hfz16_0
        try clear hfz16_1
        try clear hfz17_0
        try clear hfz17_1
        try clear hfz23_0
        try clear hfz23_1
        try clear hfz25_0
        try clear hfz25_1
        try clear hfz28_0
        try clear hfz28_1
        obtain ⟨kq, x36_6, rfl, HA, HJ6, HO_3, BK461, BK462, HB⟩ := hcut
        cases kq with
        | zero => exact absurd HA.out (by simp [laws_FnRulMay.j0])
        | succ kj6 =>
          have H := HA.out
          clear HA
          simp only [laws_FnRulMay.j0] at H
          by_cases c30 : x36_6 = true
          · subst c30
            have H1 : (if t463 = true then (some false) else ((laws_haOk.f).bind fun t467 => (some t467))) = some r := by rw [if_pos rfl] at H; exact H
            clear H
            have H := H1
            clear H1
            by_cases c31 : t463 = true
            · subst c31
              have H1 : (some false) = some r := by rw [if_pos rfl] at H; exact H
              clear H
              have H := H1
              clear H1
              exact absurd ((Option.some.inj H).trans hrt.out) (by decide)
            · replace c31 := Bool.eq_false_iff.mpr c31
              subst c31
              have H1 : ((laws_haOk.f).bind fun t467 => (some t467)) = some r := by rw [if_neg (show ¬ (false = true) by decide)] at H; exact H
              clear H
              have H := H1
              clear H1
              replace H := Option.bind_eq_some_iff.mp H
              obtain ⟨t467, A320, H⟩ := H
              replace H : (some t467) = some r := H
              have A32 := Aside0.mk A320
              clear A320
              obtain rfl := Option.some.inj H
              go_wp2_with (first | (go_at_call 14; (with_reducible refine (laws_haOk.calls  t467 _ A32.out).mono ?_); rintro e w33 ⟨rfl, hb⟩; have n0_ := Aside0.mk (Kd.R_below (rs HO_3) hb); have n1_ := bkB BK461 hb; have n2_ := bkB BK462 hb; have n3_ := Aside0.mk (below_step (bl HB) hb); clear HO_3; clear BK461; clear BK462; clear HB; have HO_3 := n0_; have BK461 := n1_; have BK462 := n2_; have HB := n3_; clear n0_ n1_ n2_ n3_; (try clear hb); (try clear hb2); (try clear hk); (try clear hi)))
              go_ret
              exact ⟨by first | rfl | (simp [errW_none, errW_some] <;> rfl) | (simp [*, errW_none, errW_some] <;> rfl), by repeat (first | (with_reducible first | exact HB.out | apply below_alloc | apply pw_below_drewN | apply below_drew1 | refine below_set ?_ GE461.out | refine below_set ?_ GE462.out) | exact HB.out)⟩
          · replace c30 := Bool.eq_false_iff.mpr c30
            subst c30
            have H1 : ((impl_RulMay.f (([] : List (S24))) t457 t458 t459 t460).bind fun t471 => (if t471 = true then (if (t454.length : Int) ≥ 5 then (some true) else (laws_FnRulMay.l0 kj6 t454 t463 0 t457 t458 t459 t460 false t457 t457 t459 t459 t460 t460)) else (some false))) = some r := by rw [if_neg (show ¬ (false = true) by decide)] at H; exact H
            clear H
            have H := H1
            clear H1
            obtain ⟨y468, hy468⟩ : ∃ y_ : List (S24), y_ = (([] : List (S24))) := ⟨_, rfl⟩
            replace H : ((impl_RulMay.f y468 t457 t458 t459 t460).bind fun t471 => (if t471 = true then (if (t454.length : Int) ≥ 5 then (some true) else (laws_FnRulMay.l0 kj6 t454 t463 0 t457 t458 t459 t460 false t457 t457 t459 t459 t460 t460)) else (some false))) = some r := by first | (rw [hy468]; with_reducible exact H) | (have H2_ := (Option.bind_some _ _).symm.trans H; rw [hy468]; with_reducible exact H2_) | (have H2_ := (Option.bind_some _ _).symm.trans H; with_reducible exact H2_) | with_reducible exact H | (rw [hy468]; exact H) | exact H
            have Ny468 := Aside0.mk hy468
            clear hy468
            replace H := Option.bind_eq_some_iff.mp H
            obtain ⟨t471, A340, H⟩ := H
            replace H : (if t471 = true then (if (t454.length : Int) ≥ 5 then (some true) else (laws_FnRulMay.l0 kj6 t454 t463 0 t457 t458 t459 t460 false t457 t457 t459 t459 t460 t460)) else (some false)) = some r := H
            have A34 := Aside0.mk A340
            clear A340
            by_cases c35 : t471 = true
            · subst c35
              have H1 : (if (t454.length : Int) ≥ 5 then (some true) else (laws_FnRulMay.l0 kj6 t454 t463 0 t457 t458 t459 t460 false t457 t457 t459 t459 t460 t460)) = some r := by rw [if_pos rfl] at H; exact H
              clear H
              have H := H1
              clear H1
              by_cases c36 : (t454.length : Int) ≥ 5
              · rw [if_pos c36] at H
                have c36b0 : decide (5 ≤ (t454.length : Int)) = true := decide_eq_true c36
                have c36b1 : decide (5 ≤ t454.length) = true := decide_eq_true (by omega)
                clear c36
                obtain rfl := Option.some.inj H
                go_wp2_with (first | ((with_reducible refine gate_dst (N := 42) rfl ?_); (try (refine gate_guard (by rfl) ?_; dsimp only)); refine Kd.R_lit k24 _ 24 ?hg (N := 42) ?hd (xs := ([] : List (S24))) (inner := []) (ok := fun _ => True) (okp := fun _ => True) ?hr ?hp (fun _ hk => hk) trivial (Below.refl _ _) (Nat.le_refl _) (by simp) ?_; (case hd => rfl); (case hg => rfl); (case hr => first | (go_simp; done) | (go_simp; rfl)); (case hp => exact (Reps.none _ _)); intro v469 w37 ho38 hb hg_ hnew_; clear hg_ hnew_; (first | rw [← Ny468.out] at ho38 | (simp only [Int.reduceToNat] at ho38; rw [← Ny468.out] at ho38)); have n0_ := Aside0.mk (Kd.R_elder' (rs HO_3) (Kd.R_base ho38) hb); have n1_ := Aside0.mk (Kd.R_lower (Kd.R_new' ho38 (Kd.R_lt (rs HO_3))) (below_size (bl HB))); have n2_ := bkB BK461 hb; have n3_ := bkB BK462 hb; have n4_ := Aside0.mk (below_step (bl HB) hb); clear HO_3; clear BK461; clear BK462; clear HB; have HO_3 := n0_; have HO470 := n1_; have BK461 := n2_; have BK462 := n3_; have HB := n4_; clear n0_ n1_ n2_ n3_ n4_; clear hb ho38; have hnb39 := NB461_462.out; have hnc39 := NB462_461.out; have hcz40_0 : w37.cell? ⟨gb461, 0, none⟩ = some (.int .i64 t457) := (blk_cell BK461.out 0).trans rfl; have hcz40_1 : w37.cell? ⟨gb461, 1, none⟩ = some (.int .i64 t458) := (blk_cell BK461.out 1).trans rfl; have hfz40_0 := blk_frozen BK461.out 0; have hfz40_1 := blk_frozen BK461.out 1; have hcz41_0 : w37.cell? ⟨gb462, 0, none⟩ = some (.int .i64 t459) := (blk_cell BK462.out 0).trans rfl; have hcz41_1 : w37.cell? ⟨gb462, 1, none⟩ = some (.int .i64 t460) := (blk_cell BK462.out 1).trans rfl; have hfz41_0 := blk_frozen BK462.out 0; have hfz41_1 := blk_frozen BK462.out 1; obtain ⟨Ao42, co42, eo42⟩ := Kd.R_slice HO470.out; subst eo42) | ((with_reducible refine gate_callee (f := 15) rfl ?_); refine goesL_ (some 45) rfl rfl Try.func15 (by kernel_rfl) rfl #[.slice Ao42 y468.length co42, .agg #[.int .i64 t457, .int .i64 t458], .agg #[.int .i64 t459, .int .i64 t460]] rfl (by (try simp only [List.map_toArray, List.map_cons, List.map_nil]); first | done | rfl | (simp only [List.length_drop, List.length_take]; rfl)) ?_; (with_reducible refine (impl_RulMay.calls _ _ y468 t457 t458 t459 t460 true _ ?side1 ?side2 A34.out).mono ?_); (case side1 => repeat (first | exact (Kd.R_reads' HO470.out).2.2 | (with_reducible refine Kd.C_alloc ?_ _) | (with_reducible refine Kd.C_drewN ?_ _) | (with_reducible refine Kd.C_drew ?_))); (case side2 => exact (Kd.R_reads' HO470.out).2.1); rintro e w43 ⟨rfl, hb⟩; refine ⟨_, rfl, ?_⟩; have n0_ := Aside0.mk (Kd.R_below (rs HO_3) hb); have n1_ := Aside0.mk (Kd.R_below (rs HO470) hb); have n2_ := bkB BK461 hb; have n3_ := bkB BK462 hb; have n4_ := Aside0.mk (below_step (bl HB) hb); clear HO_3; clear HO470; clear BK461; clear BK462; clear HB; have HO_3 := n0_; have HO470 := n1_; have BK461 := n2_; have BK462 := n3_; have HB := n4_; clear n0_ n1_ n2_ n3_ n4_; (try clear hb); (try clear hb2); (try clear hk); (try clear hi); have hcz44_0 : w43.cell? ⟨gb461, 0, none⟩ = some (.int .i64 t457) := (blk_cell BK461.out 0).trans rfl; have hcz44_1 : w43.cell? ⟨gb461, 1, none⟩ = some (.int .i64 t458) := (blk_cell BK461.out 1).trans rfl; have hfz44_0 := blk_frozen BK461.out 0; have hfz44_1 := blk_frozen BK461.out 1; have hcz45_0 : w43.cell? ⟨gb462, 0, none⟩ = some (.int .i64 t459) := (blk_cell BK462.out 0).trans rfl; have hcz45_1 : w43.cell? ⟨gb462, 1, none⟩ = some (.int .i64 t460) := (blk_cell BK462.out 1).trans rfl; have hfz45_0 := blk_frozen BK462.out 0; have hfz45_1 := blk_frozen BK462.out 1) | ((with_reducible refine gate_dst (N := 7) rfl ?_); (try (refine gate_guard (by rfl) ?_; dsimp only)); refine box_event ?hg (N := 7) ?hd (cs := #[.bool false, .int .i64 0, .int .i64 0, .int .i64 0, .int .i64 0, .int .i64 0, .int .i64 0]) (t := 24) ?hr ?_; (case hd => rfl); (case hg => rfl); (case hr => first | (go_simp; done) | (go_simp; rfl)); intro gb472 hg w46 hbox hb; have n0_ := Aside0.mk (Kd.R_below (Kd.R_elderB (rs HO_3) gb472 (Nat.le_of_eq hg.symm)) hb); have n1_ := Aside0.mk (Kd.R_below (Kd.R_elderB (rs HO470) gb472 (Nat.le_of_eq hg.symm)) hb); have n2_ := bkB BK461 hb; have n3_ := bkB BK462 hb; have n4_ := Aside0.mk (below_step (bl HB) hb); have n5_ := Aside0.mk (hbox); have n6_ := Aside0.mk ((by rw [hg]; exact (below_size (bl HB)) : w.heap.size ≤ gb472)); have n7_ := Aside0.mk ((by rw [hg]; exact (below_size (bl HB)) : w.heap.size ≤ gb472)); have n8_ := Aside0.mk ((by rw [hg]; exact Nat.ne_of_lt (bkL BK461) : gb461 ≠ gb472)); have n9_ := Aside0.mk ((by rw [hg]; exact Nat.ne_of_gt (bkL BK461) : gb472 ≠ gb461)); have n10_ := Aside0.mk ((by rw [hg]; exact Nat.ne_of_lt (bkL BK462) : gb462 ≠ gb472)); have n11_ := Aside0.mk ((by rw [hg]; exact Nat.ne_of_gt (bkL BK462) : gb472 ≠ gb462)); clear HO_3; clear HO470; clear BK461; clear BK462; clear HB; have HO_3 := n0_; have HO470 := n1_; have BK461 := n2_; have BK462 := n3_; have HB := n4_; have BK472 := n5_; have GW472 := n6_; have GE472 := n7_; have NB461_472 := n8_; have NB472_461 := n9_; have NB462_472 := n10_; have NB472_462 := n11_; clear n0_ n1_ n2_ n3_ n4_ n5_ n6_ n7_ n8_ n9_ n10_ n11_; clear hb hbox hg; have hnb47 := NB472_461.out; have hnc47 := NB461_472.out; have hnb48 := NB472_462.out; have hnc48 := NB462_472.out; have hcz49_0 : w46.cell? ⟨gb472, 0, none⟩ = some (.bool false) := (blk_cell BK472.out 0).trans rfl; have hcz49_1 : w46.cell? ⟨gb472, 1, none⟩ = some (.int .i64 0) := (blk_cell BK472.out 1).trans rfl; have hcz49_2 : w46.cell? ⟨gb472, 2, none⟩ = some (.int .i64 0) := (blk_cell BK472.out 2).trans rfl; have hcz49_3 : w46.cell? ⟨gb472, 3, none⟩ = some (.int .i64 0) := (blk_cell BK472.out 3).trans rfl; have hcz49_4 : w46.cell? ⟨gb472, 4, none⟩ = some (.int .i64 0) := (blk_cell BK472.out 4).trans rfl; have hcz49_5 : w46.cell? ⟨gb472, 5, none⟩ = some (.int .i64 0) := (blk_cell BK472.out 5).trans rfl; have hcz49_6 : w46.cell? ⟨gb472, 6, none⟩ = some (.int .i64 0) := (blk_cell BK472.out 6).trans rfl; have hfz49_0 := blk_frozen BK472.out 0; have hfz49_1 := blk_frozen BK472.out 1; have hfz49_2 := blk_frozen BK472.out 2; have hfz49_3 := blk_frozen BK472.out 3; have hfz49_4 := blk_frozen BK472.out 4; have hfz49_5 := blk_frozen BK472.out 5; have hfz49_6 := blk_frozen BK472.out 6))
                go_ret
                exact ⟨by first | rfl | (simp [errW_none, errW_some] <;> rfl) | (simp [*, errW_none, errW_some] <;> rfl), by repeat (first | (with_reducible first | exact HB.out | apply below_alloc | apply pw_below_drewN | apply below_drew1 | refine below_set ?_ GE461.out | refine below_set ?_ GE462.out | refine below_set ?_ GE472.out) | exact HB.out)⟩
              · rw [if_neg c36] at H
                have c36b0 : decide (5 ≤ (t454.length : Int)) = false := decide_eq_false c36
                have c36b1 : decide (5 ≤ t454.length) = false := decide_eq_false (by omega)
                clear c36
                have H' := Aside0.mk H
                clear H
                go_wp2_with (first | ((with_reducible refine gate_dst (N := 42) rfl ?_); (try (refine gate_guard (by rfl) ?_; dsimp only)); refine Kd.R_lit k24 _ 24 ?hg (N := 42) ?hd (xs := ([] : List (S24))) (inner := []) (ok := fun _ => True) (okp := fun _ => True) ?hr ?hp (fun _ hk => hk) trivial (Below.refl _ _) (Nat.le_refl _) (by simp) ?_; (case hd => rfl); (case hg => rfl); (case hr => first | (go_simp; done) | (go_simp; rfl)); (case hp => exact (Reps.none _ _)); intro v469 w50 ho51 hb hg_ hnew_; clear hg_ hnew_; (first | rw [← Ny468.out] at ho51 | (simp only [Int.reduceToNat] at ho51; rw [← Ny468.out] at ho51)); have n0_ := Aside0.mk (Kd.R_elder' (rs HO_3) (Kd.R_base ho51) hb); have n1_ := Aside0.mk (Kd.R_lower (Kd.R_new' ho51 (Kd.R_lt (rs HO_3))) (below_size (bl HB))); have n2_ := bkB BK461 hb; have n3_ := bkB BK462 hb; have n4_ := Aside0.mk (below_step (bl HB) hb); clear HO_3; clear BK461; clear BK462; clear HB; have HO_3 := n0_; have HO470 := n1_; have BK461 := n2_; have BK462 := n3_; have HB := n4_; clear n0_ n1_ n2_ n3_ n4_; clear hb ho51; have hnb52 := NB461_462.out; have hnc52 := NB462_461.out; have hcz53_0 : w50.cell? ⟨gb461, 0, none⟩ = some (.int .i64 t457) := (blk_cell BK461.out 0).trans rfl; have hcz53_1 : w50.cell? ⟨gb461, 1, none⟩ = some (.int .i64 t458) := (blk_cell BK461.out 1).trans rfl; have hfz53_0 := blk_frozen BK461.out 0; have hfz53_1 := blk_frozen BK461.out 1; have hcz54_0 : w50.cell? ⟨gb462, 0, none⟩ = some (.int .i64 t459) := (blk_cell BK462.out 0).trans rfl; have hcz54_1 : w50.cell? ⟨gb462, 1, none⟩ = some (.int .i64 t460) := (blk_cell BK462.out 1).trans rfl; have hfz54_0 := blk_frozen BK462.out 0; have hfz54_1 := blk_frozen BK462.out 1; obtain ⟨Ao55, co55, eo55⟩ := Kd.R_slice HO470.out; subst eo55) | ((with_reducible refine gate_callee (f := 15) rfl ?_); refine goesL_ (some 45) rfl rfl Try.func15 (by kernel_rfl) rfl #[.slice Ao55 y468.length co55, .agg #[.int .i64 t457, .int .i64 t458], .agg #[.int .i64 t459, .int .i64 t460]] rfl (by (try simp only [List.map_toArray, List.map_cons, List.map_nil]); first | done | rfl | (simp only [List.length_drop, List.length_take]; rfl)) ?_; (with_reducible refine (impl_RulMay.calls _ _ y468 t457 t458 t459 t460 true _ ?side1 ?side2 A34.out).mono ?_); (case side1 => repeat (first | exact (Kd.R_reads' HO470.out).2.2 | (with_reducible refine Kd.C_alloc ?_ _) | (with_reducible refine Kd.C_drewN ?_ _) | (with_reducible refine Kd.C_drew ?_))); (case side2 => exact (Kd.R_reads' HO470.out).2.1); rintro e w56 ⟨rfl, hb⟩; refine ⟨_, rfl, ?_⟩; have n0_ := Aside0.mk (Kd.R_below (rs HO_3) hb); have n1_ := Aside0.mk (Kd.R_below (rs HO470) hb); have n2_ := bkB BK461 hb; have n3_ := bkB BK462 hb; have n4_ := Aside0.mk (below_step (bl HB) hb); clear HO_3; clear HO470; clear BK461; clear BK462; clear HB; have HO_3 := n0_; have HO470 := n1_; have BK461 := n2_; have BK462 := n3_; have HB := n4_; clear n0_ n1_ n2_ n3_ n4_; (try clear hb); (try clear hb2); (try clear hk); (try clear hi); have hcz57_0 : w56.cell? ⟨gb461, 0, none⟩ = some (.int .i64 t457) := (blk_cell BK461.out 0).trans rfl; have hcz57_1 : w56.cell? ⟨gb461, 1, none⟩ = some (.int .i64 t458) := (blk_cell BK461.out 1).trans rfl; have hfz57_0 := blk_frozen BK461.out 0; have hfz57_1 := blk_frozen BK461.out 1; have hcz58_0 : w56.cell? ⟨gb462, 0, none⟩ = some (.int .i64 t459) := (blk_cell BK462.out 0).trans rfl; have hcz58_1 : w56.cell? ⟨gb462, 1, none⟩ = some (.int .i64 t460) := (blk_cell BK462.out 1).trans rfl; have hfz58_0 := blk_frozen BK462.out 0; have hfz58_1 := blk_frozen BK462.out 1) | ((with_reducible refine gate_dst (N := 7) rfl ?_); (try (refine gate_guard (by rfl) ?_; dsimp only)); refine box_event ?hg (N := 7) ?hd (cs := #[.bool false, .int .i64 0, .int .i64 0, .int .i64 0, .int .i64 0, .int .i64 0, .int .i64 0]) (t := 24) ?hr ?_; (case hd => rfl); (case hg => rfl); (case hr => first | (go_simp; done) | (go_simp; rfl)); intro gb472 hg w59 hbox hb; have n0_ := Aside0.mk (Kd.R_below (Kd.R_elderB (rs HO_3) gb472 (Nat.le_of_eq hg.symm)) hb); have n1_ := Aside0.mk (Kd.R_below (Kd.R_elderB (rs HO470) gb472 (Nat.le_of_eq hg.symm)) hb); have n2_ := bkB BK461 hb; have n3_ := bkB BK462 hb; have n4_ := Aside0.mk (below_step (bl HB) hb); have n5_ := Aside0.mk (hbox); have n6_ := Aside0.mk ((by rw [hg]; exact (below_size (bl HB)) : w.heap.size ≤ gb472)); have n7_ := Aside0.mk ((by rw [hg]; exact (below_size (bl HB)) : w.heap.size ≤ gb472)); have n8_ := Aside0.mk ((by rw [hg]; exact Nat.ne_of_lt (bkL BK461) : gb461 ≠ gb472)); have n9_ := Aside0.mk ((by rw [hg]; exact Nat.ne_of_gt (bkL BK461) : gb472 ≠ gb461)); have n10_ := Aside0.mk ((by rw [hg]; exact Nat.ne_of_lt (bkL BK462) : gb462 ≠ gb472)); have n11_ := Aside0.mk ((by rw [hg]; exact Nat.ne_of_gt (bkL BK462) : gb472 ≠ gb462)); clear HO_3; clear HO470; clear BK461; clear BK462; clear HB; have HO_3 := n0_; have HO470 := n1_; have BK461 := n2_; have BK462 := n3_; have HB := n4_; have BK472 := n5_; have GW472 := n6_; have GE472 := n7_; have NB461_472 := n8_; have NB472_461 := n9_; have NB462_472 := n10_; have NB472_462 := n11_; clear n0_ n1_ n2_ n3_ n4_ n5_ n6_ n7_ n8_ n9_ n10_ n11_; clear hb hbox hg; have hnb60 := NB472_461.out; have hnc60 := NB461_472.out; have hnb61 := NB472_462.out; have hnc61 := NB462_472.out; have hcz62_0 : w59.cell? ⟨gb472, 0, none⟩ = some (.bool false) := (blk_cell BK472.out 0).trans rfl; have hcz62_1 : w59.cell? ⟨gb472, 1, none⟩ = some (.int .i64 0) := (blk_cell BK472.out 1).trans rfl; have hcz62_2 : w59.cell? ⟨gb472, 2, none⟩ = some (.int .i64 0) := (blk_cell BK472.out 2).trans rfl; have hcz62_3 : w59.cell? ⟨gb472, 3, none⟩ = some (.int .i64 0) := (blk_cell BK472.out 3).trans rfl; have hcz62_4 : w59.cell? ⟨gb472, 4, none⟩ = some (.int .i64 0) := (blk_cell BK472.out 4).trans rfl; have hcz62_5 : w59.cell? ⟨gb472, 5, none⟩ = some (.int .i64 0) := (blk_cell BK472.out 5).trans rfl; have hcz62_6 : w59.cell? ⟨gb472, 6, none⟩ = some (.int .i64 0) := (blk_cell BK472.out 6).trans rfl; have hfz62_0 := blk_frozen BK472.out 0; have hfz62_1 := blk_frozen BK472.out 1; have hfz62_2 := blk_frozen BK472.out 2; have hfz62_3 := blk_frozen BK472.out 3; have hfz62_4 := blk_frozen BK472.out 4; have hfz62_5 := blk_frozen BK472.out 5; have hfz62_6 := blk_frozen BK472.out 6))
                go_loopg [8] kj6 (fun kq v8 w' => ∃ (x8_2 : Int), v8 = .int .i64 x8_2 ∧ Aside0 (laws_FnRulMay.l0 kq t454 t463 x8_2 t457 t458 t459 t460 false t457 t457 t459 t459 t460 t460 = some r) ∧ Aside0 (kq ≤ kj6) ∧ Aside0 (Kd.R k24 24 w' w.heap.size (fun k_ => k_ ≠ gb472) (.slice Ao14 t454.length co14) t454) ∧ Aside0 (w'.heap[gb461]? = some (.cells #[.int .i64 t457, .int .i64 t458] 29 (0, 0))) ∧ Aside0 (w'.heap[gb462]? = some (.cells #[.int .i64 t459, .int .i64 t460] 29 (0, 0))) ∧ Aside0 (w'.heap[gb472]? = some (.cells #[.bool false, .int .i64 t457, .int .i64 t457, .int .i64 t459, .int .i64 t459, .int .i64 t460, .int .i64 t460] 24 (0, 0))) ∧ Aside0 (Below w.heap.size w w'))
                case atStart => exact ⟨(0), (by first | rfl | (simp; done) | (simp [*]; done)), H', ⟨Nat.le_refl _⟩, ⟨by (with_reducible repeat apply ru); exact Kd.R_mono (Kd.R_far (p := ⟨gb472, 6, none⟩) (Kd.R_far (p := ⟨gb472, 5, none⟩) (Kd.R_far (p := ⟨gb472, 4, none⟩) (Kd.R_far (p := ⟨gb472, 3, none⟩) (Kd.R_far (p := ⟨gb472, 2, none⟩) (Kd.R_far (p := ⟨gb472, 1, none⟩) (Kd.R_far (p := ⟨gb472, 0, none⟩) (Kd.R_mono HO_3.out (fun k_ hk => (⟨hk, hk.2⟩ : _ ∧ k_ ≠ gb472))) (fun _ hk => hk.2) (.bool false)) (fun _ hk => hk.2) (.int .i64 t457)) (fun _ hk => hk.2) (.int .i64 t457)) (fun _ hk => hk.2) (.int .i64 t459)) (fun _ hk => hk.2) (.int .i64 t459)) (fun _ hk => hk.2) (.int .i64 t460)) (fun _ hk => hk.2) (.int .i64 t460)) (fun _ hk => hk.1.2)⟩, ⟨by (with_reducible repeat refine bu ?_); refine blk_far ?_ NB461_472.out _; (with_reducible repeat refine bu ?_); refine blk_far ?_ NB461_472.out _; (with_reducible repeat refine bu ?_); refine blk_far ?_ NB461_472.out _; (with_reducible repeat refine bu ?_); refine blk_far ?_ NB461_472.out _; (with_reducible repeat refine bu ?_); refine blk_far ?_ NB461_472.out _; (with_reducible repeat refine bu ?_); refine blk_far ?_ NB461_472.out _; (with_reducible repeat refine bu ?_); refine blk_far ?_ NB461_472.out _; (with_reducible repeat refine bu ?_); exact BK461.out⟩, ⟨by (with_reducible repeat refine bu ?_); refine blk_far ?_ NB462_472.out _; (with_reducible repeat refine bu ?_); refine blk_far ?_ NB462_472.out _; (with_reducible repeat refine bu ?_); refine blk_far ?_ NB462_472.out _; (with_reducible repeat refine bu ?_); refine blk_far ?_ NB462_472.out _; (with_reducible repeat refine bu ?_); refine blk_far ?_ NB462_472.out _; (with_reducible repeat refine bu ?_); refine blk_far ?_ NB462_472.out _; (with_reducible repeat refine bu ?_); refine blk_far ?_ NB462_472.out _; (with_reducible repeat refine bu ?_); exact BK462.out⟩, ⟨by (with_reducible repeat refine bu ?_); refine blk_put (cs := #[.bool false, .int .i64 t457, .int .i64 t457, .int .i64 t459, .int .i64 t459, .int .i64 t460, .int .i64 0]) ?_ 6 _ rfl; (with_reducible repeat refine bu ?_); refine blk_put (cs := #[.bool false, .int .i64 t457, .int .i64 t457, .int .i64 t459, .int .i64 t459, .int .i64 0, .int .i64 0]) ?_ 5 _ rfl; (with_reducible repeat refine bu ?_); refine blk_put (cs := #[.bool false, .int .i64 t457, .int .i64 t457, .int .i64 t459, .int .i64 0, .int .i64 0, .int .i64 0]) ?_ 4 _ rfl; (with_reducible repeat refine bu ?_); refine blk_put (cs := #[.bool false, .int .i64 t457, .int .i64 t457, .int .i64 0, .int .i64 0, .int .i64 0, .int .i64 0]) ?_ 3 _ rfl; (with_reducible repeat refine bu ?_); refine blk_put (cs := #[.bool false, .int .i64 t457, .int .i64 0, .int .i64 0, .int .i64 0, .int .i64 0, .int .i64 0]) ?_ 2 _ rfl; (with_reducible repeat refine bu ?_); refine blk_put (cs := #[.bool false, .int .i64 0, .int .i64 0, .int .i64 0, .int .i64 0, .int .i64 0, .int .i64 0]) ?_ 1 _ rfl; (with_reducible repeat refine bu ?_); refine blk_put (cs := #[.bool false, .int .i64 0, .int .i64 0, .int .i64 0, .int .i64 0, .int .i64 0, .int .i64 0]) ?_ 0 _ rfl; (with_reducible repeat refine bu ?_); exact BK472.out⟩, ⟨by repeat (first | (with_reducible first | exact HB.out | apply below_alloc | apply pw_below_drewN | apply below_drew1 | refine below_set ?_ GE461.out | refine below_set ?_ GE462.out | refine below_set ?_ GE472.out) | exact HB.out)⟩⟩
                case round =>
                  clear H'
                  try clear c1
                  try clear c2
                  try clear c2b0
                  try clear c2b1
                  try clear p2
                  try clear c3
                  try clear c4
                  try clear c5
                  try clear c6
                  try clear c6b0
                  try clear c6b1
                  try clear c6b2
                  try clear c11
                  try clear c15
                  try clear c17
                  try clear c20
                  try clear c21
                  try clear c22
                  try clear c27
                  try clear c30
                  try clear c31
                  try clear c35
                  try clear c36
                  try clear c36b0
                  try clear c36b1
                  try clear c39
                  try clear c47
                  try clear c48
                  try clear c52
                  try clear c60
                  try clear c61
                  try clear hcz12_0
                  try clear hcz12_1
                  try clear hcz13_0
                  try clear hcz13_1
                  try clear hcz16_0
                  try clear hcz16_1
                  try clear hcz17_0
                  try clear hcz17_1
                  try clear hcz23_0
                  try clear hcz23_1
                  try clear hcz25_0
                  try clear hcz25_1
                  try clear hcz28_0
                  try clear hcz28_1
                  try clear hcz40_0
                  try clear hcz40_1
                  try clear hcz41_0
                  try clear hcz41_1
                  try clear hcz44_0
                  try clear hcz44_1
                  try clear hcz45_0
                  try clear hcz45_1
                  try clear hcz49_0
                  try clear hcz49_1
                  try clear hcz49_2
                  try clear hcz49_3
                  try clear hcz49_4
                  try clear hcz49_5
                  try clear hcz49_6
                  try clear hcz53_0
                  try clear hcz53_1
                  try clear hcz54_0
                  try clear hcz54_1
                  try clear hcz57_0
                  try clear hcz57_1
                  try clear hcz58_0
                  try clear hcz58_1
                  try clear hcz62_0
                  try clear hcz62_1
                  try clear hcz62_2
                  try clear hcz62_3
                  try clear hcz62_4
                  try clear hcz62_5
                  try clear hcz62_6
                  try clear hfz12_0
                  try clear hfz12_1
                  try clear hfz13_0
                  try clear hfz13_1
                  try clear hfz16_0
                  try clear hfz16_1
                  try clear hfz17_0
                  try clear hfz17_1
                  try clear hfz23_0
                  try clear hfz23_1
                  try clear hfz25_0
                  try clear hfz25_1
                  try clear hfz28_0
                  try clear hfz28_1
                  try clear hfz40_0
                  try clear hfz40_1
                  try clear hfz41_0
                  try clear hfz41_1
                  try clear hfz44_0
                  try clear hfz44_1
                  try clear hfz45_0
                  try clear hfz45_1
                  try clear hfz49_0
                  try clear hfz49_1
                  try clear hfz49_2
                  try clear hfz49_3
                  try clear hfz49_4
                  try clear hfz49_5
                  try clear hfz49_6
                  try clear hfz53_0
                  try clear hfz53_1
                  try clear hfz54_0
                  try clear hfz54_1
                  try clear hfz57_0
                  try clear hfz57_1
                  try clear hfz58_0
                  try clear hfz58_1
                  try clear hfz62_0
                  try clear hfz62_1
                  try clear hfz62_2
                  try clear hfz62_3
                  try clear hfz62_4
                  try clear hfz62_5
                  try clear hfz62_6
                  try clear p2
                  obtain ⟨x8_2, rfl, HA, HK2, HO_3, BK461, BK462, BK472, HB⟩ := hrel
                  cases gk with
                  | zero => exact absurd HA.out (by simp [laws_FnRulMay.l0])
                  | succ k2 =>
                    have H := HA.out
                    clear HA
                    simp only [laws_FnRulMay.l0] at H
                    by_cases c63 : x8_2 < (t454.length : Int)
                    · rw [if_pos c63] at H
                      have c63b0 : decide (x8_2 < (t454.length : Int)) = true := decide_eq_true c63
                      clear c63
                      by_cases c64 : 0 ≤ x8_2
                      · rw [if_pos c64] at H
                        have c64b0 : decide (0 ≤ x8_2) = true := decide_eq_true c64
                        clear c64
                        replace H := Option.bind_eq_some_iff.mp H
                        obtain ⟨t474, A650, H⟩ := H
                        replace H : (if t474 = true then (laws_FnRulMay.l0 k2 t454 t463 (wrap64 (x8_2 + 1)) t457 t458 t459 t460 false t457 t457 t459 t459 t460 t460) else (some (!t463))) = some r := H
                        have A65 := Aside0.mk A650
                        clear A650
                        by_cases c66 : t474 = true
                        · subst c66
                          have H1 : (laws_FnRulMay.l0 k2 t454 t463 (wrap64 (x8_2 + 1)) t457 t458 t459 t460 false t457 t457 t459 t459 t460 t460) = some r := by rw [if_pos rfl] at H; exact H
                          clear H
                          have H := H1
                          clear H1
                          have H' := Aside0.mk H
                          clear H
                          have p473 : 0 ≤ (x8_2 : Int) := of_decide_eq_true (by first | (with_reducible assumption) | assumption)
                          have q473 : x8_2 < (t454.length : Int) := of_decide_eq_true (by first | (with_reducible assumption) | assumption)
                          obtain ⟨ad473, e473, hx473_0, hx473_1, hx473_2, hx473_3, hx473_4, hx473_5, hx473_6⟩ := at_T24 (Kd.R_reads' HO_3.out).2.2 x8_2 p473 q473
                          cases e473
                          replace p473 := eq_true p473
                          replace q473 := eq_true q473
                          go_wp2_with (first | ((with_reducible refine gate_callee (f := 13) rfl ?_); refine goesL_ (some 73) rfl rfl Try.func13 (by kernel_rfl) rfl #[.agg #[.bool ((rd_T24 t454 x8_2).f0), .int .i64 ((rd_T24 t454 x8_2).f1), .int .i64 ((rd_T24 t454 x8_2).f2), .int .i64 ((rd_T24 t454 x8_2).f3), .int .i64 ((rd_T24 t454 x8_2).f4), .int .i64 ((rd_T24 t454 x8_2).f5), .int .i64 ((rd_T24 t454 x8_2).f6)]] rfl (by (try simp only [List.map_toArray, List.map_cons, List.map_nil]); first | done | rfl | (simp only [List.length_drop, List.length_take]; rfl)) ?_; (with_reducible refine (spec_RulOk.calls ((rd_T24 t454 x8_2).f0) ((rd_T24 t454 x8_2).f1) ((rd_T24 t454 x8_2).f2) ((rd_T24 t454 x8_2).f3) ((rd_T24 t454 x8_2).f4) ((rd_T24 t454 x8_2).f5) ((rd_T24 t454 x8_2).f6) true _ A65.out).mono ?_); rintro e w67 ⟨rfl, hb⟩; refine ⟨_, rfl, ?_⟩; have n0_ := Aside0.mk (Kd.R_below (rs HO_3) hb); have n1_ := bkB BK461 hb; have n2_ := bkB BK462 hb; have n3_ := bkB BK472 hb; have n4_ := Aside0.mk (below_step (bl HB) hb); clear HO_3; clear BK461; clear BK462; clear BK472; clear HB; have HO_3 := n0_; have BK461 := n1_; have BK462 := n2_; have BK472 := n3_; have HB := n4_; clear n0_ n1_ n2_ n3_ n4_; (try clear hb); (try clear hb2); (try clear hk); (try clear hi)))
                          go_roundg k2
                          case measure => have := HJ6.out; have := HK2.out; omega
                          case rel => exact ⟨(wrap64 (x8_2 + 1)), (by first | rfl | (simp; done) | (simp [*]; done)), H', ⟨by have := HJ6.out; have := HK2.out; omega⟩, ⟨by (with_reducible repeat apply ru); exact HO_3.out⟩, ⟨by (with_reducible repeat refine bu ?_); exact BK461.out⟩, ⟨by (with_reducible repeat refine bu ?_); exact BK462.out⟩, ⟨by (with_reducible repeat refine bu ?_); exact BK472.out⟩, ⟨by repeat (first | (with_reducible first | exact HB.out | apply below_alloc | apply pw_below_drewN | apply below_drew1 | refine below_set ?_ GE461.out | refine below_set ?_ GE462.out | refine below_set ?_ GE472.out) | exact HB.out)⟩⟩
                        · replace c66 := Bool.eq_false_iff.mpr c66
                          subst c66
                          have H1 : (some (!t463)) = some r := by rw [if_neg (show ¬ (false = true) by decide)] at H; exact H
                          clear H
                          have H := H1
                          clear H1
                          obtain rfl := Option.some.inj H
                          have p473 : 0 ≤ (x8_2 : Int) := of_decide_eq_true (by first | (with_reducible assumption) | assumption)
                          have q473 : x8_2 < (t454.length : Int) := of_decide_eq_true (by first | (with_reducible assumption) | assumption)
                          obtain ⟨ad473, e473, hx473_0, hx473_1, hx473_2, hx473_3, hx473_4, hx473_5, hx473_6⟩ := at_T24 (Kd.R_reads' HO_3.out).2.2 x8_2 p473 q473
                          cases e473
                          replace p473 := eq_true p473
                          replace q473 := eq_true q473
                          go_wp2_with (first | ((with_reducible refine gate_callee (f := 13) rfl ?_); refine goesL_ (some 73) rfl rfl Try.func13 (by kernel_rfl) rfl #[.agg #[.bool ((rd_T24 t454 x8_2).f0), .int .i64 ((rd_T24 t454 x8_2).f1), .int .i64 ((rd_T24 t454 x8_2).f2), .int .i64 ((rd_T24 t454 x8_2).f3), .int .i64 ((rd_T24 t454 x8_2).f4), .int .i64 ((rd_T24 t454 x8_2).f5), .int .i64 ((rd_T24 t454 x8_2).f6)]] rfl (by (try simp only [List.map_toArray, List.map_cons, List.map_nil]); first | done | rfl | (simp only [List.length_drop, List.length_take]; rfl)) ?_; (with_reducible refine (spec_RulOk.calls ((rd_T24 t454 x8_2).f0) ((rd_T24 t454 x8_2).f1) ((rd_T24 t454 x8_2).f2) ((rd_T24 t454 x8_2).f3) ((rd_T24 t454 x8_2).f4) ((rd_T24 t454 x8_2).f5) ((rd_T24 t454 x8_2).f6) false _ A65.out).mono ?_); rintro e w68 ⟨rfl, hb⟩; refine ⟨_, rfl, ?_⟩; have n0_ := Aside0.mk (Kd.R_below (rs HO_3) hb); have n1_ := bkB BK461 hb; have n2_ := bkB BK462 hb; have n3_ := bkB BK472 hb; have n4_ := Aside0.mk (below_step (bl HB) hb); clear HO_3; clear BK461; clear BK462; clear BK472; clear HB; have HO_3 := n0_; have BK461 := n1_; have BK462 := n2_; have BK472 := n3_; have HB := n4_; clear n0_ n1_ n2_ n3_ n4_; (try clear hb); (try clear hb2); (try clear hk); (try clear hi)))
                          go_ret
                          exact ⟨by first | rfl | (simp [errW_none, errW_some] <;> rfl) | (simp [*, errW_none, errW_some] <;> rfl), by repeat (first | (with_reducible first | exact HB.out | apply below_alloc | apply pw_below_drewN | apply below_drew1 | refine below_set ?_ GE461.out | refine below_set ?_ GE462.out | refine below_set ?_ GE472.out) | exact HB.out)⟩
                      · rw [if_neg c64] at H
                        exact absurd H (by simp)
                    · rw [if_neg c63] at H
                      have c63b0 : decide (x8_2 < (t454.length : Int)) = false := decide_eq_false c63
                      clear c63
                      obtain ⟨y476, hy476⟩ : ∃ y_ : List (S24), y_ = (([(⟨false, t457, t457, t459, t459, t460, t460⟩ : S24)] : List (S24))) := ⟨_, rfl⟩
                      replace H : (if y476.length + t454.length < 2513169434916 then ((impl_RulMay.f (y476 ++ t454) t457 t458 t459 t460).bind fun t482 => (if t482 = true then (some false) else ((some (([(⟨true, t457, t457, t459, t459, t460, t460⟩ : S24)] : List (S24)) : List (S24))).bind fun y483 => (if y483.length + t454.length < 2513169434916 then ((impl_RulMay.f (y483 ++ t454) t457 t458 t459 t460).bind fun t489 => (if t489 = true then ((some (([] : List (S24)) : List (S24))).bind fun y490 => (if y490.length + t454.length < 2513169434916 then ((some (y490 ++ t454 : List (S24))).bind fun y493 => ((some (([(⟨true, t457, t457, t459, t459, t460, t460⟩ : S24)] : List (S24)) : List (S24))).bind fun y496 => (if y493.length + y496.length < 2513169434916 then ((impl_RulMay.f (y493 ++ y496) t457 t458 t459 t460).bind fun t502 => (some (t502 == t463))) else (none)))) else (none))) else (some false))) else (none))))) else (none)) = some r := by first | (rw [hy476]; with_reducible exact H) | (have H2_ := (Option.bind_some _ _).symm.trans H; rw [hy476]; with_reducible exact H2_) | (have H2_ := (Option.bind_some _ _).symm.trans H; with_reducible exact H2_) | with_reducible exact H | (rw [hy476]; exact H) | exact H
                      have Ny476 := Aside0.mk hy476
                      clear hy476
                      by_cases c69 : y476.length + t454.length < 2513169434916
                      · rw [if_pos c69] at H
                        have LMc69 := Aside0.mk c69
                        clear c69
                        obtain ⟨y479, hy479⟩ : ∃ y_ : List (S24), y_ = (y476 ++ t454) := ⟨_, rfl⟩
                        replace H : ((impl_RulMay.f y479 t457 t458 t459 t460).bind fun t482 => (if t482 = true then (some false) else ((some (([(⟨true, t457, t457, t459, t459, t460, t460⟩ : S24)] : List (S24)) : List (S24))).bind fun y483 => (if y483.length + t454.length < 2513169434916 then ((impl_RulMay.f (y483 ++ t454) t457 t458 t459 t460).bind fun t489 => (if t489 = true then ((some (([] : List (S24)) : List (S24))).bind fun y490 => (if y490.length + t454.length < 2513169434916 then ((some (y490 ++ t454 : List (S24))).bind fun y493 => ((some (([(⟨true, t457, t457, t459, t459, t460, t460⟩ : S24)] : List (S24)) : List (S24))).bind fun y496 => (if y493.length + y496.length < 2513169434916 then ((impl_RulMay.f (y493 ++ y496) t457 t458 t459 t460).bind fun t502 => (some (t502 == t463))) else (none)))) else (none))) else (some false))) else (none))))) = some r := by first | (rw [hy479]; with_reducible exact H) | (have H2_ := (Option.bind_some _ _).symm.trans H; rw [hy479]; with_reducible exact H2_) | (have H2_ := (Option.bind_some _ _).symm.trans H; with_reducible exact H2_) | with_reducible exact H | (rw [hy479]; exact H) | exact H
                        have Ny479 := Aside0.mk hy479
                        clear hy479
                        replace H := Option.bind_eq_some_iff.mp H
                        obtain ⟨t482, A700, H⟩ := H
                        replace H : (if t482 = true then (some false) else ((some (([(⟨true, t457, t457, t459, t459, t460, t460⟩ : S24)] : List (S24)) : List (S24))).bind fun y483 => (if y483.length + t454.length < 2513169434916 then ((impl_RulMay.f (y483 ++ t454) t457 t458 t459 t460).bind fun t489 => (if t489 = true then ((some (([] : List (S24)) : List (S24))).bind fun y490 => (if y490.length + t454.length < 2513169434916 then ((some (y490 ++ t454 : List (S24))).bind fun y493 => ((some (([(⟨true, t457, t457, t459, t459, t460, t460⟩ : S24)] : List (S24)) : List (S24))).bind fun y496 => (if y493.length + y496.length < 2513169434916 then ((impl_RulMay.f (y493 ++ y496) t457 t458 t459 t460).bind fun t502 => (some (t502 == t463))) else (none)))) else (none))) else (some false))) else (none)))) = some r := H
                        have A70 := Aside0.mk A700
                        clear A700
                        by_cases c71 : t482 = true
                        · subst c71
                          have H1 : (some false) = some r := by rw [if_pos rfl] at H; exact H
                          clear H
                          have H := H1
                          clear H1
                          exact absurd ((Option.some.inj H).trans hrt.out) (by decide)
                        · replace c71 := Bool.eq_false_iff.mpr c71
                          subst c71
                          have H1 : ((some (([(⟨true, t457, t457, t459, t459, t460, t460⟩ : S24)] : List (S24)) : List (S24))).bind fun y483 => (if y483.length + t454.length < 2513169434916 then ((impl_RulMay.f (y483 ++ t454) t457 t458 t459 t460).bind fun t489 => (if t489 = true then ((some (([] : List (S24)) : List (S24))).bind fun y490 => (if y490.length + t454.length < 2513169434916 then ((some (y490 ++ t454 : List (S24))).bind fun y493 => ((some (([(⟨true, t457, t457, t459, t459, t460, t460⟩ : S24)] : List (S24)) : List (S24))).bind fun y496 => (if y493.length + y496.length < 2513169434916 then ((impl_RulMay.f (y493 ++ y496) t457 t458 t459 t460).bind fun t502 => (some (t502 == t463))) else (none)))) else (none))) else (some false))) else (none))) = some r := by rw [if_neg (show ¬ (false = true) by decide)] at H; exact H
                          clear H
                          have H := H1
                          clear H1
                          obtain ⟨y483, hy483⟩ : ∃ y_ : List (S24), y_ = (([(⟨true, t457, t457, t459, t459, t460, t460⟩ : S24)] : List (S24))) := ⟨_, rfl⟩
                          replace H : (if y483.length + t454.length < 2513169434916 then ((impl_RulMay.f (y483 ++ t454) t457 t458 t459 t460).bind fun t489 => (if t489 = true then ((some (([] : List (S24)) : List (S24))).bind fun y490 => (if y490.length + t454.length < 2513169434916 then ((some (y490 ++ t454 : List (S24))).bind fun y493 => ((some (([(⟨true, t457, t457, t459, t459, t460, t460⟩ : S24)] : List (S24)) : List (S24))).bind fun y496 => (if y493.length + y496.length < 2513169434916 then ((impl_RulMay.f (y493 ++ y496) t457 t458 t459 t460).bind fun t502 => (some (t502 == t463))) else (none)))) else (none))) else (some false))) else (none)) = some r := by first | (rw [hy483]; with_reducible exact H) | (have H2_ := (Option.bind_some _ _).symm.trans H; rw [hy483]; with_reducible exact H2_) | (have H2_ := (Option.bind_some _ _).symm.trans H; with_reducible exact H2_) | with_reducible exact H | (rw [hy483]; exact H) | exact H
                          have Ny483 := Aside0.mk hy483
                          clear hy483
                          by_cases c72 : y483.length + t454.length < 2513169434916
                          · rw [if_pos c72] at H
                            have LMc72 := Aside0.mk c72
                            clear c72
                            obtain ⟨y486, hy486⟩ : ∃ y_ : List (S24), y_ = (y483 ++ t454) := ⟨_, rfl⟩
                            replace H : ((impl_RulMay.f y486 t457 t458 t459 t460).bind fun t489 => (if t489 = true then ((some (([] : List (S24)) : List (S24))).bind fun y490 => (if y490.length + t454.length < 2513169434916 then ((some (y490 ++ t454 : List (S24))).bind fun y493 => ((some (([(⟨true, t457, t457, t459, t459, t460, t460⟩ : S24)] : List (S24)) : List (S24))).bind fun y496 => (if y493.length + y496.length < 2513169434916 then ((impl_RulMay.f (y493 ++ y496) t457 t458 t459 t460).bind fun t502 => (some (t502 == t463))) else (none)))) else (none))) else (some false))) = some r := by first | (rw [hy486]; with_reducible exact H) | (have H2_ := (Option.bind_some _ _).symm.trans H; rw [hy486]; with_reducible exact H2_) | (have H2_ := (Option.bind_some _ _).symm.trans H; with_reducible exact H2_) | with_reducible exact H | (rw [hy486]; exact H) | exact H
                            have Ny486 := Aside0.mk hy486
                            clear hy486
                            replace H := Option.bind_eq_some_iff.mp H
                            obtain ⟨t489, A730, H⟩ := H
                            replace H : (if t489 = true then ((some (([] : List (S24)) : List (S24))).bind fun y490 => (if y490.length + t454.length < 2513169434916 then ((some (y490 ++ t454 : List (S24))).bind fun y493 => ((some (([(⟨true, t457, t457, t459, t459, t460, t460⟩ : S24)] : List (S24)) : List (S24))).bind fun y496 => (if y493.length + y496.length < 2513169434916 then ((impl_RulMay.f (y493 ++ y496) t457 t458 t459 t460).bind fun t502 => (some (t502 == t463))) else (none)))) else (none))) else (some false)) = some r := H
                            have A73 := Aside0.mk A730
                            clear A730
                            by_cases c74 : t489 = true
                            · subst c74
                              have H1 : ((some (([] : List (S24)) : List (S24))).bind fun y490 => (if y490.length + t454.length < 2513169434916 then ((some (y490 ++ t454 : List (S24))).bind fun y493 => ((some (([(⟨true, t457, t457, t459, t459, t460, t460⟩ : S24)] : List (S24)) : List (S24))).bind fun y496 => (if y493.length + y496.length < 2513169434916 then ((impl_RulMay.f (y493 ++ y496) t457 t458 t459 t460).bind fun t502 => (some (t502 == t463))) else (none)))) else (none))) = some r := by rw [if_pos rfl] at H; exact H
                              clear H
                              have H := H1
                              clear H1
                              obtain ⟨y490, hy490⟩ : ∃ y_ : List (S24), y_ = (([] : List (S24))) := ⟨_, rfl⟩
                              replace H : (if y490.length + t454.length < 2513169434916 then ((some (y490 ++ t454 : List (S24))).bind fun y493 => ((some (([(⟨true, t457, t457, t459, t459, t460, t460⟩ : S24)] : List (S24)) : List (S24))).bind fun y496 => (if y493.length + y496.length < 2513169434916 then ((impl_RulMay.f (y493 ++ y496) t457 t458 t459 t460).bind fun t502 => (some (t502 == t463))) else (none)))) else (none)) = some r := by first | (rw [hy490]; with_reducible exact H) | (have H2_ := (Option.bind_some _ _).symm.trans H; rw [hy490]; with_reducible exact H2_) | (have H2_ := (Option.bind_some _ _).symm.trans H; with_reducible exact H2_) | with_reducible exact H | (rw [hy490]; exact H) | exact H
                              have Ny490 := Aside0.mk hy490
                              clear hy490
                              by_cases c75 : y490.length + t454.length < 2513169434916
                              · rw [if_pos c75] at H
                                have LMc75 := Aside0.mk c75
                                clear c75
                                obtain ⟨y493, hy493⟩ : ∃ y_ : List (S24), y_ = (y490 ++ t454) := ⟨_, rfl⟩
                                replace H : ((some (([(⟨true, t457, t457, t459, t459, t460, t460⟩ : S24)] : List (S24)) : List (S24))).bind fun y496 => (if y493.length + y496.length < 2513169434916 then ((impl_RulMay.f (y493 ++ y496) t457 t458 t459 t460).bind fun t502 => (some (t502 == t463))) else (none))) = some r := by first | (rw [hy493]; with_reducible exact H) | (have H2_ := (Option.bind_some _ _).symm.trans H; rw [hy493]; with_reducible exact H2_) | (have H2_ := (Option.bind_some _ _).symm.trans H; with_reducible exact H2_) | with_reducible exact H | (rw [hy493]; exact H) | exact H
                                have Ny493 := Aside0.mk hy493
                                clear hy493
                                obtain ⟨y496, hy496⟩ : ∃ y_ : List (S24), y_ = (([(⟨true, t457, t457, t459, t459, t460, t460⟩ : S24)] : List (S24))) := ⟨_, rfl⟩
                                replace H : (if y493.length + y496.length < 2513169434916 then ((impl_RulMay.f (y493 ++ y496) t457 t458 t459 t460).bind fun t502 => (some (t502 == t463))) else (none)) = some r := by first | (rw [hy496]; with_reducible exact H) | (have H2_ := (Option.bind_some _ _).symm.trans H; rw [hy496]; with_reducible exact H2_) | (have H2_ := (Option.bind_some _ _).symm.trans H; with_reducible exact H2_) | with_reducible exact H | (rw [hy496]; exact H) | exact H
                                have Ny496 := Aside0.mk hy496
                                clear hy496
                                by_cases c76 : y493.length + y496.length < 2513169434916
                                · rw [if_pos c76] at H
                                  have LMc76 := Aside0.mk c76
                                  clear c76
                                  obtain ⟨y499, hy499⟩ : ∃ y_ : List (S24), y_ = (y493 ++ y496) := ⟨_, rfl⟩
                                  replace H : ((impl_RulMay.f y499 t457 t458 t459 t460).bind fun t502 => (some (t502 == t463))) = some r := by first | (rw [hy499]; with_reducible exact H) | (have H2_ := (Option.bind_some _ _).symm.trans H; rw [hy499]; with_reducible exact H2_) | (have H2_ := (Option.bind_some _ _).symm.trans H; with_reducible exact H2_) | with_reducible exact H | (rw [hy499]; exact H) | exact H
                                  have Ny499 := Aside0.mk hy499
                                  clear hy499
                                  replace H := Option.bind_eq_some_iff.mp H
                                  obtain ⟨t502, A770, H⟩ := H
                                  replace H : (some (t502 == t463)) = some r := H
                                  have A77 := Aside0.mk A770
                                  clear A770
                                  obtain rfl := Option.some.inj H
                                  have hnb78 := NB472_461.out
                                  have hnc78 := NB461_472.out
                                  have hnb79 := NB472_462.out
                                  have hnc79 := NB462_472.out
                                  have hcz80_0 : wr.cell? ⟨gb472, 0, none⟩ = some (.bool false) := (blk_cell BK472.out 0).trans rfl
                                  have hcz80_1 : wr.cell? ⟨gb472, 1, none⟩ = some (.int .i64 t457) := (blk_cell BK472.out 1).trans rfl
                                  have hcz80_2 : wr.cell? ⟨gb472, 2, none⟩ = some (.int .i64 t457) := (blk_cell BK472.out 2).trans rfl
                                  have hcz80_3 : wr.cell? ⟨gb472, 3, none⟩ = some (.int .i64 t459) := (blk_cell BK472.out 3).trans rfl
                                  have hcz80_4 : wr.cell? ⟨gb472, 4, none⟩ = some (.int .i64 t459) := (blk_cell BK472.out 4).trans rfl
                                  have hcz80_5 : wr.cell? ⟨gb472, 5, none⟩ = some (.int .i64 t460) := (blk_cell BK472.out 5).trans rfl
                                  have hcz80_6 : wr.cell? ⟨gb472, 6, none⟩ = some (.int .i64 t460) := (blk_cell BK472.out 6).trans rfl
                                  have hfz80_0 := blk_frozen BK472.out 0
                                  have hfz80_1 := blk_frozen BK472.out 1
                                  have hfz80_2 := blk_frozen BK472.out 2
                                  have hfz80_3 := blk_frozen BK472.out 3
                                  have hfz80_4 := blk_frozen BK472.out 4
                                  have hfz80_5 := blk_frozen BK472.out 5
                                  have hfz80_6 := blk_frozen BK472.out 6
                                  try go_wp2_with (first | ((with_reducible refine gate_dst (N := 9) rfl ?_); (try (refine gate_guard (by rfl) ?_; dsimp only)); refine box_event ?hg (N := 9) ?hd (cs := #[.bool false, .int .i64 0, .int .i64 0, .int .i64 0, .int .i64 0, .int .i64 0, .int .i64 0]) (t := 24) ?hr ?_; (case hd => rfl); (case hg => rfl); (case hr => first | (go_simp; done) | (go_simp; rfl)); intro gb475 hg w81 hbox hb; have n0_ := Aside0.mk (Kd.R_below (Kd.R_elderB (rs HO_3) gb475 (Nat.le_of_eq hg.symm)) hb); have n1_ := bkB BK461 hb; have n2_ := bkB BK462 hb; have n3_ := bkB BK472 hb; have n4_ := Aside0.mk (below_step (bl HB) hb); have n5_ := Aside0.mk (hbox); have n6_ := Aside0.mk ((by rw [hg]; exact (below_size (bl HB)) : w.heap.size ≤ gb475)); have n7_ := Aside0.mk ((by rw [hg]; exact (below_size (bl HB)) : w.heap.size ≤ gb475)); have n8_ := Aside0.mk ((by rw [hg]; exact Nat.ne_of_lt (bkL BK461) : gb461 ≠ gb475)); have n9_ := Aside0.mk ((by rw [hg]; exact Nat.ne_of_gt (bkL BK461) : gb475 ≠ gb461)); have n10_ := Aside0.mk ((by rw [hg]; exact Nat.ne_of_lt (bkL BK462) : gb462 ≠ gb475)); have n11_ := Aside0.mk ((by rw [hg]; exact Nat.ne_of_gt (bkL BK462) : gb475 ≠ gb462)); have n12_ := Aside0.mk ((by rw [hg]; exact Nat.ne_of_lt (bkL BK472) : gb472 ≠ gb475)); have n13_ := Aside0.mk ((by rw [hg]; exact Nat.ne_of_gt (bkL BK472) : gb475 ≠ gb472)); clear HO_3; clear BK461; clear BK462; clear BK472; clear HB; have HO_3 := n0_; have BK461 := n1_; have BK462 := n2_; have BK472 := n3_; have HB := n4_; have BK475 := n5_; have GW475 := n6_; have GE475 := n7_; have NB461_475 := n8_; have NB475_461 := n9_; have NB462_475 := n10_; have NB475_462 := n11_; have NB472_475 := n12_; have NB475_472 := n13_; clear n0_ n1_ n2_ n3_ n4_ n5_ n6_ n7_ n8_ n9_ n10_ n11_ n12_ n13_; clear hb hbox hg; have hnb82 := NB475_461.out; have hnc82 := NB461_475.out; have hnb83 := NB475_462.out; have hnc83 := NB462_475.out; have hnb84 := NB475_472.out; have hnc84 := NB472_475.out; have hcz85_0 : w81.cell? ⟨gb475, 0, none⟩ = some (.bool false) := (blk_cell BK475.out 0).trans rfl; have hcz85_1 : w81.cell? ⟨gb475, 1, none⟩ = some (.int .i64 0) := (blk_cell BK475.out 1).trans rfl; have hcz85_2 : w81.cell? ⟨gb475, 2, none⟩ = some (.int .i64 0) := (blk_cell BK475.out 2).trans rfl; have hcz85_3 : w81.cell? ⟨gb475, 3, none⟩ = some (.int .i64 0) := (blk_cell BK475.out 3).trans rfl; have hcz85_4 : w81.cell? ⟨gb475, 4, none⟩ = some (.int .i64 0) := (blk_cell BK475.out 4).trans rfl; have hcz85_5 : w81.cell? ⟨gb475, 5, none⟩ = some (.int .i64 0) := (blk_cell BK475.out 5).trans rfl; have hcz85_6 : w81.cell? ⟨gb475, 6, none⟩ = some (.int .i64 0) := (blk_cell BK475.out 6).trans rfl; have hfz85_0 := blk_frozen BK475.out 0; have hfz85_1 := blk_frozen BK475.out 1; have hfz85_2 := blk_frozen BK475.out 2; have hfz85_3 := blk_frozen BK475.out 3; have hfz85_4 := blk_frozen BK475.out 4; have hfz85_5 := blk_frozen BK475.out 5; have hfz85_6 := blk_frozen BK475.out 6))
                                  have n0_ : Aside0 (Kd.R k24 24 ((((((((w81.setCell ⟨gb475, 0, none⟩ (.bool false)).setCell ⟨gb475, 1, none⟩ (.int .i64 t457)).setCell ⟨gb475, 2, none⟩ (.int .i64 t457)).setCell ⟨gb475, 3, none⟩ (.int .i64 t459)).setCell ⟨gb475, 4, none⟩ (.int .i64 t459)).setCell ⟨gb475, 5, none⟩ (.int .i64 t460)).setCell ⟨gb475, 6, none⟩ (.int .i64 t460)).setCell ⟨gb475, 0, none⟩ (.bool true)) w.heap.size (fun k_ => k_ ≠ gb472 ∧ k_ ≠ gb475) (.slice Ao14 t454.length co14) t454) := ⟨by (with_reducible repeat apply ru); exact Kd.R_mono (Kd.R_far (p := ⟨gb475, 0, none⟩) (Kd.R_far (p := ⟨gb475, 6, none⟩) (Kd.R_far (p := ⟨gb475, 5, none⟩) (Kd.R_far (p := ⟨gb475, 4, none⟩) (Kd.R_far (p := ⟨gb475, 3, none⟩) (Kd.R_far (p := ⟨gb475, 2, none⟩) (Kd.R_far (p := ⟨gb475, 1, none⟩) (Kd.R_far (p := ⟨gb475, 0, none⟩) (Kd.R_mono HO_3.out (fun k_ hk => (⟨hk, hk.2⟩ : _ ∧ k_ ≠ gb475))) (fun _ hk => hk.2) (.bool false)) (fun _ hk => hk.2) (.int .i64 t457)) (fun _ hk => hk.2) (.int .i64 t457)) (fun _ hk => hk.2) (.int .i64 t459)) (fun _ hk => hk.2) (.int .i64 t459)) (fun _ hk => hk.2) (.int .i64 t460)) (fun _ hk => hk.2) (.int .i64 t460)) (fun _ hk => hk.2) (.bool true)) (fun _ hk => ⟨hk.1.1, hk.1.2⟩)⟩
                                  have n1_ : Aside0 (((((((((w81.setCell ⟨gb475, 0, none⟩ (.bool false)).setCell ⟨gb475, 1, none⟩ (.int .i64 t457)).setCell ⟨gb475, 2, none⟩ (.int .i64 t457)).setCell ⟨gb475, 3, none⟩ (.int .i64 t459)).setCell ⟨gb475, 4, none⟩ (.int .i64 t459)).setCell ⟨gb475, 5, none⟩ (.int .i64 t460)).setCell ⟨gb475, 6, none⟩ (.int .i64 t460)).setCell ⟨gb475, 0, none⟩ (.bool true)).heap[gb461]? = some (.cells #[.int .i64 t457, .int .i64 t458] 29 (0, 0))) := ⟨by (with_reducible repeat refine bu ?_); refine blk_far ?_ NB461_475.out _; (with_reducible repeat refine bu ?_); refine blk_far ?_ NB461_475.out _; (with_reducible repeat refine bu ?_); refine blk_far ?_ NB461_475.out _; (with_reducible repeat refine bu ?_); refine blk_far ?_ NB461_475.out _; (with_reducible repeat refine bu ?_); refine blk_far ?_ NB461_475.out _; (with_reducible repeat refine bu ?_); refine blk_far ?_ NB461_475.out _; (with_reducible repeat refine bu ?_); refine blk_far ?_ NB461_475.out _; (with_reducible repeat refine bu ?_); refine blk_far ?_ NB461_475.out _; (with_reducible repeat refine bu ?_); exact BK461.out⟩
                                  have n2_ : Aside0 (((((((((w81.setCell ⟨gb475, 0, none⟩ (.bool false)).setCell ⟨gb475, 1, none⟩ (.int .i64 t457)).setCell ⟨gb475, 2, none⟩ (.int .i64 t457)).setCell ⟨gb475, 3, none⟩ (.int .i64 t459)).setCell ⟨gb475, 4, none⟩ (.int .i64 t459)).setCell ⟨gb475, 5, none⟩ (.int .i64 t460)).setCell ⟨gb475, 6, none⟩ (.int .i64 t460)).setCell ⟨gb475, 0, none⟩ (.bool true)).heap[gb462]? = some (.cells #[.int .i64 t459, .int .i64 t460] 29 (0, 0))) := ⟨by (with_reducible repeat refine bu ?_); refine blk_far ?_ NB462_475.out _; (with_reducible repeat refine bu ?_); refine blk_far ?_ NB462_475.out _; (with_reducible repeat refine bu ?_); refine blk_far ?_ NB462_475.out _; (with_reducible repeat refine bu ?_); refine blk_far ?_ NB462_475.out _; (with_reducible repeat refine bu ?_); refine blk_far ?_ NB462_475.out _; (with_reducible repeat refine bu ?_); refine blk_far ?_ NB462_475.out _; (with_reducible repeat refine bu ?_); refine blk_far ?_ NB462_475.out _; (with_reducible repeat refine bu ?_); refine blk_far ?_ NB462_475.out _; (with_reducible repeat refine bu ?_); exact BK462.out⟩
                                  have n3_ : Aside0 (((((((((w81.setCell ⟨gb475, 0, none⟩ (.bool false)).setCell ⟨gb475, 1, none⟩ (.int .i64 t457)).setCell ⟨gb475, 2, none⟩ (.int .i64 t457)).setCell ⟨gb475, 3, none⟩ (.int .i64 t459)).setCell ⟨gb475, 4, none⟩ (.int .i64 t459)).setCell ⟨gb475, 5, none⟩ (.int .i64 t460)).setCell ⟨gb475, 6, none⟩ (.int .i64 t460)).setCell ⟨gb475, 0, none⟩ (.bool true)).heap[gb472]? = some (.cells #[.bool false, .int .i64 t457, .int .i64 t457, .int .i64 t459, .int .i64 t459, .int .i64 t460, .int .i64 t460] 24 (0, 0))) := ⟨by (with_reducible repeat refine bu ?_); refine blk_far ?_ NB472_475.out _; (with_reducible repeat refine bu ?_); refine blk_far ?_ NB472_475.out _; (with_reducible repeat refine bu ?_); refine blk_far ?_ NB472_475.out _; (with_reducible repeat refine bu ?_); refine blk_far ?_ NB472_475.out _; (with_reducible repeat refine bu ?_); refine blk_far ?_ NB472_475.out _; (with_reducible repeat refine bu ?_); refine blk_far ?_ NB472_475.out _; (with_reducible repeat refine bu ?_); refine blk_far ?_ NB472_475.out _; (with_reducible repeat refine bu ?_); refine blk_far ?_ NB472_475.out _; (with_reducible repeat refine bu ?_); exact BK472.out⟩
                                  have n4_ : Aside0 (((((((((w81.setCell ⟨gb475, 0, none⟩ (.bool false)).setCell ⟨gb475, 1, none⟩ (.int .i64 t457)).setCell ⟨gb475, 2, none⟩ (.int .i64 t457)).setCell ⟨gb475, 3, none⟩ (.int .i64 t459)).setCell ⟨gb475, 4, none⟩ (.int .i64 t459)).setCell ⟨gb475, 5, none⟩ (.int .i64 t460)).setCell ⟨gb475, 6, none⟩ (.int .i64 t460)).setCell ⟨gb475, 0, none⟩ (.bool true)).heap[gb475]? = some (.cells #[.bool true, .int .i64 t457, .int .i64 t457, .int .i64 t459, .int .i64 t459, .int .i64 t460, .int .i64 t460] 24 (0, 0))) := ⟨by (with_reducible repeat refine bu ?_); refine blk_put (cs := #[.bool false, .int .i64 t457, .int .i64 t457, .int .i64 t459, .int .i64 t459, .int .i64 t460, .int .i64 t460]) ?_ 0 _ rfl; (with_reducible repeat refine bu ?_); refine blk_put (cs := #[.bool false, .int .i64 t457, .int .i64 t457, .int .i64 t459, .int .i64 t459, .int .i64 t460, .int .i64 0]) ?_ 6 _ rfl; (with_reducible repeat refine bu ?_); refine blk_put (cs := #[.bool false, .int .i64 t457, .int .i64 t457, .int .i64 t459, .int .i64 t459, .int .i64 0, .int .i64 0]) ?_ 5 _ rfl; (with_reducible repeat refine bu ?_); refine blk_put (cs := #[.bool false, .int .i64 t457, .int .i64 t457, .int .i64 t459, .int .i64 0, .int .i64 0, .int .i64 0]) ?_ 4 _ rfl; (with_reducible repeat refine bu ?_); refine blk_put (cs := #[.bool false, .int .i64 t457, .int .i64 t457, .int .i64 0, .int .i64 0, .int .i64 0, .int .i64 0]) ?_ 3 _ rfl; (with_reducible repeat refine bu ?_); refine blk_put (cs := #[.bool false, .int .i64 t457, .int .i64 0, .int .i64 0, .int .i64 0, .int .i64 0, .int .i64 0]) ?_ 2 _ rfl; (with_reducible repeat refine bu ?_); refine blk_put (cs := #[.bool false, .int .i64 0, .int .i64 0, .int .i64 0, .int .i64 0, .int .i64 0, .int .i64 0]) ?_ 1 _ rfl; (with_reducible repeat refine bu ?_); refine blk_put (cs := #[.bool false, .int .i64 0, .int .i64 0, .int .i64 0, .int .i64 0, .int .i64 0, .int .i64 0]) ?_ 0 _ rfl; (with_reducible repeat refine bu ?_); exact BK475.out⟩
                                  have n5_ : Aside0 (Below w.heap.size w ((((((((w81.setCell ⟨gb475, 0, none⟩ (.bool false)).setCell ⟨gb475, 1, none⟩ (.int .i64 t457)).setCell ⟨gb475, 2, none⟩ (.int .i64 t457)).setCell ⟨gb475, 3, none⟩ (.int .i64 t459)).setCell ⟨gb475, 4, none⟩ (.int .i64 t459)).setCell ⟨gb475, 5, none⟩ (.int .i64 t460)).setCell ⟨gb475, 6, none⟩ (.int .i64 t460)).setCell ⟨gb475, 0, none⟩ (.bool true))) := ⟨by repeat (first | (with_reducible first | exact HB.out | apply below_alloc | apply pw_below_drewN | apply below_drew1 | refine below_set ?_ GE461.out | refine below_set ?_ GE462.out | refine below_set ?_ GE472.out | refine below_set ?_ GE475.out) | exact HB.out)⟩
                                  (try clear HO_3)
                                  (try clear BK461)
                                  (try clear BK462)
                                  (try clear BK472)
                                  (try clear BK475)
                                  (try clear HB)
                                  generalize ((((((((w81.setCell ⟨gb475, 0, none⟩ (.bool false)).setCell ⟨gb475, 1, none⟩ (.int .i64 t457)).setCell ⟨gb475, 2, none⟩ (.int .i64 t457)).setCell ⟨gb475, 3, none⟩ (.int .i64 t459)).setCell ⟨gb475, 4, none⟩ (.int .i64 t459)).setCell ⟨gb475, 5, none⟩ (.int .i64 t460)).setCell ⟨gb475, 6, none⟩ (.int .i64 t460)).setCell ⟨gb475, 0, none⟩ (.bool true)) = w86 at n0_ n1_ n2_ n3_ n4_ n5_ ⊢
                                  have HO_3 := n0_
                                  have BK461 := n1_
                                  have BK462 := n2_
                                  have BK472 := n3_
                                  have BK475 := n4_
                                  have HB := n5_
                                  clear n0_ n1_ n2_ n3_ n4_ n5_
                                  have n0_ := Aside0.mk (Kd.R_drew HO_3.out)
                                  have n1_ := Aside0.mk (blk_drew BK461.out)
                                  have n2_ := Aside0.mk (blk_drew BK462.out)
                                  have n3_ := Aside0.mk (blk_drew BK472.out)
                                  have n4_ := Aside0.mk (blk_drew BK475.out)
                                  have n5_ := Aside0.mk (below_drew1 HB.out)
                                  clear HO_3
                                  clear BK461
                                  clear BK462
                                  clear BK472
                                  clear BK475
                                  clear HB
                                  have HO_3 := n0_
                                  have BK461 := n1_
                                  have BK462 := n2_
                                  have BK472 := n3_
                                  have BK475 := n4_
                                  have HB := n5_
                                  clear n0_ n1_ n2_ n3_ n4_ n5_
                                  refine start_ (n := 31) (S := fun w' => w'.cell? ⟨gb472, 0, none⟩ = some (.bool false) ∧ w'.cell? ⟨gb472, 1, none⟩ = some (.int .i64 t457) ∧ w'.cell? ⟨gb472, 2, none⟩ = some (.int .i64 t457) ∧ w'.cell? ⟨gb472, 3, none⟩ = some (.int .i64 t459) ∧ w'.cell? ⟨gb472, 4, none⟩ = some (.int .i64 t459) ∧ w'.cell? ⟨gb472, 5, none⟩ = some (.int .i64 t460) ∧ w'.cell? ⟨gb472, 6, none⟩ = some (.int .i64 t460) ∧ w'.cell? ⟨gb461, 0, none⟩ = some (.int .i64 t457) ∧ w'.cell? ⟨gb461, 1, none⟩ = some (.int .i64 t458) ∧ w'.cell? ⟨gb462, 0, none⟩ = some (.int .i64 t459) ∧ w'.cell? ⟨gb462, 1, none⟩ = some (.int .i64 t460) ∧ w'.cell? ⟨gb475, 0, none⟩ = some (.bool true) ∧ w'.cell? ⟨gb475, 1, none⟩ = some (.int .i64 t457) ∧ w'.cell? ⟨gb475, 2, none⟩ = some (.int .i64 t457) ∧ w'.cell? ⟨gb475, 3, none⟩ = some (.int .i64 t459) ∧ w'.cell? ⟨gb475, 4, none⟩ = some (.int .i64 t459) ∧ w'.cell? ⟨gb475, 5, none⟩ = some (.int .i64 t460) ∧ w'.cell? ⟨gb475, 6, none⟩ = some (.int .i64 t460)) (ds := []) #[false, false, false, false, false, false, false, false, false, false, false, false, false, false, false, false, false, false, false, false, false, false, false, false, false, false, false, false, false, false, false] (by kernel_rfl) rfl rfl ⟨(blk_cell BK472.out 0).trans rfl, (blk_cell BK472.out 1).trans rfl, (blk_cell BK472.out 2).trans rfl, (blk_cell BK472.out 3).trans rfl, (blk_cell BK472.out 4).trans rfl, (blk_cell BK472.out 5).trans rfl, (blk_cell BK472.out 6).trans rfl, (blk_cell BK461.out 0).trans rfl, (blk_cell BK461.out 1).trans rfl, (blk_cell BK462.out 0).trans rfl, (blk_cell BK462.out 1).trans rfl, (blk_cell BK475.out 0).trans rfl, (blk_cell BK475.out 1).trans rfl, (blk_cell BK475.out 2).trans rfl, (blk_cell BK475.out 3).trans rfl, (blk_cell BK475.out 4).trans rfl, (blk_cell BK475.out 5).trans rfl, (blk_cell BK475.out 6).trans rfl⟩ (fun hHeld => ?_); refine with_tabW laws_FnRulMay.tab21 laws_FnRulMay.bits21 (fun HT_ HW_ => ?_)
                                  generalize w86.drew = w87 at HO_3 BK461 BK462 BK472 BK475 HB hHeld ⊢
                                  refine pure_ (i := 2) (N := some 81) (v := ?_) (a' := ?_) #[false, false, true, false, false, false, false, false, false, false, false, false, false, false, false, false, false, false, false, false, false, false, false, false, false, false, false, false, false, false, false] rfl rfl (any_of HT_.out (by kernel_rfl)) (fun _ _ _ h => h) (Or.inl ⟨by rfl, ?_⟩) ?_ ?_
                                  rotate_left
                                  · intro w'
                                    go_simp
                                    with_reducible rfl
                                  rotate_left
                                  · simp only [Act.put, List.setIfInBounds_toArray, List.set_cons_zero, List.set_cons_succ, i64_w, i32_w]
                                    rfl
                                  refine take_ (i := 0) (N := some 79) (v := ?_) (a' := ?_) #[true, false, true, false, false, false, false, false, false, false, false, false, false, false, false, false, false, false, false, false, false, false, false, false, false, false, false, false, false, false, false] rfl rfl (take_ofW HT_.out HW_.out (by kernel_rfl)) (fun _ _ _ h => h) (Or.inl ⟨by rfl, ?_⟩) hHeld ?_ ?_
                                  rotate_left
                                  · rintro w' ⟨s0, s1, s2, s3, s4, s5, s6, s7, s8, s9, s10, s11, s12, s13, s14, s15, s16, s17⟩
                                    go_simp
                                    with_reducible rfl
                                  rotate_left
                                  · simp only [Act.put, List.setIfInBounds_toArray, List.set_cons_zero, List.set_cons_succ, i64_w, i32_w]
                                    rfl
                                  refine take_ (i := 4) (N := some 83) (v := ?_) (a' := ?_) #[true, false, true, false, true, false, false, false, false, false, false, false, false, false, false, false, false, false, false, false, false, false, false, false, false, false, false, false, false, false, false] rfl rfl (take_ofW HT_.out HW_.out (by kernel_rfl)) (fun _ _ _ h => h) (Or.inl ⟨by rfl, ?_⟩) hHeld ?_ ?_
                                  rotate_left
                                  · rintro w' ⟨s0, s1, s2, s3, s4, s5, s6, s7, s8, s9, s10, s11, s12, s13, s14, s15, s16, s17⟩
                                    go_simp
                                    with_reducible rfl
                                  rotate_left
                                  · simp only [Act.put, List.setIfInBounds_toArray, List.set_cons_zero, List.set_cons_succ, i64_w, i32_w]
                                    rfl
                                  refine take_ (i := 5) (N := some 84) (v := ?_) (a' := ?_) #[true, false, true, false, true, true, false, false, false, false, false, false, false, false, false, false, false, false, false, false, false, false, false, false, false, false, false, false, false, false, false] rfl rfl (take_ofW HT_.out HW_.out (by kernel_rfl)) (fun _ _ _ h => h) (Or.inl ⟨by rfl, ?_⟩) hHeld ?_ ?_
                                  rotate_left
                                  · rintro w' ⟨s0, s1, s2, s3, s4, s5, s6, s7, s8, s9, s10, s11, s12, s13, s14, s15, s16, s17⟩
                                    go_simp
                                    with_reducible rfl
                                  rotate_left
                                  · simp only [Act.put, List.setIfInBounds_toArray, List.set_cons_zero, List.set_cons_succ, i64_w, i32_w]
                                    rfl
                                  refine one_ (i := 1) (N := some 80) #[true, true, true, false, true, true, false, false, false, false, false, false, false, false, false, false, false, false, false, false, false, false, false, false, false, false, false, false, false, false, false] rfl rfl (one_of HT_.out (by kernel_rfl)) (by decide) (fun K hK => ?_)
                                  refine Kd.R_lit_step k24 _ 24 ?hg (N := 80) ?hd (xs := ([(⟨false, t457, t457, t459, t459, t460, t460⟩ : S24)] : List (S24))) (inner := [.bool false, .int .i64 t457, .int .i64 t457, .int .i64 t459, .int .i64 t459, .int .i64 t460, .int .i64 t460]) (ok := fun _ => True) (okp := fun _ => True) ?hr ?hp (fun _ hk => hk) trivial (Below.refl _ _) (Nat.le_refl _) (by simp) ?_; (case hd => rfl); (case hg => rfl); (case hr => first | (go_simp; done) | (go_simp; rfl)); (case hp => exact (Reps.c7 (show Kd.M k24 _ _ _ (⟨false, t457, t457, t459, t459, t460, t460⟩ : S24) [.bool false, .int .i64 t457, .int .i64 t457, .int .i64 t459, .int .i64 t459, .int .i64 t460, .int .i64 t460] from (k24_mkM _ _ _ (⟨false, t457, t457, t459, t459, t460, t460⟩ : S24) )) (Reps.none _ _)))
                                  intro v477 w88 ho89 hb hg_ hnew_
                                  clear hg_ hnew_
                                  (first | rw [← Ny476.out] at ho89 | (simp only [Int.reduceToNat] at ho89; rw [← Ny476.out] at ho89))
                                  have n0_ := Aside0.mk (Kd.R_elder' (rs HO_3) (Kd.R_base ho89) hb)
                                  have n1_ := Aside0.mk (Kd.R_lower (Kd.R_newB (Kd.R_newB (Kd.R_new' ho89 (Kd.R_lt (rs HO_3))) (g := gb472) (o := .cells #[.bool false, .int .i64 t457, .int .i64 t457, .int .i64 t459, .int .i64 t459, .int .i64 t460, .int .i64 t460] 24 (0, 0)) (bk BK472)) (g := gb475) (o := .cells #[.bool true, .int .i64 t457, .int .i64 t457, .int .i64 t459, .int .i64 t459, .int .i64 t460, .int .i64 t460] 24 (0, 0)) (bk BK475)) (below_size (bl HB)))
                                  have n2_ := bkB BK461 hb
                                  have n3_ := bkB BK462 hb
                                  have n4_ := bkB BK472 hb
                                  have n5_ := bkB BK475 hb
                                  have n6_ := Aside0.mk (below_step (bl HB) hb)
                                  clear HO_3
                                  clear BK461
                                  clear BK462
                                  clear BK472
                                  clear BK475
                                  clear HB
                                  have HO_3 := n0_
                                  have HO478 := n1_
                                  have BK461 := n2_
                                  have BK462 := n3_
                                  have BK472 := n4_
                                  have BK475 := n5_
                                  have HB := n6_
                                  clear n0_ n1_ n2_ n3_ n4_ n5_ n6_
                                  clear hb ho89
                                  refine hK.out _ _ ⟨(blk_cell BK472.out 0).trans rfl, (blk_cell BK472.out 1).trans rfl, (blk_cell BK472.out 2).trans rfl, (blk_cell BK472.out 3).trans rfl, (blk_cell BK472.out 4).trans rfl, (blk_cell BK472.out 5).trans rfl, (blk_cell BK472.out 6).trans rfl, (blk_cell BK461.out 0).trans rfl, (blk_cell BK461.out 1).trans rfl, (blk_cell BK462.out 0).trans rfl, (blk_cell BK462.out 1).trans rfl, (blk_cell BK475.out 0).trans rfl, (blk_cell BK475.out 1).trans rfl, (blk_cell BK475.out 2).trans rfl, (blk_cell BK475.out 3).trans rfl, (blk_cell BK475.out 4).trans rfl, (blk_cell BK475.out 5).trans rfl, (blk_cell BK475.out 6).trans rfl⟩ (fun hHeld => ?_)
                                  clear hK K
                                  refine norm_ (a' := ?_) ?_ ?_
                                  rotate_left
                                  · show Act.put _ (some 80) _ = _
                                    simp only [Act.put, List.setIfInBounds_toArray, List.set_cons_zero, List.set_cons_succ, i64_w, i32_w]
                                    rfl
                                  refine one_ (i := 3) (N := some 82) #[true, true, true, true, true, true, false, false, false, false, false, false, false, false, false, false, false, false, false, false, false, false, false, false, false, false, false, false, false, false, false] rfl rfl (one_of HT_.out (by kernel_rfl)) (by decide) (fun K hK => ?_)
                                  refine Kd.R_append_rows_step k24 (w0 := w) w.heap.size (by rfl) (.tmp 80) (.tmp 81) 31 24 (.agg #[(.bool false), (.int .i64 0), (.int .i64 0), (.int .i64 0), (.int .i64 0), (.int .i64 0), (.int .i64 0)]) 56 rfl Try.underlying31 info24 rfl (by decide) (by omega) v477 y476 t454 _ _ _ (fun k_ => some k_ ≠ (.slice Ao14 t454.length co14 : Value).ownBlock ∧ k_ ≠ gb472 ∧ k_ ≠ gb475) (fun _ => False) rfl rfl ?aO ?aR (fun _ _ h => h) (fun _ h => h.elim) ?aF ?aB ?aS ?aL ?_
                                  (case aR => repeat (first | exact (Kd.R_reads' HO_3.out).2.2 | (with_reducible refine Kd.C_alloc ?_ _) | (with_reducible refine Kd.C_drewN ?_ _) | (with_reducible refine Kd.C_drew ?_)))
                                  (case aB => exact (bl HB))
                                  (case aF => exact (fun k_ hk => ⟨Kd.fresh' (Kd.R_lt (rs HO_3)) k_ hk, Kd.freshB (g := gb472) (o := .cells #[.bool false, .int .i64 t457, .int .i64 t457, .int .i64 t459, .int .i64 t459, .int .i64 t460, .int .i64 t460] 24 (0, 0)) (bk BK472) k_ hk, Kd.freshB (g := gb475) (o := .cells #[.bool true, .int .i64 t457, .int .i64 t457, .int .i64 t459, .int .i64 t459, .int .i64 t460, .int .i64 t460] 24 (0, 0)) (bk BK475) k_ hk⟩))
                                  (case aO => exact (by (with_reducible repeat apply ru); exact Kd.R_mono HO478.out (fun _ hk => ⟨hk.1.1.2, ⟨hk.1.2, hk.2⟩⟩)))
                                  (case aS => exact (below_size (bl HB)))
                                  (case aL => have := LMc69.out; omega)
                                  intro v480 w90 ho hb hg hat
                                  rw [← Ny479.out] at ho
                                  have n0_ := Aside0.mk (Kd.R_after (ok := (fun k_ => k_ ≠ gb472 ∧ k_ ≠ gb475)) (rs HO_3) hg hat)
                                  have n1_ := Aside0.mk (blk_grown (g := gb461) (o := .cells #[.int .i64 t457, .int .i64 t458] 29 (0, 0)) (bk BK461) hg (Kd.R_ne HO478.out BK461.out (by decide)))
                                  have n2_ := Aside0.mk (blk_grown (g := gb462) (o := .cells #[.int .i64 t459, .int .i64 t460] 29 (0, 0)) (bk BK462) hg (Kd.R_ne HO478.out BK462.out (by decide)))
                                  have n3_ := Aside0.mk (blk_grown (g := gb472) (o := .cells #[.bool false, .int .i64 t457, .int .i64 t457, .int .i64 t459, .int .i64 t459, .int .i64 t460, .int .i64 t460] 24 (0, 0)) (bk BK472) hg (Kd.R_away HO478.out (fun _ hk => hk.1.2)))
                                  have n4_ := Aside0.mk (blk_grown (g := gb475) (o := .cells #[.bool true, .int .i64 t457, .int .i64 t457, .int .i64 t459, .int .i64 t459, .int .i64 t460, .int .i64 t460] 24 (0, 0)) (bk BK475) hg (Kd.R_away HO478.out (fun _ hk => hk.2)))
                                  have n5_ := Aside0.mk (hb)
                                  have n6_ := Aside0.mk (ho)
                                  clear HO_3
                                  clear BK461
                                  clear BK462
                                  clear BK472
                                  clear BK475
                                  clear HB
                                  clear HO478
                                  have HO_3 := n0_
                                  have BK461 := n1_
                                  have BK462 := n2_
                                  have BK472 := n3_
                                  have BK475 := n4_
                                  have HB := n5_
                                  have HO481 := n6_
                                  clear n0_ n1_ n2_ n3_ n4_ n5_ n6_
                                  clear ho hb hg hat
                                  obtain ⟨Ao91, co91, eo91⟩ := Kd.R_slice HO481.out
                                  (first | subst eo91 | (injection eo91 with f1_ f2_ f3_; have f4_ := f1_.symm; have f5_ := f3_.symm; clear f1_ f2_ f3_; subst f4_; subst f5_))
                                  refine hK.out _ _ ⟨(blk_cell BK472.out 0).trans rfl, (blk_cell BK472.out 1).trans rfl, (blk_cell BK472.out 2).trans rfl, (blk_cell BK472.out 3).trans rfl, (blk_cell BK472.out 4).trans rfl, (blk_cell BK472.out 5).trans rfl, (blk_cell BK472.out 6).trans rfl, (blk_cell BK461.out 0).trans rfl, (blk_cell BK461.out 1).trans rfl, (blk_cell BK462.out 0).trans rfl, (blk_cell BK462.out 1).trans rfl, (blk_cell BK475.out 0).trans rfl, (blk_cell BK475.out 1).trans rfl, (blk_cell BK475.out 2).trans rfl, (blk_cell BK475.out 3).trans rfl, (blk_cell BK475.out 4).trans rfl, (blk_cell BK475.out 5).trans rfl, (blk_cell BK475.out 6).trans rfl⟩ (fun hHeld => ?_)
                                  clear hK K
                                  refine norm_ (a' := ?_) ?_ ?_
                                  rotate_left
                                  · show Act.put _ (some 82) _ = _
                                    simp only [Act.put, List.setIfInBounds_toArray, List.set_cons_zero, List.set_cons_succ, i64_w, i32_w]
                                    rfl
                                  refine one_ (i := 6) (N := some 85) #[true, true, true, true, true, true, true, false, false, false, false, false, false, false, false, false, false, false, false, false, false, false, false, false, false, false, false, false, false, false, false] rfl rfl (one_of HT_.out (by kernel_rfl)) (by decide) (fun K hK => ?_)
                                  refine goes_ Try.func15 (by kernel_rfl) rfl #[.slice Ao91 y479.length co91, .agg #[.int .i64 t457, .int .i64 t458], .agg #[.int .i64 t459, .int .i64 t460]] (by rfl) rfl rfl (by (try simp only [List.map_toArray, List.map_cons, List.map_nil]); first | done | rfl | (simp only [List.length_drop, List.length_take]; rfl)) ?_
                                  with_reducible refine (impl_RulMay.calls _ _ y479 t457 t458 t459 t460 false _ ?side1 ?side2 A70.out).mono ?_
                                  (case side1 => repeat (first | exact (Kd.R_reads' HO481.out).2.2 | (with_reducible refine Kd.C_alloc ?_ _) | (with_reducible refine Kd.C_drewN ?_ _) | (with_reducible refine Kd.C_drew ?_)))
                                  (case side2 => exact (Kd.R_reads' HO481.out).2.1)
                                  rintro e w92 ⟨rfl, hb⟩
                                  refine ⟨_, rfl, ?_⟩
                                  have n0_ := Aside0.mk (Kd.R_below (rs HO_3) hb)
                                  have n1_ := Aside0.mk (Kd.R_below (rs HO481) hb)
                                  have n2_ := bkB BK461 hb
                                  have n3_ := bkB BK462 hb
                                  have n4_ := bkB BK472 hb
                                  have n5_ := bkB BK475 hb
                                  have n6_ := Aside0.mk (below_step (bl HB) hb)
                                  clear HO_3
                                  clear HO481
                                  clear BK461
                                  clear BK462
                                  clear BK472
                                  clear BK475
                                  clear HB
                                  have HO_3 := n0_
                                  have HO481 := n1_
                                  have BK461 := n2_
                                  have BK462 := n3_
                                  have BK472 := n4_
                                  have BK475 := n5_
                                  have HB := n6_
                                  clear n0_ n1_ n2_ n3_ n4_ n5_ n6_
                                  (try clear hb)
                                  (try clear hb2)
                                  (try clear hk)
                                  (try clear hi)
                                  refine hK.out _ _ ⟨(blk_cell BK472.out 0).trans rfl, (blk_cell BK472.out 1).trans rfl, (blk_cell BK472.out 2).trans rfl, (blk_cell BK472.out 3).trans rfl, (blk_cell BK472.out 4).trans rfl, (blk_cell BK472.out 5).trans rfl, (blk_cell BK472.out 6).trans rfl, (blk_cell BK461.out 0).trans rfl, (blk_cell BK461.out 1).trans rfl, (blk_cell BK462.out 0).trans rfl, (blk_cell BK462.out 1).trans rfl, (blk_cell BK475.out 0).trans rfl, (blk_cell BK475.out 1).trans rfl, (blk_cell BK475.out 2).trans rfl, (blk_cell BK475.out 3).trans rfl, (blk_cell BK475.out 4).trans rfl, (blk_cell BK475.out 5).trans rfl, (blk_cell BK475.out 6).trans rfl⟩ (fun hHeld => ?_)
                                  clear hK K
                                  refine norm_ (a' := ?_) ?_ ?_
                                  rotate_left
                                  · show Act.put _ (some 85) _ = _
                                    simp only [Act.put, List.setIfInBounds_toArray, List.set_cons_zero, List.set_cons_succ, i64_w, i32_w]
                                    rfl
                                  refine pure_ (i := 7) (N := some 86) (v := ?_) (a' := ?_) #[true, true, true, true, true, true, true, true, false, false, false, false, false, false, false, false, false, false, false, false, false, false, false, false, false, false, false, false, false, false, false] rfl rfl (any_of HT_.out (by kernel_rfl)) (fun _ _ _ h => h) (Or.inl ⟨by rfl, ?_⟩) ?_ ?_
                                  rotate_left
                                  · intro w'
                                    go_simp
                                    with_reducible rfl
                                  rotate_left
                                  · simp only [Act.put, List.setIfInBounds_toArray, List.set_cons_zero, List.set_cons_succ, i64_w, i32_w]
                                    rfl
                                  refine pure_ (i := 8) (N := some 87) (v := ?_) (a' := ?_) #[true, true, true, true, true, true, true, true, true, false, false, false, false, false, false, false, false, false, false, false, false, false, false, false, false, false, false, false, false, false, false] rfl rfl (any_of HT_.out (by kernel_rfl)) (fun _ _ _ h => h) (Or.inl ⟨by rfl, ?_⟩) ?_ ?_
                                  rotate_left
                                  · intro w'
                                    go_simp
                                    with_reducible rfl
                                  rotate_left
                                  · simp only [Act.put, List.setIfInBounds_toArray, List.set_cons_zero, List.set_cons_succ, i64_w, i32_w]
                                    rfl
                                  refine pure_ (i := 11) (N := some 90) (v := ?_) (a' := ?_) #[true, true, true, true, true, true, true, true, true, false, false, true, false, false, false, false, false, false, false, false, false, false, false, false, false, false, false, false, false, false, false] rfl rfl (any_of HT_.out (by kernel_rfl)) (fun _ _ _ h => h) (Or.inl ⟨by rfl, ?_⟩) ?_ ?_
                                  rotate_left
                                  · intro w'
                                    go_simp
                                    with_reducible rfl
                                  rotate_left
                                  · simp only [Act.put, List.setIfInBounds_toArray, List.set_cons_zero, List.set_cons_succ, i64_w, i32_w]
                                    rfl
                                  refine take_ (i := 9) (N := some 88) (v := ?_) (a' := ?_) #[true, true, true, true, true, true, true, true, true, true, false, true, false, false, false, false, false, false, false, false, false, false, false, false, false, false, false, false, false, false, false] rfl rfl (take_ofW HT_.out HW_.out (by kernel_rfl)) (fun _ _ _ h => h) (Or.inl ⟨by rfl, ?_⟩) hHeld ?_ ?_
                                  rotate_left
                                  · rintro w' ⟨s0, s1, s2, s3, s4, s5, s6, s7, s8, s9, s10, s11, s12, s13, s14, s15, s16, s17⟩
                                    go_simp
                                    with_reducible rfl
                                  rotate_left
                                  · simp only [Act.put, List.setIfInBounds_toArray, List.set_cons_zero, List.set_cons_succ, i64_w, i32_w]
                                    rfl
                                  refine take_ (i := 13) (N := some 92) (v := ?_) (a' := ?_) #[true, true, true, true, true, true, true, true, true, true, false, true, false, true, false, false, false, false, false, false, false, false, false, false, false, false, false, false, false, false, false] rfl rfl (take_ofW HT_.out HW_.out (by kernel_rfl)) (fun _ _ _ h => h) (Or.inl ⟨by rfl, ?_⟩) hHeld ?_ ?_
                                  rotate_left
                                  · rintro w' ⟨s0, s1, s2, s3, s4, s5, s6, s7, s8, s9, s10, s11, s12, s13, s14, s15, s16, s17⟩
                                    go_simp
                                    with_reducible rfl
                                  rotate_left
                                  · simp only [Act.put, List.setIfInBounds_toArray, List.set_cons_zero, List.set_cons_succ, i64_w, i32_w]
                                    rfl
                                  refine take_ (i := 14) (N := some 93) (v := ?_) (a' := ?_) #[true, true, true, true, true, true, true, true, true, true, false, true, false, true, true, false, false, false, false, false, false, false, false, false, false, false, false, false, false, false, false] rfl rfl (take_ofW HT_.out HW_.out (by kernel_rfl)) (fun _ _ _ h => h) (Or.inl ⟨by rfl, ?_⟩) hHeld ?_ ?_
                                  rotate_left
                                  · rintro w' ⟨s0, s1, s2, s3, s4, s5, s6, s7, s8, s9, s10, s11, s12, s13, s14, s15, s16, s17⟩
                                    go_simp
                                    with_reducible rfl
                                  rotate_left
                                  · simp only [Act.put, List.setIfInBounds_toArray, List.set_cons_zero, List.set_cons_succ, i64_w, i32_w]
                                    rfl
                                  refine one_ (i := 10) (N := some 89) #[true, true, true, true, true, true, true, true, true, true, true, true, false, true, true, false, false, false, false, false, false, false, false, false, false, false, false, false, false, false, false] rfl rfl (one_of HT_.out (by kernel_rfl)) (by decide) (fun K hK => ?_)
                                  refine Kd.R_lit_step k24 _ 24 ?hg (N := 89) ?hd (xs := ([(⟨true, t457, t457, t459, t459, t460, t460⟩ : S24)] : List (S24))) (inner := [.bool true, .int .i64 t457, .int .i64 t457, .int .i64 t459, .int .i64 t459, .int .i64 t460, .int .i64 t460]) (ok := fun _ => True) (okp := fun _ => True) ?hr ?hp (fun _ hk => hk) trivial (Below.refl _ _) (Nat.le_refl _) (by simp) ?_; (case hd => rfl); (case hg => rfl); (case hr => first | (go_simp; done) | (go_simp; rfl)); (case hp => exact (Reps.c7 (show Kd.M k24 _ _ _ (⟨true, t457, t457, t459, t459, t460, t460⟩ : S24) [.bool true, .int .i64 t457, .int .i64 t457, .int .i64 t459, .int .i64 t459, .int .i64 t460, .int .i64 t460] from (k24_mkM _ _ _ (⟨true, t457, t457, t459, t459, t460, t460⟩ : S24) )) (Reps.none _ _)))
                                  intro v484 w93 ho94 hb hg_ hnew_
                                  clear hg_ hnew_
                                  (first | rw [← Ny483.out] at ho94 | (simp only [Int.reduceToNat] at ho94; rw [← Ny483.out] at ho94))
                                  have n0_ := Aside0.mk (Kd.R_elder' (rs HO_3) (Kd.R_base ho94) hb)
                                  have n1_ := Aside0.mk (Kd.R_elder' (rs HO481) (Kd.R_base ho94) hb)
                                  have n2_ := Aside0.mk (Kd.R_lower (Kd.R_newB (Kd.R_newB (Kd.R_new' (Kd.R_new' ho94 (Kd.R_lt (rs HO_3))) (Kd.R_lt (rs HO481))) (g := gb472) (o := .cells #[.bool false, .int .i64 t457, .int .i64 t457, .int .i64 t459, .int .i64 t459, .int .i64 t460, .int .i64 t460] 24 (0, 0)) (bk BK472)) (g := gb475) (o := .cells #[.bool true, .int .i64 t457, .int .i64 t457, .int .i64 t459, .int .i64 t459, .int .i64 t460, .int .i64 t460] 24 (0, 0)) (bk BK475)) (below_size (bl HB)))
                                  have n3_ := bkB BK461 hb
                                  have n4_ := bkB BK462 hb
                                  have n5_ := bkB BK472 hb
                                  have n6_ := bkB BK475 hb
                                  have n7_ := Aside0.mk (below_step (bl HB) hb)
                                  clear HO_3
                                  clear HO481
                                  clear BK461
                                  clear BK462
                                  clear BK472
                                  clear BK475
                                  clear HB
                                  have HO_3 := n0_
                                  have HO481 := n1_
                                  have HO485 := n2_
                                  have BK461 := n3_
                                  have BK462 := n4_
                                  have BK472 := n5_
                                  have BK475 := n6_
                                  have HB := n7_
                                  clear n0_ n1_ n2_ n3_ n4_ n5_ n6_ n7_
                                  clear hb ho94
                                  refine hK.out _ _ ⟨(blk_cell BK472.out 0).trans rfl, (blk_cell BK472.out 1).trans rfl, (blk_cell BK472.out 2).trans rfl, (blk_cell BK472.out 3).trans rfl, (blk_cell BK472.out 4).trans rfl, (blk_cell BK472.out 5).trans rfl, (blk_cell BK472.out 6).trans rfl, (blk_cell BK461.out 0).trans rfl, (blk_cell BK461.out 1).trans rfl, (blk_cell BK462.out 0).trans rfl, (blk_cell BK462.out 1).trans rfl, (blk_cell BK475.out 0).trans rfl, (blk_cell BK475.out 1).trans rfl, (blk_cell BK475.out 2).trans rfl, (blk_cell BK475.out 3).trans rfl, (blk_cell BK475.out 4).trans rfl, (blk_cell BK475.out 5).trans rfl, (blk_cell BK475.out 6).trans rfl⟩ (fun hHeld => ?_)
                                  clear hK K
                                  refine norm_ (a' := ?_) ?_ ?_
                                  rotate_left
                                  · show Act.put _ (some 89) _ = _
                                    simp only [Act.put, List.setIfInBounds_toArray, List.set_cons_zero, List.set_cons_succ, i64_w, i32_w]
                                    rfl
                                  refine one_ (i := 12) (N := some 91) #[true, true, true, true, true, true, true, true, true, true, true, true, true, true, true, false, false, false, false, false, false, false, false, false, false, false, false, false, false, false, false] rfl rfl (one_of HT_.out (by kernel_rfl)) (by decide) (fun K hK => ?_)
                                  refine Kd.R_append_rows_step k24 (w0 := w) w.heap.size (by rfl) (.tmp 89) (.tmp 90) 31 24 (.agg #[(.bool false), (.int .i64 0), (.int .i64 0), (.int .i64 0), (.int .i64 0), (.int .i64 0), (.int .i64 0)]) 56 rfl Try.underlying31 info24 rfl (by decide) (by omega) v484 y483 t454 _ _ _ (fun k_ => some k_ ≠ (.slice Ao14 t454.length co14 : Value).ownBlock ∧ some k_ ≠ (.slice Ao91 y479.length co91 : Value).ownBlock ∧ k_ ≠ gb472 ∧ k_ ≠ gb475) (fun _ => False) rfl rfl ?aO ?aR (fun _ _ h => h) (fun _ h => h.elim) ?aF ?aB ?aS ?aL ?_
                                  (case aR => repeat (first | exact (Kd.R_reads' HO_3.out).2.2 | (with_reducible refine Kd.C_alloc ?_ _) | (with_reducible refine Kd.C_drewN ?_ _) | (with_reducible refine Kd.C_drew ?_)))
                                  (case aB => exact (bl HB))
                                  (case aF => exact (fun k_ hk => ⟨Kd.fresh' (Kd.R_lt (rs HO_3)) k_ hk, Kd.fresh' (Kd.R_lt (rs HO481)) k_ hk, Kd.freshB (g := gb472) (o := .cells #[.bool false, .int .i64 t457, .int .i64 t457, .int .i64 t459, .int .i64 t459, .int .i64 t460, .int .i64 t460] 24 (0, 0)) (bk BK472) k_ hk, Kd.freshB (g := gb475) (o := .cells #[.bool true, .int .i64 t457, .int .i64 t457, .int .i64 t459, .int .i64 t459, .int .i64 t460, .int .i64 t460] 24 (0, 0)) (bk BK475) k_ hk⟩))
                                  (case aO => exact (by (with_reducible repeat apply ru); exact Kd.R_mono HO485.out (fun _ hk => ⟨hk.1.1.1.2, ⟨hk.1.1.2, ⟨hk.1.2, hk.2⟩⟩⟩)))
                                  (case aS => exact (below_size (bl HB)))
                                  (case aL => have := LMc72.out; omega)
                                  intro v487 w95 ho hb hg hat
                                  rw [← Ny486.out] at ho
                                  have n0_ := Aside0.mk (Kd.R_after (ok := (fun k_ => some k_ ≠ (.slice Ao91 y479.length co91 : Value).ownBlock ∧ k_ ≠ gb472 ∧ k_ ≠ gb475)) (by (with_reducible repeat apply ru); exact Kd.R_mono HO_3.out (fun _ hk => ⟨⟨hk.1.2, ⟨hk.1.1.1, hk.1.1.2⟩⟩, hk.2⟩)) hg hat)
                                  have n1_ := Aside0.mk (blk_grown (g := gb461) (o := .cells #[.int .i64 t457, .int .i64 t458] 29 (0, 0)) (bk BK461) hg (Kd.R_ne HO485.out BK461.out (by decide)))
                                  have n2_ := Aside0.mk (blk_grown (g := gb462) (o := .cells #[.int .i64 t459, .int .i64 t460] 29 (0, 0)) (bk BK462) hg (Kd.R_ne HO485.out BK462.out (by decide)))
                                  have n3_ := Aside0.mk (blk_grown (g := gb472) (o := .cells #[.bool false, .int .i64 t457, .int .i64 t457, .int .i64 t459, .int .i64 t459, .int .i64 t460, .int .i64 t460] 24 (0, 0)) (bk BK472) hg (Kd.R_away HO485.out (fun _ hk => hk.1.2)))
                                  have n4_ := Aside0.mk (blk_grown (g := gb475) (o := .cells #[.bool true, .int .i64 t457, .int .i64 t457, .int .i64 t459, .int .i64 t459, .int .i64 t460, .int .i64 t460] 24 (0, 0)) (bk BK475) hg (Kd.R_away HO485.out (fun _ hk => hk.2)))
                                  have n5_ := Aside0.mk (Kd.R_after (ok := (fun k_ => some k_ ≠ (.slice Ao14 t454.length co14 : Value).ownBlock ∧ k_ ≠ gb472 ∧ k_ ≠ gb475)) (rs HO481) hg hat)
                                  have n6_ := Aside0.mk (hb)
                                  have n7_ := Aside0.mk (ho)
                                  clear HO_3
                                  clear BK461
                                  clear BK462
                                  clear BK472
                                  clear BK475
                                  clear HO481
                                  clear HB
                                  clear HO485
                                  have HO_3 := n0_
                                  have BK461 := n1_
                                  have BK462 := n2_
                                  have BK472 := n3_
                                  have BK475 := n4_
                                  have HO481 := n5_
                                  have HB := n6_
                                  have HO488 := n7_
                                  clear n0_ n1_ n2_ n3_ n4_ n5_ n6_ n7_
                                  clear ho hb hg hat
                                  obtain ⟨Ao96, co96, eo96⟩ := Kd.R_slice HO488.out
                                  (first | subst eo96 | (injection eo96 with f1_ f2_ f3_; have f4_ := f1_.symm; have f5_ := f3_.symm; clear f1_ f2_ f3_; subst f4_; subst f5_))
                                  refine hK.out _ _ ⟨(blk_cell BK472.out 0).trans rfl, (blk_cell BK472.out 1).trans rfl, (blk_cell BK472.out 2).trans rfl, (blk_cell BK472.out 3).trans rfl, (blk_cell BK472.out 4).trans rfl, (blk_cell BK472.out 5).trans rfl, (blk_cell BK472.out 6).trans rfl, (blk_cell BK461.out 0).trans rfl, (blk_cell BK461.out 1).trans rfl, (blk_cell BK462.out 0).trans rfl, (blk_cell BK462.out 1).trans rfl, (blk_cell BK475.out 0).trans rfl, (blk_cell BK475.out 1).trans rfl, (blk_cell BK475.out 2).trans rfl, (blk_cell BK475.out 3).trans rfl, (blk_cell BK475.out 4).trans rfl, (blk_cell BK475.out 5).trans rfl, (blk_cell BK475.out 6).trans rfl⟩ (fun hHeld => ?_)
                                  clear hK K
                                  refine norm_ (a' := ?_) ?_ ?_
                                  rotate_left
                                  · show Act.put _ (some 91) _ = _
                                    simp only [Act.put, List.setIfInBounds_toArray, List.set_cons_zero, List.set_cons_succ, i64_w, i32_w]
                                    rfl
                                  refine one_ (i := 15) (N := some 94) #[true, true, true, true, true, true, true, true, true, true, true, true, true, true, true, true, false, false, false, false, false, false, false, false, false, false, false, false, false, false, false] rfl rfl (one_of HT_.out (by kernel_rfl)) (by decide) (fun K hK => ?_)
                                  refine goes_ Try.func15 (by kernel_rfl) rfl #[.slice Ao96 y486.length co96, .agg #[.int .i64 t457, .int .i64 t458], .agg #[.int .i64 t459, .int .i64 t460]] (by rfl) rfl rfl (by (try simp only [List.map_toArray, List.map_cons, List.map_nil]); first | done | rfl | (simp only [List.length_drop, List.length_take]; rfl)) ?_
                                  with_reducible refine (impl_RulMay.calls _ _ y486 t457 t458 t459 t460 true _ ?side1 ?side2 A73.out).mono ?_
                                  (case side1 => repeat (first | exact (Kd.R_reads' HO488.out).2.2 | (with_reducible refine Kd.C_alloc ?_ _) | (with_reducible refine Kd.C_drewN ?_ _) | (with_reducible refine Kd.C_drew ?_)))
                                  (case side2 => exact (Kd.R_reads' HO488.out).2.1)
                                  rintro e w97 ⟨rfl, hb⟩
                                  refine ⟨_, rfl, ?_⟩
                                  have n0_ := Aside0.mk (Kd.R_below (rs HO_3) hb)
                                  have n1_ := Aside0.mk (Kd.R_below (rs HO481) hb)
                                  have n2_ := Aside0.mk (Kd.R_below (rs HO488) hb)
                                  have n3_ := bkB BK461 hb
                                  have n4_ := bkB BK462 hb
                                  have n5_ := bkB BK472 hb
                                  have n6_ := bkB BK475 hb
                                  have n7_ := Aside0.mk (below_step (bl HB) hb)
                                  clear HO_3
                                  clear HO481
                                  clear HO488
                                  clear BK461
                                  clear BK462
                                  clear BK472
                                  clear BK475
                                  clear HB
                                  have HO_3 := n0_
                                  have HO481 := n1_
                                  have HO488 := n2_
                                  have BK461 := n3_
                                  have BK462 := n4_
                                  have BK472 := n5_
                                  have BK475 := n6_
                                  have HB := n7_
                                  clear n0_ n1_ n2_ n3_ n4_ n5_ n6_ n7_
                                  (try clear hb)
                                  (try clear hb2)
                                  (try clear hk)
                                  (try clear hi)
                                  refine hK.out _ _ ⟨(blk_cell BK472.out 0).trans rfl, (blk_cell BK472.out 1).trans rfl, (blk_cell BK472.out 2).trans rfl, (blk_cell BK472.out 3).trans rfl, (blk_cell BK472.out 4).trans rfl, (blk_cell BK472.out 5).trans rfl, (blk_cell BK472.out 6).trans rfl, (blk_cell BK461.out 0).trans rfl, (blk_cell BK461.out 1).trans rfl, (blk_cell BK462.out 0).trans rfl, (blk_cell BK462.out 1).trans rfl, (blk_cell BK475.out 0).trans rfl, (blk_cell BK475.out 1).trans rfl, (blk_cell BK475.out 2).trans rfl, (blk_cell BK475.out 3).trans rfl, (blk_cell BK475.out 4).trans rfl, (blk_cell BK475.out 5).trans rfl, (blk_cell BK475.out 6).trans rfl⟩ (fun hHeld => ?_)
                                  clear hK K
                                  refine norm_ (a' := ?_) ?_ ?_
                                  rotate_left
                                  · show Act.put _ (some 94) _ = _
                                    simp only [Act.put, List.setIfInBounds_toArray, List.set_cons_zero, List.set_cons_succ, i64_w, i32_w]
                                    rfl
                                  refine pure_ (i := 16) (N := some 95) (v := ?_) (a' := ?_) #[true, true, true, true, true, true, true, true, true, true, true, true, true, true, true, true, true, false, false, false, false, false, false, false, false, false, false, false, false, false, false] rfl rfl (any_of HT_.out (by kernel_rfl)) (fun _ _ _ h => h) (Or.inl ⟨by rfl, ?_⟩) ?_ ?_
                                  rotate_left
                                  · intro w'
                                    go_simp
                                    with_reducible rfl
                                  rotate_left
                                  · simp only [Act.put, List.setIfInBounds_toArray, List.set_cons_zero, List.set_cons_succ, i64_w, i32_w]
                                    rfl
                                  refine pure_ (i := 17) (N := some 96) (v := ?_) (a' := ?_) #[true, true, true, true, true, true, true, true, true, true, true, true, true, true, true, true, true, true, false, false, false, false, false, false, false, false, false, false, false, false, false] rfl rfl (any_of HT_.out (by kernel_rfl)) (fun _ _ _ h => h) (Or.inl ⟨by rfl, ?_⟩) ?_ ?_
                                  rotate_left
                                  · intro w'
                                    go_simp
                                    with_reducible rfl
                                  rotate_left
                                  · simp only [Act.put, List.setIfInBounds_toArray, List.set_cons_zero, List.set_cons_succ, i64_w, i32_w]
                                    rfl
                                  refine pure_ (i := 19) (N := some 98) (v := ?_) (a' := ?_) #[true, true, true, true, true, true, true, true, true, true, true, true, true, true, true, true, true, true, false, true, false, false, false, false, false, false, false, false, false, false, false] rfl rfl (any_of HT_.out (by kernel_rfl)) (fun _ _ _ h => h) (Or.inl ⟨by rfl, ?_⟩) ?_ ?_
                                  rotate_left
                                  · intro w'
                                    go_simp
                                    with_reducible rfl
                                  rotate_left
                                  · simp only [Act.put, List.setIfInBounds_toArray, List.set_cons_zero, List.set_cons_succ, i64_w, i32_w]
                                    rfl
                                  refine pure_ (i := 27) (N := some 106) (v := ?_) (a' := ?_) #[true, true, true, true, true, true, true, true, true, true, true, true, true, true, true, true, true, true, false, true, false, false, false, false, false, false, false, true, false, false, false] rfl rfl (any_of HT_.out (by kernel_rfl)) (fun _ _ _ h => h) (Or.inl ⟨by rfl, ?_⟩) ?_ ?_
                                  rotate_left
                                  · intro w'
                                    go_simp
                                    with_reducible rfl
                                  rotate_left
                                  · simp only [Act.put, List.setIfInBounds_toArray, List.set_cons_zero, List.set_cons_succ, i64_w, i32_w]
                                    rfl
                                  refine take_ (i := 21) (N := some 100) (v := ?_) (a' := ?_) #[true, true, true, true, true, true, true, true, true, true, true, true, true, true, true, true, true, true, false, true, false, true, false, false, false, false, false, true, false, false, false] rfl rfl (take_ofW HT_.out HW_.out (by kernel_rfl)) (fun _ _ _ h => h) (Or.inl ⟨by rfl, ?_⟩) hHeld ?_ ?_
                                  rotate_left
                                  · rintro w' ⟨s0, s1, s2, s3, s4, s5, s6, s7, s8, s9, s10, s11, s12, s13, s14, s15, s16, s17⟩
                                    go_simp
                                    with_reducible rfl
                                  rotate_left
                                  · simp only [Act.put, List.setIfInBounds_toArray, List.set_cons_zero, List.set_cons_succ, i64_w, i32_w]
                                    rfl
                                  refine take_ (i := 24) (N := some 103) (v := ?_) (a' := ?_) #[true, true, true, true, true, true, true, true, true, true, true, true, true, true, true, true, true, true, false, true, false, true, false, false, true, false, false, true, false, false, false] rfl rfl (take_ofW HT_.out HW_.out (by kernel_rfl)) (fun _ _ _ h => h) (Or.inl ⟨by rfl, ?_⟩) hHeld ?_ ?_
                                  rotate_left
                                  · rintro w' ⟨s0, s1, s2, s3, s4, s5, s6, s7, s8, s9, s10, s11, s12, s13, s14, s15, s16, s17⟩
                                    go_simp
                                    with_reducible rfl
                                  rotate_left
                                  · simp only [Act.put, List.setIfInBounds_toArray, List.set_cons_zero, List.set_cons_succ, i64_w, i32_w]
                                    rfl
                                  refine take_ (i := 25) (N := some 104) (v := ?_) (a' := ?_) #[true, true, true, true, true, true, true, true, true, true, true, true, true, true, true, true, true, true, false, true, false, true, false, false, true, true, false, true, false, false, false] rfl rfl (take_ofW HT_.out HW_.out (by kernel_rfl)) (fun _ _ _ h => h) (Or.inl ⟨by rfl, ?_⟩) hHeld ?_ ?_
                                  rotate_left
                                  · rintro w' ⟨s0, s1, s2, s3, s4, s5, s6, s7, s8, s9, s10, s11, s12, s13, s14, s15, s16, s17⟩
                                    go_simp
                                    with_reducible rfl
                                  rotate_left
                                  · simp only [Act.put, List.setIfInBounds_toArray, List.set_cons_zero, List.set_cons_succ, i64_w, i32_w]
                                    rfl
                                  refine join_ (σ := Value × Value × Value) 5 #[true, true, true, true, true, true, true, true, true, true, true, true, true, true, true, true, true, true, true, true, true, true, true, false, true, true, false, true, false, false, false] (fun s_ => [(97, s_.1), (99, s_.2.1), (101, s_.2.2)]) (fun s_ w' => (w'.cell? ⟨gb472, 0, none⟩ = some (.bool false) ∧ w'.cell? ⟨gb472, 1, none⟩ = some (.int .i64 t457) ∧ w'.cell? ⟨gb472, 2, none⟩ = some (.int .i64 t457) ∧ w'.cell? ⟨gb472, 3, none⟩ = some (.int .i64 t459) ∧ w'.cell? ⟨gb472, 4, none⟩ = some (.int .i64 t459) ∧ w'.cell? ⟨gb472, 5, none⟩ = some (.int .i64 t460) ∧ w'.cell? ⟨gb472, 6, none⟩ = some (.int .i64 t460) ∧ w'.cell? ⟨gb461, 0, none⟩ = some (.int .i64 t457) ∧ w'.cell? ⟨gb461, 1, none⟩ = some (.int .i64 t458) ∧ w'.cell? ⟨gb462, 0, none⟩ = some (.int .i64 t459) ∧ w'.cell? ⟨gb462, 1, none⟩ = some (.int .i64 t460) ∧ w'.cell? ⟨gb475, 0, none⟩ = some (.bool true) ∧ w'.cell? ⟨gb475, 1, none⟩ = some (.int .i64 t457) ∧ w'.cell? ⟨gb475, 2, none⟩ = some (.int .i64 t457) ∧ w'.cell? ⟨gb475, 3, none⟩ = some (.int .i64 t459) ∧ w'.cell? ⟨gb475, 4, none⟩ = some (.int .i64 t459) ∧ w'.cell? ⟨gb475, 5, none⟩ = some (.int .i64 t460) ∧ w'.cell? ⟨gb475, 6, none⟩ = some (.int .i64 t460)) ∧ (Kd.R k24 24 w' w.heap.size (fun k_ => some k_ ≠ (.slice Ao96 y486.length co96 : Value).ownBlock ∧ some k_ ≠ (s_.2.1 : Value).ownBlock ∧ some k_ ≠ (s_.2.2 : Value).ownBlock ∧ some k_ ≠ (.slice Ao14 t454.length co14 : Value).ownBlock ∧ k_ ≠ gb472 ∧ k_ ≠ gb475) (.slice Ao91 y479.length co91) y479) ∧ (Kd.R k24 24 w' w.heap.size (fun k_ => some k_ ≠ (.slice Ao91 y479.length co91 : Value).ownBlock ∧ some k_ ≠ (s_.2.1 : Value).ownBlock ∧ some k_ ≠ (s_.2.2 : Value).ownBlock ∧ some k_ ≠ (.slice Ao14 t454.length co14 : Value).ownBlock ∧ k_ ≠ gb472 ∧ k_ ≠ gb475) (.slice Ao96 y486.length co96) y486) ∧ (Kd.R k24 24 w' w.heap.size (fun k_ => some k_ ≠ (.slice Ao91 y479.length co91 : Value).ownBlock ∧ some k_ ≠ (.slice Ao96 y486.length co96 : Value).ownBlock ∧ some k_ ≠ (s_.2.2 : Value).ownBlock ∧ some k_ ≠ (.slice Ao14 t454.length co14 : Value).ownBlock ∧ k_ ≠ gb472 ∧ k_ ≠ gb475) s_.2.1 y493) ∧ (Kd.R k24 24 w' w.heap.size (fun k_ => some k_ ≠ (.slice Ao91 y479.length co91 : Value).ownBlock ∧ some k_ ≠ (.slice Ao96 y486.length co96 : Value).ownBlock ∧ some k_ ≠ (s_.2.1 : Value).ownBlock ∧ some k_ ≠ (.slice Ao14 t454.length co14 : Value).ownBlock ∧ k_ ≠ gb472 ∧ k_ ≠ gb475) s_.2.2 y496) ∧ (Kd.R k24 24 w' w.heap.size (fun k_ => some k_ ≠ (.slice Ao91 y479.length co91 : Value).ownBlock ∧ some k_ ≠ (.slice Ao96 y486.length co96 : Value).ownBlock ∧ some k_ ≠ (s_.2.1 : Value).ownBlock ∧ some k_ ≠ (s_.2.2 : Value).ownBlock ∧ k_ ≠ gb472 ∧ k_ ≠ gb475) (.slice Ao14 t454.length co14) t454) ∧ (w'.heap[gb461]? = some (.cells #[.int .i64 t457, .int .i64 t458] 29 (0, 0))) ∧ (w'.heap[gb462]? = some (.cells #[.int .i64 t459, .int .i64 t460] 29 (0, 0))) ∧ (w'.heap[gb472]? = some (.cells #[.bool false, .int .i64 t457, .int .i64 t457, .int .i64 t459, .int .i64 t459, .int .i64 t460, .int .i64 t460] 24 (0, 0))) ∧ (w'.heap[gb475]? = some (.cells #[.bool true, .int .i64 t457, .int .i64 t457, .int .i64 t459, .int .i64 t459, .int .i64 t460, .int .i64 t460] 24 (0, 0))) ∧ (Below w.heap.size w w')) ?_ ?_
                                  rotate_left
                                  · intro hCont
                                    refine two_ (i := 18) (j := 22) (Ni := some 97) (Nj := some 101) #[true, true, true, true, true, true, true, true, true, true, true, true, true, true, true, true, true, true, true, true, false, true, false, false, true, true, false, true, false, false, false] #[true, true, true, true, true, true, true, true, true, true, true, true, true, true, true, true, true, true, false, true, false, true, true, false, true, true, false, true, false, false, false] rfl rfl rfl rfl (two_of HT_.out (by kernel_rfl)) (by decide) (by decide) (fun K hK => ?_) (fun K hK => ?_)
                                    · skip
                                      refine Kd.R_lit_step k24 _ 24 ?hg (N := 97) ?hd (xs := ([] : List (S24))) (inner := []) (ok := fun _ => True) (okp := fun _ => True) ?hr ?hp (fun _ hk => hk) trivial (Below.refl _ _) (Nat.le_refl _) (by simp) ?_; (case hd => rfl); (case hg => rfl); (case hr => first | (go_simp; done) | (go_simp; rfl)); (case hp => exact (Reps.none _ _))
                                      intro v491 w98 ho99 hb hg_ hnew_
                                      clear hg_ hnew_
                                      (first | rw [← Ny490.out] at ho99 | (simp only [Int.reduceToNat] at ho99; rw [← Ny490.out] at ho99))
                                      have n0_ := Aside0.mk (Kd.R_elder' (rs HO_3) (Kd.R_base ho99) hb)
                                      have n1_ := Aside0.mk (Kd.R_elder' (rs HO481) (Kd.R_base ho99) hb)
                                      have n2_ := Aside0.mk (Kd.R_elder' (rs HO488) (Kd.R_base ho99) hb)
                                      have n3_ := Aside0.mk (Kd.R_lower (Kd.R_newB (Kd.R_newB (Kd.R_new' (Kd.R_new' (Kd.R_new' ho99 (Kd.R_lt (rs HO_3))) (Kd.R_lt (rs HO481))) (Kd.R_lt (rs HO488))) (g := gb472) (o := .cells #[.bool false, .int .i64 t457, .int .i64 t457, .int .i64 t459, .int .i64 t459, .int .i64 t460, .int .i64 t460] 24 (0, 0)) (bk BK472)) (g := gb475) (o := .cells #[.bool true, .int .i64 t457, .int .i64 t457, .int .i64 t459, .int .i64 t459, .int .i64 t460, .int .i64 t460] 24 (0, 0)) (bk BK475)) (below_size (bl HB)))
                                      have n4_ := bkB BK461 hb
                                      have n5_ := bkB BK462 hb
                                      have n6_ := bkB BK472 hb
                                      have n7_ := bkB BK475 hb
                                      have n8_ := Aside0.mk (below_step (bl HB) hb)
                                      clear HO_3
                                      clear HO481
                                      clear HO488
                                      clear BK461
                                      clear BK462
                                      clear BK472
                                      clear BK475
                                      clear HB
                                      have HO_3 := n0_
                                      have HO481 := n1_
                                      have HO488 := n2_
                                      have HO492 := n3_
                                      have BK461 := n4_
                                      have BK462 := n5_
                                      have BK472 := n6_
                                      have BK475 := n7_
                                      have HB := n8_
                                      clear n0_ n1_ n2_ n3_ n4_ n5_ n6_ n7_ n8_
                                      clear hb ho99
                                      refine hK.out _ _ ⟨(blk_cell BK472.out 0).trans rfl, (blk_cell BK472.out 1).trans rfl, (blk_cell BK472.out 2).trans rfl, (blk_cell BK472.out 3).trans rfl, (blk_cell BK472.out 4).trans rfl, (blk_cell BK472.out 5).trans rfl, (blk_cell BK472.out 6).trans rfl, (blk_cell BK461.out 0).trans rfl, (blk_cell BK461.out 1).trans rfl, (blk_cell BK462.out 0).trans rfl, (blk_cell BK462.out 1).trans rfl, (blk_cell BK475.out 0).trans rfl, (blk_cell BK475.out 1).trans rfl, (blk_cell BK475.out 2).trans rfl, (blk_cell BK475.out 3).trans rfl, (blk_cell BK475.out 4).trans rfl, (blk_cell BK475.out 5).trans rfl, (blk_cell BK475.out 6).trans rfl⟩ (fun hHeld => ?_)
                                      clear hK K
                                      refine norm_ (a' := ?_) ?_ ?_
                                      rotate_left
                                      · show Act.put _ (some 97) _ = _
                                        simp only [Act.put, List.setIfInBounds_toArray, List.set_cons_zero, List.set_cons_succ, i64_w, i32_w]
                                        rfl
                                      refine two_ (i := 20) (j := 22) (Ni := some 99) (Nj := some 101) #[true, true, true, true, true, true, true, true, true, true, true, true, true, true, true, true, true, true, true, true, true, true, false, false, true, true, false, true, false, false, false] #[true, true, true, true, true, true, true, true, true, true, true, true, true, true, true, true, true, true, true, true, false, true, true, false, true, true, false, true, false, false, false] rfl rfl rfl rfl (two_of HT_.out (by kernel_rfl)) (by decide) (by decide) (fun K hK => ?_) (fun K hK => ?_)
                                      · skip
                                        refine Kd.R_append_rows_step k24 (w0 := w) w.heap.size (by rfl) (.tmp 97) (.tmp 98) 31 24 (.agg #[(.bool false), (.int .i64 0), (.int .i64 0), (.int .i64 0), (.int .i64 0), (.int .i64 0), (.int .i64 0)]) 56 rfl Try.underlying31 info24 rfl (by decide) (by omega) v491 y490 t454 _ _ _ (fun k_ => some k_ ≠ (.slice Ao14 t454.length co14 : Value).ownBlock ∧ some k_ ≠ (.slice Ao91 y479.length co91 : Value).ownBlock ∧ some k_ ≠ (.slice Ao96 y486.length co96 : Value).ownBlock ∧ k_ ≠ gb472 ∧ k_ ≠ gb475) (fun _ => False) rfl rfl ?aO ?aR (fun _ _ h => h) (fun _ h => h.elim) ?aF ?aB ?aS ?aL ?_
                                        (case aR => repeat (first | exact (Kd.R_reads' HO_3.out).2.2 | (with_reducible refine Kd.C_alloc ?_ _) | (with_reducible refine Kd.C_drewN ?_ _) | (with_reducible refine Kd.C_drew ?_)))
                                        (case aB => exact (bl HB))
                                        (case aF => exact (fun k_ hk => ⟨Kd.fresh' (Kd.R_lt (rs HO_3)) k_ hk, Kd.fresh' (Kd.R_lt (rs HO481)) k_ hk, Kd.fresh' (Kd.R_lt (rs HO488)) k_ hk, Kd.freshB (g := gb472) (o := .cells #[.bool false, .int .i64 t457, .int .i64 t457, .int .i64 t459, .int .i64 t459, .int .i64 t460, .int .i64 t460] 24 (0, 0)) (bk BK472) k_ hk, Kd.freshB (g := gb475) (o := .cells #[.bool true, .int .i64 t457, .int .i64 t457, .int .i64 t459, .int .i64 t459, .int .i64 t460, .int .i64 t460] 24 (0, 0)) (bk BK475) k_ hk⟩))
                                        (case aO => exact (by (with_reducible repeat apply ru); exact Kd.R_mono HO492.out (fun _ hk => ⟨hk.1.1.1.1.2, ⟨hk.1.1.1.2, ⟨hk.1.1.2, ⟨hk.1.2, hk.2⟩⟩⟩⟩)))
                                        (case aS => exact (below_size (bl HB)))
                                        (case aL => have := LMc75.out; omega)
                                        intro v494 w100 ho hb hg hat
                                        rw [← Ny493.out] at ho
                                        have n0_ := Aside0.mk (Kd.R_after (ok := (fun k_ => some k_ ≠ (.slice Ao91 y479.length co91 : Value).ownBlock ∧ some k_ ≠ (.slice Ao96 y486.length co96 : Value).ownBlock ∧ k_ ≠ gb472 ∧ k_ ≠ gb475)) (by (with_reducible repeat apply ru); exact Kd.R_mono HO_3.out (fun _ hk => ⟨⟨hk.1.1.1, ⟨hk.1.2, ⟨hk.1.1.2.1, hk.1.1.2.2⟩⟩⟩, hk.2⟩)) hg hat)
                                        have n1_ := Aside0.mk (blk_grown (g := gb461) (o := .cells #[.int .i64 t457, .int .i64 t458] 29 (0, 0)) (bk BK461) hg (Kd.R_ne HO492.out BK461.out (by decide)))
                                        have n2_ := Aside0.mk (blk_grown (g := gb462) (o := .cells #[.int .i64 t459, .int .i64 t460] 29 (0, 0)) (bk BK462) hg (Kd.R_ne HO492.out BK462.out (by decide)))
                                        have n3_ := Aside0.mk (blk_grown (g := gb472) (o := .cells #[.bool false, .int .i64 t457, .int .i64 t457, .int .i64 t459, .int .i64 t459, .int .i64 t460, .int .i64 t460] 24 (0, 0)) (bk BK472) hg (Kd.R_away HO492.out (fun _ hk => hk.1.2)))
                                        have n4_ := Aside0.mk (blk_grown (g := gb475) (o := .cells #[.bool true, .int .i64 t457, .int .i64 t457, .int .i64 t459, .int .i64 t459, .int .i64 t460, .int .i64 t460] 24 (0, 0)) (bk BK475) hg (Kd.R_away HO492.out (fun _ hk => hk.2)))
                                        have n5_ := Aside0.mk (Kd.R_after (ok := (fun k_ => some k_ ≠ (.slice Ao14 t454.length co14 : Value).ownBlock ∧ some k_ ≠ (.slice Ao96 y486.length co96 : Value).ownBlock ∧ k_ ≠ gb472 ∧ k_ ≠ gb475)) (by (with_reducible repeat apply ru); exact Kd.R_mono HO481.out (fun _ hk => ⟨⟨hk.1.1.1, ⟨hk.1.2, ⟨hk.1.1.2.1, hk.1.1.2.2⟩⟩⟩, hk.2⟩)) hg hat)
                                        have n6_ := Aside0.mk (Kd.R_after (ok := (fun k_ => some k_ ≠ (.slice Ao14 t454.length co14 : Value).ownBlock ∧ some k_ ≠ (.slice Ao91 y479.length co91 : Value).ownBlock ∧ k_ ≠ gb472 ∧ k_ ≠ gb475)) (rs HO488) hg hat)
                                        have n7_ := Aside0.mk (hb)
                                        have n8_ := Aside0.mk (ho)
                                        clear HO_3
                                        clear BK461
                                        clear BK462
                                        clear BK472
                                        clear BK475
                                        clear HO481
                                        clear HO488
                                        clear HB
                                        clear HO492
                                        have HO_3 := n0_
                                        have BK461 := n1_
                                        have BK462 := n2_
                                        have BK472 := n3_
                                        have BK475 := n4_
                                        have HO481 := n5_
                                        have HO488 := n6_
                                        have HB := n7_
                                        have HO495 := n8_
                                        clear n0_ n1_ n2_ n3_ n4_ n5_ n6_ n7_ n8_
                                        clear ho hb hg hat
                                        refine hK.out _ _ ⟨(blk_cell BK472.out 0).trans rfl, (blk_cell BK472.out 1).trans rfl, (blk_cell BK472.out 2).trans rfl, (blk_cell BK472.out 3).trans rfl, (blk_cell BK472.out 4).trans rfl, (blk_cell BK472.out 5).trans rfl, (blk_cell BK472.out 6).trans rfl, (blk_cell BK461.out 0).trans rfl, (blk_cell BK461.out 1).trans rfl, (blk_cell BK462.out 0).trans rfl, (blk_cell BK462.out 1).trans rfl, (blk_cell BK475.out 0).trans rfl, (blk_cell BK475.out 1).trans rfl, (blk_cell BK475.out 2).trans rfl, (blk_cell BK475.out 3).trans rfl, (blk_cell BK475.out 4).trans rfl, (blk_cell BK475.out 5).trans rfl, (blk_cell BK475.out 6).trans rfl⟩ (fun hHeld => ?_)
                                        clear hK K
                                        refine norm_ (a' := ?_) ?_ ?_
                                        rotate_left
                                        · show Act.put _ (some 99) _ = _
                                          simp only [Act.put, List.setIfInBounds_toArray, List.set_cons_zero, List.set_cons_succ, i64_w, i32_w]
                                          rfl
                                        refine one_ (i := 22) (N := some 101) #[true, true, true, true, true, true, true, true, true, true, true, true, true, true, true, true, true, true, true, true, true, true, true, false, true, true, false, true, false, false, false] rfl rfl (one_of HT_.out (by kernel_rfl)) (by decide) (fun K hK => ?_)
                                        refine Kd.R_lit_step k24 _ 24 ?hg (N := 101) ?hd (xs := ([(⟨true, t457, t457, t459, t459, t460, t460⟩ : S24)] : List (S24))) (inner := [.bool true, .int .i64 t457, .int .i64 t457, .int .i64 t459, .int .i64 t459, .int .i64 t460, .int .i64 t460]) (ok := fun _ => True) (okp := fun _ => True) ?hr ?hp (fun _ hk => hk) trivial (Below.refl _ _) (Nat.le_refl _) (by simp) ?_; (case hd => rfl); (case hg => rfl); (case hr => first | (go_simp; done) | (go_simp; rfl)); (case hp => exact (Reps.c7 (show Kd.M k24 _ _ _ (⟨true, t457, t457, t459, t459, t460, t460⟩ : S24) [.bool true, .int .i64 t457, .int .i64 t457, .int .i64 t459, .int .i64 t459, .int .i64 t460, .int .i64 t460] from (k24_mkM _ _ _ (⟨true, t457, t457, t459, t459, t460, t460⟩ : S24) )) (Reps.none _ _)))
                                        intro v497 w101 ho102 hb hg_ hnew_
                                        clear hg_ hnew_
                                        (first | rw [← Ny496.out] at ho102 | (simp only [Int.reduceToNat] at ho102; rw [← Ny496.out] at ho102))
                                        have n0_ := Aside0.mk (Kd.R_elder' (rs HO_3) (Kd.R_base ho102) hb)
                                        have n1_ := Aside0.mk (Kd.R_elder' (rs HO481) (Kd.R_base ho102) hb)
                                        have n2_ := Aside0.mk (Kd.R_elder' (rs HO488) (Kd.R_base ho102) hb)
                                        have n3_ := Aside0.mk (Kd.R_elder' (rs HO495) (Kd.R_base ho102) hb)
                                        have n4_ := Aside0.mk (Kd.R_lower (Kd.R_newB (Kd.R_newB (Kd.R_new' (Kd.R_new' (Kd.R_new' (Kd.R_new' ho102 (Kd.R_lt (rs HO_3))) (Kd.R_lt (rs HO481))) (Kd.R_lt (rs HO488))) (Kd.R_lt (rs HO495))) (g := gb472) (o := .cells #[.bool false, .int .i64 t457, .int .i64 t457, .int .i64 t459, .int .i64 t459, .int .i64 t460, .int .i64 t460] 24 (0, 0)) (bk BK472)) (g := gb475) (o := .cells #[.bool true, .int .i64 t457, .int .i64 t457, .int .i64 t459, .int .i64 t459, .int .i64 t460, .int .i64 t460] 24 (0, 0)) (bk BK475)) (below_size (bl HB)))
                                        have n5_ := bkB BK461 hb
                                        have n6_ := bkB BK462 hb
                                        have n7_ := bkB BK472 hb
                                        have n8_ := bkB BK475 hb
                                        have n9_ := Aside0.mk (below_step (bl HB) hb)
                                        clear HO_3
                                        clear HO481
                                        clear HO488
                                        clear HO495
                                        clear BK461
                                        clear BK462
                                        clear BK472
                                        clear BK475
                                        clear HB
                                        have HO_3 := n0_
                                        have HO481 := n1_
                                        have HO488 := n2_
                                        have HO495 := n3_
                                        have HO498 := n4_
                                        have BK461 := n5_
                                        have BK462 := n6_
                                        have BK472 := n7_
                                        have BK475 := n8_
                                        have HB := n9_
                                        clear n0_ n1_ n2_ n3_ n4_ n5_ n6_ n7_ n8_ n9_
                                        clear hb ho102
                                        refine hK.out _ _ ⟨(blk_cell BK472.out 0).trans rfl, (blk_cell BK472.out 1).trans rfl, (blk_cell BK472.out 2).trans rfl, (blk_cell BK472.out 3).trans rfl, (blk_cell BK472.out 4).trans rfl, (blk_cell BK472.out 5).trans rfl, (blk_cell BK472.out 6).trans rfl, (blk_cell BK461.out 0).trans rfl, (blk_cell BK461.out 1).trans rfl, (blk_cell BK462.out 0).trans rfl, (blk_cell BK462.out 1).trans rfl, (blk_cell BK475.out 0).trans rfl, (blk_cell BK475.out 1).trans rfl, (blk_cell BK475.out 2).trans rfl, (blk_cell BK475.out 3).trans rfl, (blk_cell BK475.out 4).trans rfl, (blk_cell BK475.out 5).trans rfl, (blk_cell BK475.out 6).trans rfl⟩ (fun hHeld => ?_)
                                        clear hK K
                                        refine norm_ (a' := ?_) ?_ ?_
                                        rotate_left
                                        · show Act.put _ (some 101) _ = _
                                          simp only [Act.put, List.setIfInBounds_toArray, List.set_cons_zero, List.set_cons_succ, i64_w, i32_w]
                                          rfl
                                        exact norm_ (by simp only [putAll, Act.put, List.setIfInBounds_toArray, List.set_cons_zero, List.set_cons_succ]) (hCont (v491, v494, v497) _ ⟨hHeld, (by (with_reducible repeat apply ru); exact Kd.R_mono HO481.out (fun _ hk => ⟨hk.1.1.2.1, ⟨hk.1.2, ⟨hk.2, ⟨hk.1.1.1, ⟨hk.1.1.2.2.1, hk.1.1.2.2.2⟩⟩⟩⟩⟩)), (by (with_reducible repeat apply ru); exact Kd.R_mono HO488.out (fun _ hk => ⟨hk.1.1.2.1, ⟨hk.1.2, ⟨hk.2, ⟨hk.1.1.1, ⟨hk.1.1.2.2.1, hk.1.1.2.2.2⟩⟩⟩⟩⟩)), (by (with_reducible repeat apply ru); exact Kd.R_mono HO495.out (fun _ hk => ⟨hk.1.2.1, ⟨hk.1.2.2.1, ⟨hk.2, ⟨hk.1.1, ⟨hk.1.2.2.2.1, hk.1.2.2.2.2⟩⟩⟩⟩⟩)), (by (with_reducible repeat apply ru); exact Kd.R_mono HO498.out (fun _ hk => ⟨hk.1.1.1.1.2, ⟨hk.1.1.1.2, ⟨hk.1.1.2, ⟨hk.1.1.1.1.1.2, ⟨hk.1.2, hk.2⟩⟩⟩⟩⟩)), (by (with_reducible repeat apply ru); exact Kd.R_mono HO_3.out (fun _ hk => ⟨hk.1.1.1, ⟨hk.1.1.2.1, ⟨hk.1.2, ⟨hk.2, ⟨hk.1.1.2.2.1, hk.1.1.2.2.2⟩⟩⟩⟩⟩)), (bk BK461), (bk BK462), (bk BK472), (bk BK475), (bl HB)⟩)
                                      · skip
                                        refine Kd.R_lit_step k24 _ 24 ?hg (N := 101) ?hd (xs := ([(⟨true, t457, t457, t459, t459, t460, t460⟩ : S24)] : List (S24))) (inner := [.bool true, .int .i64 t457, .int .i64 t457, .int .i64 t459, .int .i64 t459, .int .i64 t460, .int .i64 t460]) (ok := fun _ => True) (okp := fun _ => True) ?hr ?hp (fun _ hk => hk) trivial (Below.refl _ _) (Nat.le_refl _) (by simp) ?_; (case hd => rfl); (case hg => rfl); (case hr => first | (go_simp; done) | (go_simp; rfl)); (case hp => exact (Reps.c7 (show Kd.M k24 _ _ _ (⟨true, t457, t457, t459, t459, t460, t460⟩ : S24) [.bool true, .int .i64 t457, .int .i64 t457, .int .i64 t459, .int .i64 t459, .int .i64 t460, .int .i64 t460] from (k24_mkM _ _ _ (⟨true, t457, t457, t459, t459, t460, t460⟩ : S24) )) (Reps.none _ _)))
                                        intro v497 w100 ho101 hb hg_ hnew_
                                        clear hg_ hnew_
                                        (first | rw [← Ny496.out] at ho101 | (simp only [Int.reduceToNat] at ho101; rw [← Ny496.out] at ho101))
                                        have n0_ := Aside0.mk (Kd.R_elder' (rs HO_3) (Kd.R_base ho101) hb)
                                        have n1_ := Aside0.mk (Kd.R_elder' (rs HO481) (Kd.R_base ho101) hb)
                                        have n2_ := Aside0.mk (Kd.R_elder' (rs HO488) (Kd.R_base ho101) hb)
                                        have n3_ := Aside0.mk (Kd.R_elder' (rs HO492) (Kd.R_base ho101) hb)
                                        have n4_ := Aside0.mk (Kd.R_lower (Kd.R_newB (Kd.R_newB (Kd.R_new' (Kd.R_new' (Kd.R_new' (Kd.R_new' ho101 (Kd.R_lt (rs HO_3))) (Kd.R_lt (rs HO481))) (Kd.R_lt (rs HO488))) (Kd.R_lt (rs HO492))) (g := gb472) (o := .cells #[.bool false, .int .i64 t457, .int .i64 t457, .int .i64 t459, .int .i64 t459, .int .i64 t460, .int .i64 t460] 24 (0, 0)) (bk BK472)) (g := gb475) (o := .cells #[.bool true, .int .i64 t457, .int .i64 t457, .int .i64 t459, .int .i64 t459, .int .i64 t460, .int .i64 t460] 24 (0, 0)) (bk BK475)) (below_size (bl HB)))
                                        have n5_ := bkB BK461 hb
                                        have n6_ := bkB BK462 hb
                                        have n7_ := bkB BK472 hb
                                        have n8_ := bkB BK475 hb
                                        have n9_ := Aside0.mk (below_step (bl HB) hb)
                                        clear HO_3
                                        clear HO481
                                        clear HO488
                                        clear HO492
                                        clear BK461
                                        clear BK462
                                        clear BK472
                                        clear BK475
                                        clear HB
                                        have HO_3 := n0_
                                        have HO481 := n1_
                                        have HO488 := n2_
                                        have HO492 := n3_
                                        have HO498 := n4_
                                        have BK461 := n5_
                                        have BK462 := n6_
                                        have BK472 := n7_
                                        have BK475 := n8_
                                        have HB := n9_
                                        clear n0_ n1_ n2_ n3_ n4_ n5_ n6_ n7_ n8_ n9_
                                        clear hb ho101
                                        refine hK.out _ _ ⟨(blk_cell BK472.out 0).trans rfl, (blk_cell BK472.out 1).trans rfl, (blk_cell BK472.out 2).trans rfl, (blk_cell BK472.out 3).trans rfl, (blk_cell BK472.out 4).trans rfl, (blk_cell BK472.out 5).trans rfl, (blk_cell BK472.out 6).trans rfl, (blk_cell BK461.out 0).trans rfl, (blk_cell BK461.out 1).trans rfl, (blk_cell BK462.out 0).trans rfl, (blk_cell BK462.out 1).trans rfl, (blk_cell BK475.out 0).trans rfl, (blk_cell BK475.out 1).trans rfl, (blk_cell BK475.out 2).trans rfl, (blk_cell BK475.out 3).trans rfl, (blk_cell BK475.out 4).trans rfl, (blk_cell BK475.out 5).trans rfl, (blk_cell BK475.out 6).trans rfl⟩ (fun hHeld => ?_)
                                        clear hK K
                                        refine norm_ (a' := ?_) ?_ ?_
                                        rotate_left
                                        · show Act.put _ (some 101) _ = _
                                          simp only [Act.put, List.setIfInBounds_toArray, List.set_cons_zero, List.set_cons_succ, i64_w, i32_w]
                                          rfl
                                        refine one_ (i := 20) (N := some 99) #[true, true, true, true, true, true, true, true, true, true, true, true, true, true, true, true, true, true, true, true, true, true, true, false, true, true, false, true, false, false, false] rfl rfl (one_of HT_.out (by kernel_rfl)) (by decide) (fun K hK => ?_)
                                        refine Kd.R_append_rows_step k24 (w0 := w) w.heap.size (by rfl) (.tmp 97) (.tmp 98) 31 24 (.agg #[(.bool false), (.int .i64 0), (.int .i64 0), (.int .i64 0), (.int .i64 0), (.int .i64 0), (.int .i64 0)]) 56 rfl Try.underlying31 info24 rfl (by decide) (by omega) v491 y490 t454 _ _ _ (fun k_ => some k_ ≠ (.slice Ao14 t454.length co14 : Value).ownBlock ∧ some k_ ≠ (.slice Ao91 y479.length co91 : Value).ownBlock ∧ some k_ ≠ (.slice Ao96 y486.length co96 : Value).ownBlock ∧ some k_ ≠ (v497 : Value).ownBlock ∧ k_ ≠ gb472 ∧ k_ ≠ gb475) (fun _ => False) rfl rfl ?aO ?aR (fun _ _ h => h) (fun _ h => h.elim) ?aF ?aB ?aS ?aL ?_
                                        (case aR => repeat (first | exact (Kd.R_reads' HO_3.out).2.2 | (with_reducible refine Kd.C_alloc ?_ _) | (with_reducible refine Kd.C_drewN ?_ _) | (with_reducible refine Kd.C_drew ?_)))
                                        (case aB => exact (bl HB))
                                        (case aF => exact (fun k_ hk => ⟨Kd.fresh' (Kd.R_lt (rs HO_3)) k_ hk, Kd.fresh' (Kd.R_lt (rs HO481)) k_ hk, Kd.fresh' (Kd.R_lt (rs HO488)) k_ hk, Kd.fresh' (Kd.R_lt (rs HO498)) k_ hk, Kd.freshB (g := gb472) (o := .cells #[.bool false, .int .i64 t457, .int .i64 t457, .int .i64 t459, .int .i64 t459, .int .i64 t460, .int .i64 t460] 24 (0, 0)) (bk BK472) k_ hk, Kd.freshB (g := gb475) (o := .cells #[.bool true, .int .i64 t457, .int .i64 t457, .int .i64 t459, .int .i64 t459, .int .i64 t460, .int .i64 t460] 24 (0, 0)) (bk BK475) k_ hk⟩))
                                        (case aO => exact (by (with_reducible repeat apply ru); exact Kd.R_mono HO492.out (fun _ hk => ⟨hk.1.1.1.1.1.2, ⟨hk.1.1.1.1.2, ⟨hk.1.1.1.2, ⟨hk.2, ⟨hk.1.1.2, hk.1.2⟩⟩⟩⟩⟩)))
                                        (case aS => exact (below_size (bl HB)))
                                        (case aL => have := LMc75.out; omega)
                                        intro v494 w102 ho hb hg hat
                                        rw [← Ny493.out] at ho
                                        have n0_ := Aside0.mk (Kd.R_after (ok := (fun k_ => some k_ ≠ (.slice Ao91 y479.length co91 : Value).ownBlock ∧ some k_ ≠ (.slice Ao96 y486.length co96 : Value).ownBlock ∧ some k_ ≠ (v497 : Value).ownBlock ∧ k_ ≠ gb472 ∧ k_ ≠ gb475)) (by (with_reducible repeat apply ru); exact Kd.R_mono HO_3.out (fun _ hk => ⟨⟨hk.1.1.1.1, ⟨hk.1.1.2, ⟨hk.2, ⟨hk.1.1.1.2.1, hk.1.1.1.2.2⟩⟩⟩⟩, hk.1.2⟩)) hg hat)
                                        have n1_ := Aside0.mk (blk_grown (g := gb461) (o := .cells #[.int .i64 t457, .int .i64 t458] 29 (0, 0)) (bk BK461) hg (Kd.R_ne HO492.out BK461.out (by decide)))
                                        have n2_ := Aside0.mk (blk_grown (g := gb462) (o := .cells #[.int .i64 t459, .int .i64 t460] 29 (0, 0)) (bk BK462) hg (Kd.R_ne HO492.out BK462.out (by decide)))
                                        have n3_ := Aside0.mk (blk_grown (g := gb472) (o := .cells #[.bool false, .int .i64 t457, .int .i64 t457, .int .i64 t459, .int .i64 t459, .int .i64 t460, .int .i64 t460] 24 (0, 0)) (bk BK472) hg (Kd.R_away HO492.out (fun _ hk => hk.1.1.2)))
                                        have n4_ := Aside0.mk (blk_grown (g := gb475) (o := .cells #[.bool true, .int .i64 t457, .int .i64 t457, .int .i64 t459, .int .i64 t459, .int .i64 t460, .int .i64 t460] 24 (0, 0)) (bk BK475) hg (Kd.R_away HO492.out (fun _ hk => hk.1.2)))
                                        have n5_ := Aside0.mk (Kd.R_after (ok := (fun k_ => some k_ ≠ (.slice Ao14 t454.length co14 : Value).ownBlock ∧ some k_ ≠ (.slice Ao96 y486.length co96 : Value).ownBlock ∧ some k_ ≠ (v497 : Value).ownBlock ∧ k_ ≠ gb472 ∧ k_ ≠ gb475)) (by (with_reducible repeat apply ru); exact Kd.R_mono HO481.out (fun _ hk => ⟨⟨hk.1.1.1.1, ⟨hk.1.1.2, ⟨hk.2, ⟨hk.1.1.1.2.1, hk.1.1.1.2.2⟩⟩⟩⟩, hk.1.2⟩)) hg hat)
                                        have n6_ := Aside0.mk (Kd.R_after (ok := (fun k_ => some k_ ≠ (.slice Ao14 t454.length co14 : Value).ownBlock ∧ some k_ ≠ (.slice Ao91 y479.length co91 : Value).ownBlock ∧ some k_ ≠ (v497 : Value).ownBlock ∧ k_ ≠ gb472 ∧ k_ ≠ gb475)) (by (with_reducible repeat apply ru); exact Kd.R_mono HO488.out (fun _ hk => ⟨⟨hk.1.1.1, ⟨hk.1.1.2.1, ⟨hk.2, ⟨hk.1.1.2.2.1, hk.1.1.2.2.2⟩⟩⟩⟩, hk.1.2⟩)) hg hat)
                                        have n7_ := Aside0.mk (Kd.R_after (ok := (fun k_ => some k_ ≠ (.slice Ao14 t454.length co14 : Value).ownBlock ∧ some k_ ≠ (.slice Ao91 y479.length co91 : Value).ownBlock ∧ some k_ ≠ (.slice Ao96 y486.length co96 : Value).ownBlock ∧ k_ ≠ gb472 ∧ k_ ≠ gb475)) (by (with_reducible repeat apply ru); exact Kd.R_mono HO498.out (fun _ hk => ⟨⟨hk.1.1.1.1.1.2, ⟨hk.1.1.1.1.2, ⟨hk.1.1.1.2, ⟨hk.1.2, hk.2⟩⟩⟩⟩, hk.1.1.2⟩)) hg hat)
                                        have n8_ := Aside0.mk (hb)
                                        have n9_ := Aside0.mk (ho)
                                        clear HO_3
                                        clear BK461
                                        clear BK462
                                        clear BK472
                                        clear BK475
                                        clear HO481
                                        clear HO488
                                        clear HO498
                                        clear HB
                                        clear HO492
                                        have HO_3 := n0_
                                        have BK461 := n1_
                                        have BK462 := n2_
                                        have BK472 := n3_
                                        have BK475 := n4_
                                        have HO481 := n5_
                                        have HO488 := n6_
                                        have HO498 := n7_
                                        have HB := n8_
                                        have HO495 := n9_
                                        clear n0_ n1_ n2_ n3_ n4_ n5_ n6_ n7_ n8_ n9_
                                        clear ho hb hg hat
                                        refine hK.out _ _ ⟨(blk_cell BK472.out 0).trans rfl, (blk_cell BK472.out 1).trans rfl, (blk_cell BK472.out 2).trans rfl, (blk_cell BK472.out 3).trans rfl, (blk_cell BK472.out 4).trans rfl, (blk_cell BK472.out 5).trans rfl, (blk_cell BK472.out 6).trans rfl, (blk_cell BK461.out 0).trans rfl, (blk_cell BK461.out 1).trans rfl, (blk_cell BK462.out 0).trans rfl, (blk_cell BK462.out 1).trans rfl, (blk_cell BK475.out 0).trans rfl, (blk_cell BK475.out 1).trans rfl, (blk_cell BK475.out 2).trans rfl, (blk_cell BK475.out 3).trans rfl, (blk_cell BK475.out 4).trans rfl, (blk_cell BK475.out 5).trans rfl, (blk_cell BK475.out 6).trans rfl⟩ (fun hHeld => ?_)
                                        clear hK K
                                        refine norm_ (a' := ?_) ?_ ?_
                                        rotate_left
                                        · show Act.put _ (some 99) _ = _
                                          simp only [Act.put, List.setIfInBounds_toArray, List.set_cons_zero, List.set_cons_succ, i64_w, i32_w]
                                          rfl
                                        exact norm_ (by simp only [putAll, Act.put, List.setIfInBounds_toArray, List.set_cons_zero, List.set_cons_succ]) (hCont (v491, v494, v497) _ ⟨hHeld, (by (with_reducible repeat apply ru); exact Kd.R_mono HO481.out (fun _ hk => ⟨hk.1.2.1, ⟨hk.2, ⟨hk.1.2.2.1, ⟨hk.1.1, ⟨hk.1.2.2.2.1, hk.1.2.2.2.2⟩⟩⟩⟩⟩)), (by (with_reducible repeat apply ru); exact Kd.R_mono HO488.out (fun _ hk => ⟨hk.1.2.1, ⟨hk.2, ⟨hk.1.2.2.1, ⟨hk.1.1, ⟨hk.1.2.2.2.1, hk.1.2.2.2.2⟩⟩⟩⟩⟩)), (by (with_reducible repeat apply ru); exact Kd.R_mono HO495.out (fun _ hk => ⟨hk.2.1, ⟨hk.2.2.1, ⟨hk.2.2.2.1, ⟨hk.1, ⟨hk.2.2.2.2.1, hk.2.2.2.2.2⟩⟩⟩⟩⟩)), (by (with_reducible repeat apply ru); exact Kd.R_mono HO498.out (fun _ hk => ⟨hk.1.2.1, ⟨hk.1.2.2.1, ⟨hk.2, ⟨hk.1.1, ⟨hk.1.2.2.2.1, hk.1.2.2.2.2⟩⟩⟩⟩⟩)), (by (with_reducible repeat apply ru); exact Kd.R_mono HO_3.out (fun _ hk => ⟨hk.1.1, ⟨hk.1.2.1, ⟨hk.2, ⟨hk.1.2.2.1, ⟨hk.1.2.2.2.1, hk.1.2.2.2.2⟩⟩⟩⟩⟩)), (bk BK461), (bk BK462), (bk BK472), (bk BK475), (bl HB)⟩)
                                    · skip
                                      refine Kd.R_lit_step k24 _ 24 ?hg (N := 101) ?hd (xs := ([(⟨true, t457, t457, t459, t459, t460, t460⟩ : S24)] : List (S24))) (inner := [.bool true, .int .i64 t457, .int .i64 t457, .int .i64 t459, .int .i64 t459, .int .i64 t460, .int .i64 t460]) (ok := fun _ => True) (okp := fun _ => True) ?hr ?hp (fun _ hk => hk) trivial (Below.refl _ _) (Nat.le_refl _) (by simp) ?_; (case hd => rfl); (case hg => rfl); (case hr => first | (go_simp; done) | (go_simp; rfl)); (case hp => exact (Reps.c7 (show Kd.M k24 _ _ _ (⟨true, t457, t457, t459, t459, t460, t460⟩ : S24) [.bool true, .int .i64 t457, .int .i64 t457, .int .i64 t459, .int .i64 t459, .int .i64 t460, .int .i64 t460] from (k24_mkM _ _ _ (⟨true, t457, t457, t459, t459, t460, t460⟩ : S24) )) (Reps.none _ _)))
                                      intro v497 w98 ho99 hb hg_ hnew_
                                      clear hg_ hnew_
                                      (first | rw [← Ny496.out] at ho99 | (simp only [Int.reduceToNat] at ho99; rw [← Ny496.out] at ho99))
                                      have n0_ := Aside0.mk (Kd.R_elder' (rs HO_3) (Kd.R_base ho99) hb)
                                      have n1_ := Aside0.mk (Kd.R_elder' (rs HO481) (Kd.R_base ho99) hb)
                                      have n2_ := Aside0.mk (Kd.R_elder' (rs HO488) (Kd.R_base ho99) hb)
                                      have n3_ := Aside0.mk (Kd.R_lower (Kd.R_newB (Kd.R_newB (Kd.R_new' (Kd.R_new' (Kd.R_new' ho99 (Kd.R_lt (rs HO_3))) (Kd.R_lt (rs HO481))) (Kd.R_lt (rs HO488))) (g := gb472) (o := .cells #[.bool false, .int .i64 t457, .int .i64 t457, .int .i64 t459, .int .i64 t459, .int .i64 t460, .int .i64 t460] 24 (0, 0)) (bk BK472)) (g := gb475) (o := .cells #[.bool true, .int .i64 t457, .int .i64 t457, .int .i64 t459, .int .i64 t459, .int .i64 t460, .int .i64 t460] 24 (0, 0)) (bk BK475)) (below_size (bl HB)))
                                      have n4_ := bkB BK461 hb
                                      have n5_ := bkB BK462 hb
                                      have n6_ := bkB BK472 hb
                                      have n7_ := bkB BK475 hb
                                      have n8_ := Aside0.mk (below_step (bl HB) hb)
                                      clear HO_3
                                      clear HO481
                                      clear HO488
                                      clear BK461
                                      clear BK462
                                      clear BK472
                                      clear BK475
                                      clear HB
                                      have HO_3 := n0_
                                      have HO481 := n1_
                                      have HO488 := n2_
                                      have HO498 := n3_
                                      have BK461 := n4_
                                      have BK462 := n5_
                                      have BK472 := n6_
                                      have BK475 := n7_
                                      have HB := n8_
                                      clear n0_ n1_ n2_ n3_ n4_ n5_ n6_ n7_ n8_
                                      clear hb ho99
                                      refine hK.out _ _ ⟨(blk_cell BK472.out 0).trans rfl, (blk_cell BK472.out 1).trans rfl, (blk_cell BK472.out 2).trans rfl, (blk_cell BK472.out 3).trans rfl, (blk_cell BK472.out 4).trans rfl, (blk_cell BK472.out 5).trans rfl, (blk_cell BK472.out 6).trans rfl, (blk_cell BK461.out 0).trans rfl, (blk_cell BK461.out 1).trans rfl, (blk_cell BK462.out 0).trans rfl, (blk_cell BK462.out 1).trans rfl, (blk_cell BK475.out 0).trans rfl, (blk_cell BK475.out 1).trans rfl, (blk_cell BK475.out 2).trans rfl, (blk_cell BK475.out 3).trans rfl, (blk_cell BK475.out 4).trans rfl, (blk_cell BK475.out 5).trans rfl, (blk_cell BK475.out 6).trans rfl⟩ (fun hHeld => ?_)
                                      clear hK K
                                      refine norm_ (a' := ?_) ?_ ?_
                                      rotate_left
                                      · show Act.put _ (some 101) _ = _
                                        simp only [Act.put, List.setIfInBounds_toArray, List.set_cons_zero, List.set_cons_succ, i64_w, i32_w]
                                        rfl
                                      refine one_ (i := 18) (N := some 97) #[true, true, true, true, true, true, true, true, true, true, true, true, true, true, true, true, true, true, true, true, false, true, true, false, true, true, false, true, false, false, false] rfl rfl (one_of HT_.out (by kernel_rfl)) (by decide) (fun K hK => ?_)
                                      refine Kd.R_lit_step k24 _ 24 ?hg (N := 97) ?hd (xs := ([] : List (S24))) (inner := []) (ok := fun _ => True) (okp := fun _ => True) ?hr ?hp (fun _ hk => hk) trivial (Below.refl _ _) (Nat.le_refl _) (by simp) ?_; (case hd => rfl); (case hg => rfl); (case hr => first | (go_simp; done) | (go_simp; rfl)); (case hp => exact (Reps.none _ _))
                                      intro v491 w100 ho101 hb hg_ hnew_
                                      clear hg_ hnew_
                                      (first | rw [← Ny490.out] at ho101 | (simp only [Int.reduceToNat] at ho101; rw [← Ny490.out] at ho101))
                                      have n0_ := Aside0.mk (Kd.R_elder' (rs HO_3) (Kd.R_base ho101) hb)
                                      have n1_ := Aside0.mk (Kd.R_elder' (rs HO481) (Kd.R_base ho101) hb)
                                      have n2_ := Aside0.mk (Kd.R_elder' (rs HO488) (Kd.R_base ho101) hb)
                                      have n3_ := Aside0.mk (Kd.R_elder' (rs HO498) (Kd.R_base ho101) hb)
                                      have n4_ := Aside0.mk (Kd.R_lower (Kd.R_newB (Kd.R_newB (Kd.R_new' (Kd.R_new' (Kd.R_new' (Kd.R_new' ho101 (Kd.R_lt (rs HO_3))) (Kd.R_lt (rs HO481))) (Kd.R_lt (rs HO488))) (Kd.R_lt (rs HO498))) (g := gb472) (o := .cells #[.bool false, .int .i64 t457, .int .i64 t457, .int .i64 t459, .int .i64 t459, .int .i64 t460, .int .i64 t460] 24 (0, 0)) (bk BK472)) (g := gb475) (o := .cells #[.bool true, .int .i64 t457, .int .i64 t457, .int .i64 t459, .int .i64 t459, .int .i64 t460, .int .i64 t460] 24 (0, 0)) (bk BK475)) (below_size (bl HB)))
                                      have n5_ := bkB BK461 hb
                                      have n6_ := bkB BK462 hb
                                      have n7_ := bkB BK472 hb
                                      have n8_ := bkB BK475 hb
                                      have n9_ := Aside0.mk (below_step (bl HB) hb)
                                      clear HO_3
                                      clear HO481
                                      clear HO488
                                      clear HO498
                                      clear BK461
                                      clear BK462
                                      clear BK472
                                      clear BK475
                                      clear HB
                                      have HO_3 := n0_
                                      have HO481 := n1_
                                      have HO488 := n2_
                                      have HO498 := n3_
                                      have HO492 := n4_
                                      have BK461 := n5_
                                      have BK462 := n6_
                                      have BK472 := n7_
                                      have BK475 := n8_
                                      have HB := n9_
                                      clear n0_ n1_ n2_ n3_ n4_ n5_ n6_ n7_ n8_ n9_
                                      clear hb ho101
                                      refine hK.out _ _ ⟨(blk_cell BK472.out 0).trans rfl, (blk_cell BK472.out 1).trans rfl, (blk_cell BK472.out 2).trans rfl, (blk_cell BK472.out 3).trans rfl, (blk_cell BK472.out 4).trans rfl, (blk_cell BK472.out 5).trans rfl, (blk_cell BK472.out 6).trans rfl, (blk_cell BK461.out 0).trans rfl, (blk_cell BK461.out 1).trans rfl, (blk_cell BK462.out 0).trans rfl, (blk_cell BK462.out 1).trans rfl, (blk_cell BK475.out 0).trans rfl, (blk_cell BK475.out 1).trans rfl, (blk_cell BK475.out 2).trans rfl, (blk_cell BK475.out 3).trans rfl, (blk_cell BK475.out 4).trans rfl, (blk_cell BK475.out 5).trans rfl, (blk_cell BK475.out 6).trans rfl⟩ (fun hHeld => ?_)
                                      clear hK K
                                      refine norm_ (a' := ?_) ?_ ?_
                                      rotate_left
                                      · show Act.put _ (some 97) _ = _
                                        simp only [Act.put, List.setIfInBounds_toArray, List.set_cons_zero, List.set_cons_succ, i64_w, i32_w]
                                        rfl
                                      refine one_ (i := 20) (N := some 99) #[true, true, true, true, true, true, true, true, true, true, true, true, true, true, true, true, true, true, true, true, true, true, true, false, true, true, false, true, false, false, false] rfl rfl (one_of HT_.out (by kernel_rfl)) (by decide) (fun K hK => ?_)
                                      refine Kd.R_append_rows_step k24 (w0 := w) w.heap.size (by rfl) (.tmp 97) (.tmp 98) 31 24 (.agg #[(.bool false), (.int .i64 0), (.int .i64 0), (.int .i64 0), (.int .i64 0), (.int .i64 0), (.int .i64 0)]) 56 rfl Try.underlying31 info24 rfl (by decide) (by omega) v491 y490 t454 _ _ _ (fun k_ => some k_ ≠ (.slice Ao14 t454.length co14 : Value).ownBlock ∧ some k_ ≠ (.slice Ao91 y479.length co91 : Value).ownBlock ∧ some k_ ≠ (.slice Ao96 y486.length co96 : Value).ownBlock ∧ some k_ ≠ (v497 : Value).ownBlock ∧ k_ ≠ gb472 ∧ k_ ≠ gb475) (fun _ => False) rfl rfl ?aO ?aR (fun _ _ h => h) (fun _ h => h.elim) ?aF ?aB ?aS ?aL ?_
                                      (case aR => repeat (first | exact (Kd.R_reads' HO_3.out).2.2 | (with_reducible refine Kd.C_alloc ?_ _) | (with_reducible refine Kd.C_drewN ?_ _) | (with_reducible refine Kd.C_drew ?_)))
                                      (case aB => exact (bl HB))
                                      (case aF => exact (fun k_ hk => ⟨Kd.fresh' (Kd.R_lt (rs HO_3)) k_ hk, Kd.fresh' (Kd.R_lt (rs HO481)) k_ hk, Kd.fresh' (Kd.R_lt (rs HO488)) k_ hk, Kd.fresh' (Kd.R_lt (rs HO498)) k_ hk, Kd.freshB (g := gb472) (o := .cells #[.bool false, .int .i64 t457, .int .i64 t457, .int .i64 t459, .int .i64 t459, .int .i64 t460, .int .i64 t460] 24 (0, 0)) (bk BK472) k_ hk, Kd.freshB (g := gb475) (o := .cells #[.bool true, .int .i64 t457, .int .i64 t457, .int .i64 t459, .int .i64 t459, .int .i64 t460, .int .i64 t460] 24 (0, 0)) (bk BK475) k_ hk⟩))
                                      (case aO => exact (by (with_reducible repeat apply ru); exact Kd.R_mono HO492.out (fun _ hk => ⟨hk.1.1.1.1.1.2, ⟨hk.1.1.1.1.2, ⟨hk.1.1.1.2, ⟨hk.1.1.2, ⟨hk.1.2, hk.2⟩⟩⟩⟩⟩)))
                                      (case aS => exact (below_size (bl HB)))
                                      (case aL => have := LMc75.out; omega)
                                      intro v494 w102 ho hb hg hat
                                      rw [← Ny493.out] at ho
                                      have n0_ := Aside0.mk (Kd.R_after (ok := (fun k_ => some k_ ≠ (.slice Ao91 y479.length co91 : Value).ownBlock ∧ some k_ ≠ (.slice Ao96 y486.length co96 : Value).ownBlock ∧ some k_ ≠ (v497 : Value).ownBlock ∧ k_ ≠ gb472 ∧ k_ ≠ gb475)) (by (with_reducible repeat apply ru); exact Kd.R_mono HO_3.out (fun _ hk => ⟨⟨hk.1.1.1.1, ⟨hk.1.1.2, ⟨hk.1.2, ⟨hk.1.1.1.2.1, hk.1.1.1.2.2⟩⟩⟩⟩, hk.2⟩)) hg hat)
                                      have n1_ := Aside0.mk (blk_grown (g := gb461) (o := .cells #[.int .i64 t457, .int .i64 t458] 29 (0, 0)) (bk BK461) hg (Kd.R_ne HO492.out BK461.out (by decide)))
                                      have n2_ := Aside0.mk (blk_grown (g := gb462) (o := .cells #[.int .i64 t459, .int .i64 t460] 29 (0, 0)) (bk BK462) hg (Kd.R_ne HO492.out BK462.out (by decide)))
                                      have n3_ := Aside0.mk (blk_grown (g := gb472) (o := .cells #[.bool false, .int .i64 t457, .int .i64 t457, .int .i64 t459, .int .i64 t459, .int .i64 t460, .int .i64 t460] 24 (0, 0)) (bk BK472) hg (Kd.R_away HO492.out (fun _ hk => hk.1.2)))
                                      have n4_ := Aside0.mk (blk_grown (g := gb475) (o := .cells #[.bool true, .int .i64 t457, .int .i64 t457, .int .i64 t459, .int .i64 t459, .int .i64 t460, .int .i64 t460] 24 (0, 0)) (bk BK475) hg (Kd.R_away HO492.out (fun _ hk => hk.2)))
                                      have n5_ := Aside0.mk (Kd.R_after (ok := (fun k_ => some k_ ≠ (.slice Ao14 t454.length co14 : Value).ownBlock ∧ some k_ ≠ (.slice Ao96 y486.length co96 : Value).ownBlock ∧ some k_ ≠ (v497 : Value).ownBlock ∧ k_ ≠ gb472 ∧ k_ ≠ gb475)) (by (with_reducible repeat apply ru); exact Kd.R_mono HO481.out (fun _ hk => ⟨⟨hk.1.1.1.1, ⟨hk.1.1.2, ⟨hk.1.2, ⟨hk.1.1.1.2.1, hk.1.1.1.2.2⟩⟩⟩⟩, hk.2⟩)) hg hat)
                                      have n6_ := Aside0.mk (Kd.R_after (ok := (fun k_ => some k_ ≠ (.slice Ao14 t454.length co14 : Value).ownBlock ∧ some k_ ≠ (.slice Ao91 y479.length co91 : Value).ownBlock ∧ some k_ ≠ (v497 : Value).ownBlock ∧ k_ ≠ gb472 ∧ k_ ≠ gb475)) (by (with_reducible repeat apply ru); exact Kd.R_mono HO488.out (fun _ hk => ⟨⟨hk.1.1.1, ⟨hk.1.1.2.1, ⟨hk.1.2, ⟨hk.1.1.2.2.1, hk.1.1.2.2.2⟩⟩⟩⟩, hk.2⟩)) hg hat)
                                      have n7_ := Aside0.mk (Kd.R_after (ok := (fun k_ => some k_ ≠ (.slice Ao14 t454.length co14 : Value).ownBlock ∧ some k_ ≠ (.slice Ao91 y479.length co91 : Value).ownBlock ∧ some k_ ≠ (.slice Ao96 y486.length co96 : Value).ownBlock ∧ k_ ≠ gb472 ∧ k_ ≠ gb475)) (by (with_reducible repeat apply ru); exact Kd.R_mono HO498.out (fun _ hk => ⟨⟨hk.1.1.1.1.1.2, ⟨hk.1.1.1.1.2, ⟨hk.1.1.1.2, ⟨hk.1.1.2, hk.1.2⟩⟩⟩⟩, hk.2⟩)) hg hat)
                                      have n8_ := Aside0.mk (hb)
                                      have n9_ := Aside0.mk (ho)
                                      clear HO_3
                                      clear BK461
                                      clear BK462
                                      clear BK472
                                      clear BK475
                                      clear HO481
                                      clear HO488
                                      clear HO498
                                      clear HB
                                      clear HO492
                                      have HO_3 := n0_
                                      have BK461 := n1_
                                      have BK462 := n2_
                                      have BK472 := n3_
                                      have BK475 := n4_
                                      have HO481 := n5_
                                      have HO488 := n6_
                                      have HO498 := n7_
                                      have HB := n8_
                                      have HO495 := n9_
                                      clear n0_ n1_ n2_ n3_ n4_ n5_ n6_ n7_ n8_ n9_
                                      clear ho hb hg hat
                                      refine hK.out _ _ ⟨(blk_cell BK472.out 0).trans rfl, (blk_cell BK472.out 1).trans rfl, (blk_cell BK472.out 2).trans rfl, (blk_cell BK472.out 3).trans rfl, (blk_cell BK472.out 4).trans rfl, (blk_cell BK472.out 5).trans rfl, (blk_cell BK472.out 6).trans rfl, (blk_cell BK461.out 0).trans rfl, (blk_cell BK461.out 1).trans rfl, (blk_cell BK462.out 0).trans rfl, (blk_cell BK462.out 1).trans rfl, (blk_cell BK475.out 0).trans rfl, (blk_cell BK475.out 1).trans rfl, (blk_cell BK475.out 2).trans rfl, (blk_cell BK475.out 3).trans rfl, (blk_cell BK475.out 4).trans rfl, (blk_cell BK475.out 5).trans rfl, (blk_cell BK475.out 6).trans rfl⟩ (fun hHeld => ?_)
                                      clear hK K
                                      refine norm_ (a' := ?_) ?_ ?_
                                      rotate_left
                                      · show Act.put _ (some 99) _ = _
                                        simp only [Act.put, List.setIfInBounds_toArray, List.set_cons_zero, List.set_cons_succ, i64_w, i32_w]
                                        rfl
                                      exact norm_ (by simp only [putAll, Act.put, List.setIfInBounds_toArray, List.set_cons_zero, List.set_cons_succ]) (hCont (v491, v494, v497) _ ⟨hHeld, (by (with_reducible repeat apply ru); exact Kd.R_mono HO481.out (fun _ hk => ⟨hk.1.2.1, ⟨hk.2, ⟨hk.1.2.2.1, ⟨hk.1.1, ⟨hk.1.2.2.2.1, hk.1.2.2.2.2⟩⟩⟩⟩⟩)), (by (with_reducible repeat apply ru); exact Kd.R_mono HO488.out (fun _ hk => ⟨hk.1.2.1, ⟨hk.2, ⟨hk.1.2.2.1, ⟨hk.1.1, ⟨hk.1.2.2.2.1, hk.1.2.2.2.2⟩⟩⟩⟩⟩)), (by (with_reducible repeat apply ru); exact Kd.R_mono HO495.out (fun _ hk => ⟨hk.2.1, ⟨hk.2.2.1, ⟨hk.2.2.2.1, ⟨hk.1, ⟨hk.2.2.2.2.1, hk.2.2.2.2.2⟩⟩⟩⟩⟩)), (by (with_reducible repeat apply ru); exact Kd.R_mono HO498.out (fun _ hk => ⟨hk.1.2.1, ⟨hk.1.2.2.1, ⟨hk.2, ⟨hk.1.1, ⟨hk.1.2.2.2.1, hk.1.2.2.2.2⟩⟩⟩⟩⟩)), (by (with_reducible repeat apply ru); exact Kd.R_mono HO_3.out (fun _ hk => ⟨hk.1.1, ⟨hk.1.2.1, ⟨hk.2, ⟨hk.1.2.2.1, ⟨hk.1.2.2.2.1, hk.1.2.2.2.2⟩⟩⟩⟩⟩)), (bk BK461), (bk BK462), (bk BK472), (bk BK475), (bl HB)⟩)
                                  rintro ⟨v491, v494, v497⟩ w103 ⟨hS_, h0_, h1_, h2_, h3_, h4_, h5_, h6_, h7_, h8_, h9_⟩
                                  have n0_ : Aside0 (Kd.R k24 24 w103 w.heap.size (fun k_ => some k_ ≠ (.slice Ao96 y486.length co96 : Value).ownBlock ∧ some k_ ≠ (v494 : Value).ownBlock ∧ some k_ ≠ (v497 : Value).ownBlock ∧ some k_ ≠ (.slice Ao14 t454.length co14 : Value).ownBlock ∧ k_ ≠ gb472 ∧ k_ ≠ gb475) (.slice Ao91 y479.length co91) y479) := ⟨h0_⟩
                                  have n1_ : Aside0 (Kd.R k24 24 w103 w.heap.size (fun k_ => some k_ ≠ (.slice Ao91 y479.length co91 : Value).ownBlock ∧ some k_ ≠ (v494 : Value).ownBlock ∧ some k_ ≠ (v497 : Value).ownBlock ∧ some k_ ≠ (.slice Ao14 t454.length co14 : Value).ownBlock ∧ k_ ≠ gb472 ∧ k_ ≠ gb475) (.slice Ao96 y486.length co96) y486) := ⟨h1_⟩
                                  have n2_ : Aside0 (Kd.R k24 24 w103 w.heap.size (fun k_ => some k_ ≠ (.slice Ao91 y479.length co91 : Value).ownBlock ∧ some k_ ≠ (.slice Ao96 y486.length co96 : Value).ownBlock ∧ some k_ ≠ (v497 : Value).ownBlock ∧ some k_ ≠ (.slice Ao14 t454.length co14 : Value).ownBlock ∧ k_ ≠ gb472 ∧ k_ ≠ gb475) v494 y493) := ⟨h2_⟩
                                  have n3_ : Aside0 (Kd.R k24 24 w103 w.heap.size (fun k_ => some k_ ≠ (.slice Ao91 y479.length co91 : Value).ownBlock ∧ some k_ ≠ (.slice Ao96 y486.length co96 : Value).ownBlock ∧ some k_ ≠ (v494 : Value).ownBlock ∧ some k_ ≠ (.slice Ao14 t454.length co14 : Value).ownBlock ∧ k_ ≠ gb472 ∧ k_ ≠ gb475) v497 y496) := ⟨h3_⟩
                                  have n4_ : Aside0 (Kd.R k24 24 w103 w.heap.size (fun k_ => some k_ ≠ (.slice Ao91 y479.length co91 : Value).ownBlock ∧ some k_ ≠ (.slice Ao96 y486.length co96 : Value).ownBlock ∧ some k_ ≠ (v494 : Value).ownBlock ∧ some k_ ≠ (v497 : Value).ownBlock ∧ k_ ≠ gb472 ∧ k_ ≠ gb475) (.slice Ao14 t454.length co14) t454) := ⟨h4_⟩
                                  have n5_ : Aside0 (w103.heap[gb461]? = some (.cells #[.int .i64 t457, .int .i64 t458] 29 (0, 0))) := ⟨h5_⟩
                                  have n6_ : Aside0 (w103.heap[gb462]? = some (.cells #[.int .i64 t459, .int .i64 t460] 29 (0, 0))) := ⟨h6_⟩
                                  have n7_ : Aside0 (w103.heap[gb472]? = some (.cells #[.bool false, .int .i64 t457, .int .i64 t457, .int .i64 t459, .int .i64 t459, .int .i64 t460, .int .i64 t460] 24 (0, 0))) := ⟨h7_⟩
                                  have n8_ : Aside0 (w103.heap[gb475]? = some (.cells #[.bool true, .int .i64 t457, .int .i64 t457, .int .i64 t459, .int .i64 t459, .int .i64 t460, .int .i64 t460] 24 (0, 0))) := ⟨h8_⟩
                                  have n9_ : Aside0 (Below w.heap.size w w103) := ⟨h9_⟩
                                  clear HO_3
                                  clear BK461
                                  clear BK462
                                  clear BK472
                                  clear BK475
                                  clear HB
                                  clear h0_ h1_ h2_ h3_ h4_ h5_ h6_ h7_ h8_ h9_
                                  have HO481 := n0_
                                  have HO488 := n1_
                                  have HO495 := n2_
                                  have HO498 := n3_
                                  have HO_3 := n4_
                                  have BK461 := n5_
                                  have BK462 := n6_
                                  have BK472 := n7_
                                  have BK475 := n8_
                                  have HB := n9_
                                  clear n0_ n1_ n2_ n3_ n4_ n5_ n6_ n7_ n8_ n9_
                                  have hHeld : w103.cell? ⟨gb472, 0, none⟩ = some (.bool false) ∧ w103.cell? ⟨gb472, 1, none⟩ = some (.int .i64 t457) ∧ w103.cell? ⟨gb472, 2, none⟩ = some (.int .i64 t457) ∧ w103.cell? ⟨gb472, 3, none⟩ = some (.int .i64 t459) ∧ w103.cell? ⟨gb472, 4, none⟩ = some (.int .i64 t459) ∧ w103.cell? ⟨gb472, 5, none⟩ = some (.int .i64 t460) ∧ w103.cell? ⟨gb472, 6, none⟩ = some (.int .i64 t460) ∧ w103.cell? ⟨gb461, 0, none⟩ = some (.int .i64 t457) ∧ w103.cell? ⟨gb461, 1, none⟩ = some (.int .i64 t458) ∧ w103.cell? ⟨gb462, 0, none⟩ = some (.int .i64 t459) ∧ w103.cell? ⟨gb462, 1, none⟩ = some (.int .i64 t460) ∧ w103.cell? ⟨gb475, 0, none⟩ = some (.bool true) ∧ w103.cell? ⟨gb475, 1, none⟩ = some (.int .i64 t457) ∧ w103.cell? ⟨gb475, 2, none⟩ = some (.int .i64 t457) ∧ w103.cell? ⟨gb475, 3, none⟩ = some (.int .i64 t459) ∧ w103.cell? ⟨gb475, 4, none⟩ = some (.int .i64 t459) ∧ w103.cell? ⟨gb475, 5, none⟩ = some (.int .i64 t460) ∧ w103.cell? ⟨gb475, 6, none⟩ = some (.int .i64 t460) := hS_
                                  obtain ⟨Ao105, co105, eo105⟩ := Kd.R_slice HO498.out
                                  (first | subst eo105 | (injection eo105 with f1_ f2_ f3_; have f4_ := f1_.symm; have f5_ := f3_.symm; clear f1_ f2_ f3_; subst f4_; subst f5_))
                                  refine norm_ (a' := ?_) ?_ ?_
                                  rotate_left
                                  · simp only [putAll, Act.put, List.setIfInBounds_toArray, List.set_cons_zero, List.set_cons_succ]
                                    rfl
                                  refine one_ (i := 23) (N := some 102) #[true, true, true, true, true, true, true, true, true, true, true, true, true, true, true, true, true, true, true, true, true, true, true, true, true, true, false, true, false, false, false] rfl rfl (one_of HT_.out (by kernel_rfl)) (by decide) (fun K hK => ?_)
                                  refine Kd.R_append_rows_step k24 (w0 := w) w.heap.size (by rfl) (.tmp 99) (.tmp 101) 31 24 (.agg #[(.bool false), (.int .i64 0), (.int .i64 0), (.int .i64 0), (.int .i64 0), (.int .i64 0), (.int .i64 0)]) 56 rfl Try.underlying31 info24 rfl (by decide) (by omega) v494 y493 y496 _ _ _ (fun k_ => some k_ ≠ (.slice Ao14 t454.length co14 : Value).ownBlock ∧ some k_ ≠ (.slice Ao91 y479.length co91 : Value).ownBlock ∧ some k_ ≠ (.slice Ao96 y486.length co96 : Value).ownBlock ∧ some k_ ≠ (.slice Ao105 y496.length co105 : Value).ownBlock ∧ k_ ≠ gb472 ∧ k_ ≠ gb475) (fun _ => False) rfl rfl ?aO ?aR (fun _ _ h => h) (fun _ h => h.elim) ?aF ?aB ?aS ?aL ?_
                                  (case aR => repeat (first | exact (Kd.R_reads' HO498.out).2.2 | (with_reducible refine Kd.C_alloc ?_ _) | (with_reducible refine Kd.C_drewN ?_ _) | (with_reducible refine Kd.C_drew ?_)))
                                  (case aB => exact (bl HB))
                                  (case aF => exact (fun k_ hk => ⟨Kd.fresh' (Kd.R_lt (rs HO_3)) k_ hk, Kd.fresh' (Kd.R_lt (rs HO481)) k_ hk, Kd.fresh' (Kd.R_lt (rs HO488)) k_ hk, Kd.fresh' (Kd.R_lt (rs HO498)) k_ hk, Kd.freshB (g := gb472) (o := .cells #[.bool false, .int .i64 t457, .int .i64 t457, .int .i64 t459, .int .i64 t459, .int .i64 t460, .int .i64 t460] 24 (0, 0)) (bk BK472) k_ hk, Kd.freshB (g := gb475) (o := .cells #[.bool true, .int .i64 t457, .int .i64 t457, .int .i64 t459, .int .i64 t459, .int .i64 t460, .int .i64 t460] 24 (0, 0)) (bk BK475) k_ hk⟩))
                                  (case aO => exact (by (with_reducible repeat apply ru); exact Kd.R_mono HO495.out (fun _ hk => ⟨hk.2.2.2.1, ⟨hk.1, ⟨hk.2.1, ⟨hk.2.2.1, ⟨hk.2.2.2.2.1, hk.2.2.2.2.2⟩⟩⟩⟩⟩)))
                                  (case aS => exact (below_size (bl HB)))
                                  (case aL => have := LMc76.out; omega)
                                  intro v500 w104 ho hb hg hat
                                  rw [← Ny499.out] at ho
                                  have n0_ := Aside0.mk (Kd.R_after (ok := (fun k_ => some k_ ≠ (.slice Ao91 y479.length co91 : Value).ownBlock ∧ some k_ ≠ (.slice Ao96 y486.length co96 : Value).ownBlock ∧ some k_ ≠ (.slice Ao105 y496.length co105 : Value).ownBlock ∧ k_ ≠ gb472 ∧ k_ ≠ gb475)) (by (with_reducible repeat apply ru); exact Kd.R_mono HO_3.out (fun _ hk => ⟨⟨hk.1, ⟨hk.2.1, ⟨hk.2.2.2.1, ⟨hk.2.2.2.2.1, hk.2.2.2.2.2⟩⟩⟩⟩, hk.2.2.1⟩)) hg hat)
                                  have n1_ := Aside0.mk (blk_grown (g := gb461) (o := .cells #[.int .i64 t457, .int .i64 t458] 29 (0, 0)) (bk BK461) hg (Kd.R_ne HO495.out BK461.out (by decide)))
                                  have n2_ := Aside0.mk (blk_grown (g := gb462) (o := .cells #[.int .i64 t459, .int .i64 t460] 29 (0, 0)) (bk BK462) hg (Kd.R_ne HO495.out BK462.out (by decide)))
                                  have n3_ := Aside0.mk (blk_grown (g := gb472) (o := .cells #[.bool false, .int .i64 t457, .int .i64 t457, .int .i64 t459, .int .i64 t459, .int .i64 t460, .int .i64 t460] 24 (0, 0)) (bk BK472) hg (Kd.R_away HO495.out (fun _ hk => hk.2.2.2.2.1)))
                                  have n4_ := Aside0.mk (blk_grown (g := gb475) (o := .cells #[.bool true, .int .i64 t457, .int .i64 t457, .int .i64 t459, .int .i64 t459, .int .i64 t460, .int .i64 t460] 24 (0, 0)) (bk BK475) hg (Kd.R_away HO495.out (fun _ hk => hk.2.2.2.2.2)))
                                  have n5_ := Aside0.mk (Kd.R_after (ok := (fun k_ => some k_ ≠ (.slice Ao14 t454.length co14 : Value).ownBlock ∧ some k_ ≠ (.slice Ao96 y486.length co96 : Value).ownBlock ∧ some k_ ≠ (.slice Ao105 y496.length co105 : Value).ownBlock ∧ k_ ≠ gb472 ∧ k_ ≠ gb475)) (by (with_reducible repeat apply ru); exact Kd.R_mono HO481.out (fun _ hk => ⟨⟨hk.2.2.2.1, ⟨hk.1, ⟨hk.2.2.1, ⟨hk.2.2.2.2.1, hk.2.2.2.2.2⟩⟩⟩⟩, hk.2.1⟩)) hg hat)
                                  have n6_ := Aside0.mk (Kd.R_after (ok := (fun k_ => some k_ ≠ (.slice Ao14 t454.length co14 : Value).ownBlock ∧ some k_ ≠ (.slice Ao91 y479.length co91 : Value).ownBlock ∧ some k_ ≠ (.slice Ao105 y496.length co105 : Value).ownBlock ∧ k_ ≠ gb472 ∧ k_ ≠ gb475)) (by (with_reducible repeat apply ru); exact Kd.R_mono HO488.out (fun _ hk => ⟨⟨hk.2.2.2.1, ⟨hk.1, ⟨hk.2.2.1, ⟨hk.2.2.2.2.1, hk.2.2.2.2.2⟩⟩⟩⟩, hk.2.1⟩)) hg hat)
                                  have n7_ := Aside0.mk (Kd.R_after (ok := (fun k_ => some k_ ≠ (.slice Ao14 t454.length co14 : Value).ownBlock ∧ some k_ ≠ (.slice Ao91 y479.length co91 : Value).ownBlock ∧ some k_ ≠ (.slice Ao96 y486.length co96 : Value).ownBlock ∧ k_ ≠ gb472 ∧ k_ ≠ gb475)) (by (with_reducible repeat apply ru); exact Kd.R_mono HO498.out (fun _ hk => ⟨⟨hk.2.2.2.1, ⟨hk.1, ⟨hk.2.1, ⟨hk.2.2.2.2.1, hk.2.2.2.2.2⟩⟩⟩⟩, hk.2.2.1⟩)) hg hat)
                                  have n8_ := Aside0.mk (hb)
                                  have n9_ := Aside0.mk (ho)
                                  clear HO_3
                                  clear BK461
                                  clear BK462
                                  clear BK472
                                  clear BK475
                                  clear HO481
                                  clear HO488
                                  clear HO498
                                  clear HB
                                  clear HO495
                                  have HO_3 := n0_
                                  have BK461 := n1_
                                  have BK462 := n2_
                                  have BK472 := n3_
                                  have BK475 := n4_
                                  have HO481 := n5_
                                  have HO488 := n6_
                                  have HO498 := n7_
                                  have HB := n8_
                                  have HO501 := n9_
                                  clear n0_ n1_ n2_ n3_ n4_ n5_ n6_ n7_ n8_ n9_
                                  clear ho hb hg hat
                                  obtain ⟨Ao106, co106, eo106⟩ := Kd.R_slice HO501.out
                                  (first | subst eo106 | (injection eo106 with f1_ f2_ f3_; have f4_ := f1_.symm; have f5_ := f3_.symm; clear f1_ f2_ f3_; subst f4_; subst f5_))
                                  refine hK.out _ _ ⟨(blk_cell BK472.out 0).trans rfl, (blk_cell BK472.out 1).trans rfl, (blk_cell BK472.out 2).trans rfl, (blk_cell BK472.out 3).trans rfl, (blk_cell BK472.out 4).trans rfl, (blk_cell BK472.out 5).trans rfl, (blk_cell BK472.out 6).trans rfl, (blk_cell BK461.out 0).trans rfl, (blk_cell BK461.out 1).trans rfl, (blk_cell BK462.out 0).trans rfl, (blk_cell BK462.out 1).trans rfl, (blk_cell BK475.out 0).trans rfl, (blk_cell BK475.out 1).trans rfl, (blk_cell BK475.out 2).trans rfl, (blk_cell BK475.out 3).trans rfl, (blk_cell BK475.out 4).trans rfl, (blk_cell BK475.out 5).trans rfl, (blk_cell BK475.out 6).trans rfl⟩ (fun hHeld => ?_)
                                  clear hK K
                                  refine norm_ (a' := ?_) ?_ ?_
                                  rotate_left
                                  · show Act.put _ (some 102) _ = _
                                    simp only [Act.put, List.setIfInBounds_toArray, List.set_cons_zero, List.set_cons_succ, i64_w, i32_w]
                                    rfl
                                  refine one_ (i := 26) (N := some 105) #[true, true, true, true, true, true, true, true, true, true, true, true, true, true, true, true, true, true, true, true, true, true, true, true, true, true, true, true, false, false, false] rfl rfl (one_of HT_.out (by kernel_rfl)) (by decide) (fun K hK => ?_)
                                  refine goes_ Try.func15 (by kernel_rfl) rfl #[.slice Ao106 y499.length co106, .agg #[.int .i64 t457, .int .i64 t458], .agg #[.int .i64 t459, .int .i64 t460]] (by rfl) rfl rfl (by (try simp only [List.map_toArray, List.map_cons, List.map_nil]); first | done | rfl | (simp only [List.length_drop, List.length_take]; rfl)) ?_
                                  with_reducible refine (impl_RulMay.calls _ _ y499 t457 t458 t459 t460 t502 _ ?side1 ?side2 A77.out).mono ?_
                                  (case side1 => repeat (first | exact (Kd.R_reads' HO501.out).2.2 | (with_reducible refine Kd.C_alloc ?_ _) | (with_reducible refine Kd.C_drewN ?_ _) | (with_reducible refine Kd.C_drew ?_)))
                                  (case side2 => exact (Kd.R_reads' HO501.out).2.1)
                                  rintro e w107 ⟨rfl, hb⟩
                                  refine ⟨_, rfl, ?_⟩
                                  have n0_ := Aside0.mk (Kd.R_below (rs HO_3) hb)
                                  have n1_ := Aside0.mk (Kd.R_below (rs HO481) hb)
                                  have n2_ := Aside0.mk (Kd.R_below (rs HO488) hb)
                                  have n3_ := Aside0.mk (Kd.R_below (rs HO498) hb)
                                  have n4_ := Aside0.mk (Kd.R_below (rs HO501) hb)
                                  have n5_ := bkB BK461 hb
                                  have n6_ := bkB BK462 hb
                                  have n7_ := bkB BK472 hb
                                  have n8_ := bkB BK475 hb
                                  have n9_ := Aside0.mk (below_step (bl HB) hb)
                                  clear HO_3
                                  clear HO481
                                  clear HO488
                                  clear HO498
                                  clear HO501
                                  clear BK461
                                  clear BK462
                                  clear BK472
                                  clear BK475
                                  clear HB
                                  have HO_3 := n0_
                                  have HO481 := n1_
                                  have HO488 := n2_
                                  have HO498 := n3_
                                  have HO501 := n4_
                                  have BK461 := n5_
                                  have BK462 := n6_
                                  have BK472 := n7_
                                  have BK475 := n8_
                                  have HB := n9_
                                  clear n0_ n1_ n2_ n3_ n4_ n5_ n6_ n7_ n8_ n9_
                                  (try clear hb)
                                  (try clear hb2)
                                  (try clear hk)
                                  (try clear hi)
                                  refine hK.out _ _ ⟨(blk_cell BK472.out 0).trans rfl, (blk_cell BK472.out 1).trans rfl, (blk_cell BK472.out 2).trans rfl, (blk_cell BK472.out 3).trans rfl, (blk_cell BK472.out 4).trans rfl, (blk_cell BK472.out 5).trans rfl, (blk_cell BK472.out 6).trans rfl, (blk_cell BK461.out 0).trans rfl, (blk_cell BK461.out 1).trans rfl, (blk_cell BK462.out 0).trans rfl, (blk_cell BK462.out 1).trans rfl, (blk_cell BK475.out 0).trans rfl, (blk_cell BK475.out 1).trans rfl, (blk_cell BK475.out 2).trans rfl, (blk_cell BK475.out 3).trans rfl, (blk_cell BK475.out 4).trans rfl, (blk_cell BK475.out 5).trans rfl, (blk_cell BK475.out 6).trans rfl⟩ (fun hHeld => ?_)
                                  clear hK K
                                  refine norm_ (a' := ?_) ?_ ?_
                                  rotate_left
                                  · show Act.put _ (some 105) _ = _
                                    simp only [Act.put, List.setIfInBounds_toArray, List.set_cons_zero, List.set_cons_succ, i64_w, i32_w]
                                    rfl
                                  refine pure_ (i := 28) (N := some 107) (v := ?_) (a' := ?_) #[true, true, true, true, true, true, true, true, true, true, true, true, true, true, true, true, true, true, true, true, true, true, true, true, true, true, true, true, true, false, false] rfl rfl (any_of HT_.out (by kernel_rfl)) (fun _ _ _ h => h) (Or.inl ⟨by rfl, ?_⟩) ?_ ?_
                                  rotate_left
                                  · intro w'
                                    go_simp
                                    with_reducible rfl
                                  rotate_left
                                  · simp only [Act.put, List.setIfInBounds_toArray, List.set_cons_zero, List.set_cons_succ, i64_w, i32_w]
                                    rfl
                                  refine pure_ (i := 29) (N := some 108) (v := ?_) (a' := ?_) #[true, true, true, true, true, true, true, true, true, true, true, true, true, true, true, true, true, true, true, true, true, true, true, true, true, true, true, true, true, true, false] rfl rfl (any_of HT_.out (by kernel_rfl)) (fun _ _ _ h => h) (Or.inl ⟨by rfl, ?_⟩) ?_ ?_
                                  rotate_left
                                  · intro w'
                                    go_simp
                                    with_reducible rfl
                                  rotate_left
                                  · simp only [Act.put, List.setIfInBounds_toArray, List.set_cons_zero, List.set_cons_succ, i64_w, i32_w]
                                    rfl
                                  refine pure_ (i := 30) (N := some 2) (v := ?_) (a' := ?_) #[true, true, true, true, true, true, true, true, true, true, true, true, true, true, true, true, true, true, true, true, true, true, true, true, true, true, true, true, true, true, true] rfl rfl (any_of HT_.out (by kernel_rfl)) (fun _ _ _ h => h) (Or.inl ⟨by rfl, ?_⟩) ?_ ?_
                                  rotate_left
                                  · intro w'
                                    go_simp
                                    with_reducible rfl
                                  rotate_left
                                  · simp only [Act.put, List.setIfInBounds_toArray, List.set_cons_zero, List.set_cons_succ, i64_w, i32_w]
                                    rfl
                                  refine done_ (done_of HT_.out (by kernel_rfl)) ?_
                                  try go_wp2
                                  go_ret
                                  exact ⟨by first | rfl | (simp [errW_none, errW_some] <;> rfl) | (simp [*, errW_none, errW_some] <;> rfl), by repeat (first | (with_reducible first | exact HB.out | apply below_alloc | apply pw_below_drewN | apply below_drew1 | refine below_set ?_ GE461.out | refine below_set ?_ GE462.out | refine below_set ?_ GE472.out | refine below_set ?_ GE475.out) | exact HB.out)⟩
                                · rw [if_neg c76] at H
                                  exact absurd H (by simp)
                              · rw [if_neg c75] at H
                                exact absurd H (by simp)
                            · replace c74 := Bool.eq_false_iff.mpr c74
                              subst c74
                              have H1 : (some false) = some r := by rw [if_neg (show ¬ (false = true) by decide)] at H; exact H
                              clear H
                              have H := H1
                              clear H1
                              exact absurd ((Option.some.inj H).trans hrt.out) (by decide)
                          · rw [if_neg c72] at H
                            exact absurd H (by simp)
                      · rw [if_neg c69] at H
                        exact absurd H (by simp)
            · replace c35 := Bool.eq_false_iff.mpr c35
              subst c35
              have H1 : (some false) = some r := by rw [if_neg (show ¬ (false = true) by decide)] at H; exact H
              clear H
              have H := H1
              clear H1
              exact absurd ((Option.some.inj H).trans hrt.out) (by decide)

/-- THE ONE PURE STATEMENT of laws_FnRulMay: yours. -/
def laws_FnRulMay.Pure : Prop := ∀ (l0 : List Int), l0.length ≤ maxLen → l0.length * 1 ≤ 140737488351232 → (∀ x ∈ l0, (Lit.int .u8 x).wf = true) → ∃ k, laws_FnRulMay.f k l0 = some true
theorem laws_FnRulMay.walk (P : laws_FnRulMay.Pure) (a0 : Option Addr) (len0 cap0 : Nat) (z0 : List Int) (w : World) (w0 : (a0 = none ∧ len0 = 0 ∧ cap0 = 0 ∧ z0 = []) ∨ ∃ x, a0 = some x ∧ len0 ≤ cap0 ∧ cap0 ≤ maxLen ∧ z0.length = cap0 ∧ (∀ i, i < z0.length → w.cell? (x.add i) = some (.int .u8 (z0.getD i 0))) ∧ ∀ n ∈ z0, (Lit.int .u8 n).wf = true) (y0 : len0 * 1 ≤ 140737488351232) :
    Calls Try.prog 6 #[.slice a0 len0 cap0] w fun e w' => e = .returned (.bool true) ∧ Below w.heap.size w w' := by
  obtain ⟨l0, rfl, hr0, hm0, hw0, hc0⟩ := ReadsInt.ofRowC w0
  obtain ⟨k, h⟩ := P l0 hm0 y0 hw0
  refine (laws_FnRulMay.calls k _ _ l0 true w (Kd.C_of_reads (d := (0 : Int)) (h1 := fun _ => rfl) hr0) hc0 h ⟨rfl⟩).mono ?_
  rintro e w' ⟨rfl, hd⟩
  exact ⟨rfl, hd⟩

end Go.Proofs.Ytiocgkggegahhaa.P
