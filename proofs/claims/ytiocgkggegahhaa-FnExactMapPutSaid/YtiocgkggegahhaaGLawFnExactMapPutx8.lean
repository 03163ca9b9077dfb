import Derived.Test.YtiocgkggegahhaaGLawFnExactMapPutx7
-- written by hw.py for this claim
namespace Go.Proofs.Ytiocgkggegahhaa.P
open Go.RowKit Go.Proofs.YtiocgkggegahhaaUFnExactMapPut.PrintWords Go.Proofs.YtiocgkggegahhaaUFnExactMapPut.PrintLast Go.Proofs.YtiocgkggegahhaaUFnExactMapPut.PrintMore
attribute [local go_sem] max2_int min2_int max_two min_two max_three min_three max_four min_four
set_option linter.unusedVariables false
set_option linter.unusedSimpArgs false

/-! ### laws_FnExactMapPut: function 8 -/
mutual
def laws_FnExactMapPut.j0 : Nat → Int → Int → Bool → List (S34) → Int → Int → List (S29) → List (S29) → List (S29) → Option (Bool)
  | 0, _, _, _, _, _, _, _, _, _ => none
  | k + 1, x7, x10, x46, x738000, x739000, x739001, x750000, x754000, x761000 => if x46 = true then (some false) else ((laws_toMapTab.f k x738000).bind fun t762 => ((laws_eqMapTab.f k x754000 t762).bind fun t765 => (if t765 = true then ((laws_markMapTab.f k x754000 1).bind fun bt766 => (if bt766.1 < 0 then (laws_FnExactMapPut.j1 k x7 true x738000 x739000 x739001 x750000 x761000) else ((laws_eqMapTab.f k x761000 x750000).bind fun t768 => (if t768 = true then (laws_FnExactMapPut.j1 k x7 (x10 != x7) x738000 x739000 x739001 x750000 x761000) else (laws_FnExactMapPut.j1 k x7 true x738000 x739000 x739001 x750000 x761000))))) else (some false))))
def laws_FnExactMapPut.j1 : Nat → Int → Bool → List (S34) → Int → Int → List (S29) → List (S29) → Option (Bool)
  | 0, _, _, _, _, _, _, _ => none
  | k + 1, x7, x67, x738000, x739000, x739001, x750000, x761000 => if x67 = true then (some false) else ((laws_markMapTab.f k x761000 1).bind fun bt769 => ((laws_heldMapTab.f k bt769.2 1).bind fun t771 => (if t771 < 0 then (some false) else (if t771 = bt769.1 then ((laws_toMapTab.f k x738000).bind fun t772 => ((laws_toEndPoint.f x739000 x739001).bind fun bt775 => ((impl_MapPut.f k t772 bt775.1 bt775.2).bind fun bt777 => ((laws_eqMapTab.f k bt777.1 x750000).bind fun t782 => (if t782 = true then (laws_FnExactMapPut.j2 k bt769.1 (bt777.2 != x7) bt769.2) else (laws_FnExactMapPut.j2 k bt769.1 true bt769.2)))))) else (some false)))))
def laws_FnExactMapPut.j2 : Nat → Int → Bool → List (S29) → Option (Bool)
  | 0, _, _, _ => none
  | k + 1, x12, x95, x761000 => if x95 = true then (some false) else ((laws_heldMapTab.f k x761000 1).bind fun t783 => (if t783 < 0 then (some false) else (if t783 = x12 then (some true) else (some false))))
end
def laws_FnExactMapPut.f (k : Nat) (l0_0 : List (S34)) (a1_0 : Int) (a1_1 : Int) : Option (Bool) := (laws_szMapTab.f l0_0 1048576).bind fun t739 => (if t739 < 0 then (some true) else ((laws_toMapTab.f k l0_0).bind fun t740 => ((laws_toEndPoint.f a1_0 a1_1).bind fun bt743 => ((spec_MapPut.f k t740 bt743.1 bt743.2).bind fun bt745 => ((laws_toMapTab.f k l0_0).bind fun t750 => ((laws_toEndPoint.f a1_0 a1_1).bind fun bt754 => ((impl_MapPut.f k t750 bt754.1 bt754.2).bind fun bt756 => ((laws_eqMapTab.f k bt756.1 bt745.1).bind fun t761 => (if t761 = true then (laws_FnExactMapPut.j0 k bt745.2 bt756.2 (bt756.2 != bt745.2) l0_0 a1_0 a1_1 bt745.1 t750 bt756.1) else (laws_FnExactMapPut.j0 k bt745.2 bt756.2 true l0_0 a1_0 a1_1 bt745.1 t750 bt756.1))))))))))
theorem laws_FnExactMapPut.mono_l : ∀ k, (∀ y0 y1 y2 y3 y4 y5 y6 y7 y8, LeO (laws_FnExactMapPut.j0 k y0 y1 y2 y3 y4 y5 y6 y7 y8) (laws_FnExactMapPut.j0 (k + 1) y0 y1 y2 y3 y4 y5 y6 y7 y8)) ∧ (∀ y0 y1 y2 y3 y4 y5 y6, LeO (laws_FnExactMapPut.j1 k y0 y1 y2 y3 y4 y5 y6) (laws_FnExactMapPut.j1 (k + 1) y0 y1 y2 y3 y4 y5 y6)) ∧ (∀ y0 y1 y2, LeO (laws_FnExactMapPut.j2 k y0 y1 y2) (laws_FnExactMapPut.j2 (k + 1) y0 y1 y2))
  | 0 => ⟨fun _ _ _ _ _ _ _ _ _ r h => by simp [laws_FnExactMapPut.j0] at h, fun _ _ _ _ _ _ _ r h => by simp [laws_FnExactMapPut.j1] at h, fun _ _ _ r h => by simp [laws_FnExactMapPut.j2] at h⟩
  | k + 1 => by
    obtain ⟨ih0, ih1, ih2⟩ := laws_FnExactMapPut.mono_l k
    refine ⟨?_, ?_, ?_⟩
    · intro y0 y1 y2 y3 y4 y5 y6 y7 y8
      unfold laws_FnExactMapPut.j0
      repeat' first
      | (with_reducible exact ih0 _ _ _ _ _ _ _ _ _)
      | (with_reducible exact ih1 _ _ _ _ _ _ _)
      | (with_reducible exact ih2 _ _ _)
      | (with_reducible exact impl_MapPut.mono _ _ _ _)
      | (with_reducible exact laws_eqMapTab.mono _ _ _)
      | (with_reducible exact laws_heldMapTab.mono _ _ _)
      | (with_reducible exact laws_markMapTab.mono _ _ _)
      | (with_reducible exact laws_toMapTab.mono _ _)
      | (with_reducible exact spec_MapPut.mono _ _ _ _)
      | (with_reducible exact LeO.refl _)
      | (with_reducible exact LeO.none _)
      | (with_reducible refine LeO.ite ?_ ?_)
      | (with_reducible refine LeO.bind ?_ (fun _ => ?_))
      | exact ih0 _ _ _ _ _ _ _ _ _
      | exact ih1 _ _ _ _ _ _ _
      | exact ih2 _ _ _
      | exact impl_MapPut.mono _ _ _ _
      | exact laws_eqMapTab.mono _ _ _
      | exact laws_heldMapTab.mono _ _ _
      | exact laws_markMapTab.mono _ _ _
      | exact laws_toMapTab.mono _ _
      | exact spec_MapPut.mono _ _ _ _
      | exact LeO.none _
      | refine LeO.ite ?_ ?_
      | refine LeO.bind ?_ (fun _ => ?_)
    · intro y0 y1 y2 y3 y4 y5 y6
      unfold laws_FnExactMapPut.j1
      repeat' first
      | (with_reducible exact ih0 _ _ _ _ _ _ _ _ _)
      | (with_reducible exact ih1 _ _ _ _ _ _ _)
      | (with_reducible exact ih2 _ _ _)
      | (with_reducible exact impl_MapPut.mono _ _ _ _)
      | (with_reducible exact laws_eqMapTab.mono _ _ _)
      | (with_reducible exact laws_heldMapTab.mono _ _ _)
      | (with_reducible exact laws_markMapTab.mono _ _ _)
      | (with_reducible exact laws_toMapTab.mono _ _)
      | (with_reducible exact spec_MapPut.mono _ _ _ _)
      | (with_reducible exact LeO.refl _)
      | (with_reducible exact LeO.none _)
      | (with_reducible refine LeO.ite ?_ ?_)
      | (with_reducible refine LeO.bind ?_ (fun _ => ?_))
      | exact ih0 _ _ _ _ _ _ _ _ _
      | exact ih1 _ _ _ _ _ _ _
      | exact ih2 _ _ _
      | exact impl_MapPut.mono _ _ _ _
      | exact laws_eqMapTab.mono _ _ _
      | exact laws_heldMapTab.mono _ _ _
      | exact laws_markMapTab.mono _ _ _
      | exact laws_toMapTab.mono _ _
      | exact spec_MapPut.mono _ _ _ _
      | exact LeO.none _
      | refine LeO.ite ?_ ?_
      | refine LeO.bind ?_ (fun _ => ?_)
    · intro y0 y1 y2
      unfold laws_FnExactMapPut.j2
      repeat' first
      | (with_reducible exact ih0 _ _ _ _ _ _ _ _ _)
      | (with_reducible exact ih1 _ _ _ _ _ _ _)
      | (with_reducible exact ih2 _ _ _)
      | (with_reducible exact impl_MapPut.mono _ _ _ _)
      | (with_reducible exact laws_eqMapTab.mono _ _ _)
      | (with_reducible exact laws_heldMapTab.mono _ _ _)
      | (with_reducible exact laws_markMapTab.mono _ _ _)
      | (with_reducible exact laws_toMapTab.mono _ _)
      | (with_reducible exact spec_MapPut.mono _ _ _ _)
      | (with_reducible exact LeO.refl _)
      | (with_reducible exact LeO.none _)
      | (with_reducible refine LeO.ite ?_ ?_)
      | (with_reducible refine LeO.bind ?_ (fun _ => ?_))
      | exact ih0 _ _ _ _ _ _ _ _ _
      | exact ih1 _ _ _ _ _ _ _
      | exact ih2 _ _ _
      | exact impl_MapPut.mono _ _ _ _
      | exact laws_eqMapTab.mono _ _ _
      | exact laws_heldMapTab.mono _ _ _
      | exact laws_markMapTab.mono _ _ _
      | exact laws_toMapTab.mono _ _
      | exact spec_MapPut.mono _ _ _ _
      | exact LeO.none _
      | refine LeO.ite ?_ ?_
      | refine LeO.bind ?_ (fun _ => ?_)
theorem laws_FnExactMapPut.mono : ∀ a0 a1 a2 k, LeO (laws_FnExactMapPut.f k a0 a1 a2) (laws_FnExactMapPut.f (k + 1) a0 a1 a2) := by
  intro a0 a1 a2 k
  obtain ⟨ih0, ih1, ih2⟩ := laws_FnExactMapPut.mono_l k
  unfold laws_FnExactMapPut.f
  repeat' first
      | (with_reducible exact ih0 _ _ _ _ _ _ _ _ _)
      | (with_reducible exact ih1 _ _ _ _ _ _ _)
      | (with_reducible exact ih2 _ _ _)
      | (with_reducible exact impl_MapPut.mono _ _ _ _)
      | (with_reducible exact laws_eqMapTab.mono _ _ _)
      | (with_reducible exact laws_heldMapTab.mono _ _ _)
      | (with_reducible exact laws_markMapTab.mono _ _ _)
      | (with_reducible exact laws_toMapTab.mono _ _)
      | (with_reducible exact spec_MapPut.mono _ _ _ _)
      | (with_reducible exact LeO.refl _)
      | (with_reducible exact LeO.none _)
      | (with_reducible refine LeO.ite ?_ ?_)
      | (with_reducible refine LeO.bind ?_ (fun _ => ?_))
      | exact ih0 _ _ _ _ _ _ _ _ _
      | exact ih1 _ _ _ _ _ _ _
      | exact ih2 _ _ _
      | exact impl_MapPut.mono _ _ _ _
      | exact laws_eqMapTab.mono _ _ _
      | exact laws_heldMapTab.mono _ _ _
      | exact laws_markMapTab.mono _ _ _
      | exact laws_toMapTab.mono _ _
      | exact spec_MapPut.mono _ _ _ _
      | exact LeO.none _
      | refine LeO.ite ?_ ?_
      | refine LeO.bind ?_ (fun _ => ?_)
def laws_FnExactMapPut.T5 : Bool × List (List Nat × List Nat) := (true, [([], []), ([0], [0]), ([], []), ([2, 1], [2]), ([1, 3, 3], [1, 3]), ([4], [4]), ([5], [5]), ([5], [5]), ([], []), ([8, 6, 4, 0, 1, 2, 3, 4, 5, 6, 8], [6, 8]), ([7, 9, 0, 1, 2, 3, 4, 5, 6, 7, 8, 9], [7])])
def laws_FnExactMapPut.B5 : List Nat := [0, 1, 0, 7, 15, 31, 63, 63, 0, 383, 1023]
theorem laws_FnExactMapPut.tab5 : rtab .any (opsOf Try.f8 5) = laws_FnExactMapPut.T5 := by kernel_rfl
theorem laws_FnExactMapPut.bits5 : waitsOk laws_FnExactMapPut.T5.2 laws_FnExactMapPut.B5 = true := by kernel_rfl
def laws_FnExactMapPut.T7 : Bool × List (List Nat × List Nat) := (true, [([], []), ([], []), ([1], [1]), ([0, 2, 2], [0, 2]), ([3], [3]), ([4], [4]), ([4], [4]), ([], []), ([7, 5, 3, 0, 1, 2, 3, 4, 5, 7], [5, 7]), ([6, 8, 0, 1, 2, 3, 4, 5, 6, 7, 8], [6])])
def laws_FnExactMapPut.B7 : List Nat := [0, 0, 2, 7, 15, 31, 31, 0, 191, 511]
theorem laws_FnExactMapPut.tab7 : rtab .any (opsOf Try.f8 7) = laws_FnExactMapPut.T7 := by kernel_rfl
theorem laws_FnExactMapPut.bits7 : waitsOk laws_FnExactMapPut.T7.2 laws_FnExactMapPut.B7 = true := by kernel_rfl
def laws_FnExactMapPut.T24 : Bool × List (List Nat × List Nat) := (true, [([], []), ([0], [0]), ([], []), ([2, 1], [2]), ([1, 3, 3], [1, 3]), ([4], [4]), ([5], [5]), ([5], [5]), ([], []), ([8, 6, 4, 0, 1, 2, 3, 4, 5, 6, 8], [6, 8]), ([7, 9, 0, 1, 2, 3, 4, 5, 6, 7, 8, 9], [7])])
def laws_FnExactMapPut.B24 : List Nat := [0, 1, 0, 7, 15, 31, 63, 63, 0, 383, 1023]
theorem laws_FnExactMapPut.tab24 : rtab .any (opsOf Try.f8 24) = laws_FnExactMapPut.T24 := by kernel_rfl
theorem laws_FnExactMapPut.bits24 : waitsOk laws_FnExactMapPut.T24.2 laws_FnExactMapPut.B24 = true := by kernel_rfl
set_option maxHeartbeats 8000000 in
set_option maxRecDepth 100000 in
theorem laws_FnExactMapPut.calls (k : Nat) (A0_0 : Option Addr) (c0_0 : Nat) (l0_0 : List (S34)) (a1_0 : Int) (a1_1 : Int) (r : Bool) (w : World) (hr0_0 : Kd.C k34 w A0_0 l0_0.length l0_0) (hc0_0 : l0_0.length ≤ c0_0) (h : laws_FnExactMapPut.f k l0_0 a1_0 a1_1 = some r) (hrt : Aside0 (r = true)) :
    Calls Try.prog 8 #[.agg #[.slice A0_0 l0_0.length c0_0], .agg #[.int .i64 a1_0, .int .i64 a1_1]] w fun e w' => e = .returned (.bool r) ∧ Below w.heap.size w w' := by
  have hu55 := Try.underlying55
  have hu34 := Try.underlying34
  have hu45 := Try.underlying45
  have HR0_0 := Aside0.mk hr0_0
  have HC0_0 := Aside0.mk hc0_0
  clear hr0_0 hc0_0
  have HB := Aside0.mk (Below.refl w.heap.size w)
  have H : ((laws_szMapTab.f l0_0 1048576).bind fun t739 => (if t739 < 0 then (some true) else ((laws_toMapTab.f k l0_0).bind fun t740 => ((laws_toEndPoint.f a1_0 a1_1).bind fun bt743 => ((spec_MapPut.f k t740 bt743.1 bt743.2).bind fun bt745 => ((laws_toMapTab.f k l0_0).bind fun t750 => ((laws_toEndPoint.f a1_0 a1_1).bind fun bt754 => ((impl_MapPut.f k t750 bt754.1 bt754.2).bind fun bt756 => ((laws_eqMapTab.f k bt756.1 bt745.1).bind fun t761 => (if t761 = true then (laws_FnExactMapPut.j0 k bt745.2 bt756.2 (bt756.2 != bt745.2) l0_0 a1_0 a1_1 bt745.1 t750 bt756.1) else (laws_FnExactMapPut.j0 k bt745.2 bt756.2 true l0_0 a1_0 a1_1 bt745.1 t750 bt756.1))))))))))) = some r := h
  clear h
  replace H := Option.bind_eq_some_iff.mp H
  obtain ⟨t739, A30, H⟩ := H
  replace H : (if t739 < 0 then (some true) else ((laws_toMapTab.f k l0_0).bind fun t740 => ((laws_toEndPoint.f a1_0 a1_1).bind fun bt743 => ((spec_MapPut.f k t740 bt743.1 bt743.2).bind fun bt745 => ((laws_toMapTab.f k l0_0).bind fun t750 => ((laws_toEndPoint.f a1_0 a1_1).bind fun bt754 => ((impl_MapPut.f k t750 bt754.1 bt754.2).bind fun bt756 => ((laws_eqMapTab.f k bt756.1 bt745.1).bind fun t761 => (if t761 = true then (laws_FnExactMapPut.j0 k bt745.2 bt756.2 (bt756.2 != bt745.2) l0_0 a1_0 a1_1 bt745.1 t750 bt756.1) else (laws_FnExactMapPut.j0 k bt745.2 bt756.2 true l0_0 a1_0 a1_1 bt745.1 t750 bt756.1)))))))))) = some r := H
  have A3 := Aside0.mk A30
  clear A30
  by_cases c4 : t739 < 0
  · rw [if_pos c4] at H
    have c4b0 : decide (t739 < 0) = true := decide_eq_true c4
    clear c4
    obtain rfl := Option.some.inj H
    go_enter Try.func8, Try.ntmps8
    go_wp2_with (first | ((with_reducible refine gate_dst (N := 2) rfl ?_); refine box_event ?hg (N := 2) ?hd (cs := #[.slice A0_0 l0_0.length c0_0]) (t := 55) ?hr ?_; (case hd => rfl); (case hg => rfl); (case hr => first | (go_simp; done) | (go_simp; rfl)); intro gb737 hg w5 hbox hb; have n0_ := Aside0.mk (below_step (bl HB) hb); have n1_ := Aside0.mk (hbox); have n2_ := Aside0.mk ((by rw [hg]; exact (below_size (bl HB)) : w.heap.size ≤ gb737)); have n3_ := Aside0.mk ((by rw [hg]; exact (below_size (bl HB)) : w.heap.size ≤ gb737)); clear HB; have HB := n0_; have BK737 := n1_; have GW737 := n2_; have GE737 := n3_; clear n0_ n1_ n2_ n3_; clear hb hbox hg) | ((with_reducible refine gate_dst (N := 3) rfl ?_); refine box_event ?hg (N := 3) ?hd (cs := #[.int .i64 a1_0, .int .i64 a1_1]) (t := 34) ?hr ?_; (case hd => rfl); (case hg => rfl); (case hr => first | (go_simp; done) | (go_simp; rfl)); intro gb738 hg w6 hbox hb; have n0_ := bkB BK737 hb; have n1_ := Aside0.mk (below_step (bl HB) hb); have n2_ := Aside0.mk (hbox); have n3_ := Aside0.mk ((by rw [hg]; exact (below_size (bl HB)) : w.heap.size ≤ gb738)); have n4_ := Aside0.mk ((by rw [hg]; exact (below_size (bl HB)) : w.heap.size ≤ gb738)); have n5_ := Aside0.mk ((by rw [hg]; exact Nat.ne_of_lt (bkL BK737) : gb737 ≠ gb738)); have n6_ := Aside0.mk ((by rw [hg]; exact Nat.ne_of_gt (bkL BK737) : gb738 ≠ gb737)); clear BK737; clear HB; have BK737 := n0_; have HB := n1_; have BK738 := n2_; have GW738 := n3_; have GE738 := n4_; have NB737_738 := n5_; have NB738_737 := n6_; clear n0_ n1_ n2_ n3_ n4_ n5_ n6_; clear hb hbox hg; have hnb7 := NB737_738.out; have hnc7 := NB738_737.out; have hcz8_0 : w6.cell? ⟨gb737, 0, none⟩ = some (.slice A0_0 l0_0.length c0_0) := (blk_cell BK737.out 0).trans rfl; have hfz8_0 := blk_frozen BK737.out 0) | ((with_reducible refine gate_callee (f := 28) rfl ?_); refine goesL_ (some 18) rfl rfl Try.func28 (by kernel_rfl) rfl #[.agg #[.slice A0_0 l0_0.length c0_0], .int .i64 1048576] rfl (by (try simp only [List.map_toArray, List.map_cons, List.map_nil]); first | done | rfl | (simp only [List.length_drop, List.length_take]; rfl)) ?_; (with_reducible refine (laws_szMapTab.calls _ _ l0_0 1048576 t739 _ ?side1 ?side2 A3.out).mono ?_); (case side1 => repeat (first | exact (Kd.C_below HR0_0.out HB.out) | (with_reducible refine Kd.C_alloc ?_ _) | (with_reducible refine Kd.C_drewN ?_ _) | (with_reducible refine Kd.C_drew ?_))); (case side2 => exact HC0_0.out); rintro e w9 ⟨rfl, hb⟩; refine ⟨_, rfl, ?_⟩; have n0_ := bkB BK737 hb; have n1_ := bkB BK738 hb; have n2_ := Aside0.mk (below_step (bl HB) hb); clear BK737; clear BK738; clear HB; have BK737 := n0_; have BK738 := n1_; have HB := n2_; clear n0_ n1_ n2_; (try clear hb); (try clear hb2); (try clear hk); (try clear hi)))
    go_ret
    exact ⟨by first | rfl | (simp [errW_none, errW_some] <;> rfl) | (simp [*, errW_none, errW_some] <;> rfl), by repeat (first | (with_reducible first | exact HB.out | apply below_alloc | apply pw_below_drewN | apply below_drew1 | refine below_set ?_ GE737.out | refine below_set ?_ GE738.out) | exact HB.out)⟩
  · rw [if_neg c4] at H
    have c4b0 : decide (t739 < 0) = false := decide_eq_false c4
    clear c4
    replace H := Option.bind_eq_some_iff.mp H
    obtain ⟨t740, A100, H⟩ := H
    replace H : ((laws_toEndPoint.f a1_0 a1_1).bind fun bt743 => ((spec_MapPut.f k t740 bt743.1 bt743.2).bind fun bt745 => ((laws_toMapTab.f k l0_0).bind fun t750 => ((laws_toEndPoint.f a1_0 a1_1).bind fun bt754 => ((impl_MapPut.f k t750 bt754.1 bt754.2).bind fun bt756 => ((laws_eqMapTab.f k bt756.1 bt745.1).bind fun t761 => (if t761 = true then (laws_FnExactMapPut.j0 k bt745.2 bt756.2 (bt756.2 != bt745.2) l0_0 a1_0 a1_1 bt745.1 t750 bt756.1) else (laws_FnExactMapPut.j0 k bt745.2 bt756.2 true l0_0 a1_0 a1_1 bt745.1 t750 bt756.1)))))))) = some r := H
    have A10 := Aside0.mk A100
    clear A100
    replace H := Option.bind_eq_some_iff.mp H
    obtain ⟨⟨t743, t744⟩, A110, H⟩ := H
    replace H : ((spec_MapPut.f k t740 t743 t744).bind fun bt745 => ((laws_toMapTab.f k l0_0).bind fun t750 => ((laws_toEndPoint.f a1_0 a1_1).bind fun bt754 => ((impl_MapPut.f k t750 bt754.1 bt754.2).bind fun bt756 => ((laws_eqMapTab.f k bt756.1 bt745.1).bind fun t761 => (if t761 = true then (laws_FnExactMapPut.j0 k bt745.2 bt756.2 (bt756.2 != bt745.2) l0_0 a1_0 a1_1 bt745.1 t750 bt756.1) else (laws_FnExactMapPut.j0 k bt745.2 bt756.2 true l0_0 a1_0 a1_1 bt745.1 t750 bt756.1))))))) = some r := H
    have A11 := Aside0.mk A110
    clear A110
    replace H := Option.bind_eq_some_iff.mp H
    obtain ⟨⟨t745, t748⟩, A120, H⟩ := H
    replace H : ((laws_toMapTab.f k l0_0).bind fun t750 => ((laws_toEndPoint.f a1_0 a1_1).bind fun bt754 => ((impl_MapPut.f k t750 bt754.1 bt754.2).bind fun bt756 => ((laws_eqMapTab.f k bt756.1 t745).bind fun t761 => (if t761 = true then (laws_FnExactMapPut.j0 k t748 bt756.2 (bt756.2 != t748) l0_0 a1_0 a1_1 t745 t750 bt756.1) else (laws_FnExactMapPut.j0 k t748 bt756.2 true l0_0 a1_0 a1_1 t745 t750 bt756.1)))))) = some r := H
    have A12 := Aside0.mk A120
    clear A120
    replace H := Option.bind_eq_some_iff.mp H
    obtain ⟨t750, A130, H⟩ := H
    replace H : ((laws_toEndPoint.f a1_0 a1_1).bind fun bt754 => ((impl_MapPut.f k t750 bt754.1 bt754.2).bind fun bt756 => ((laws_eqMapTab.f k bt756.1 t745).bind fun t761 => (if t761 = true then (laws_FnExactMapPut.j0 k t748 bt756.2 (bt756.2 != t748) l0_0 a1_0 a1_1 t745 t750 bt756.1) else (laws_FnExactMapPut.j0 k t748 bt756.2 true l0_0 a1_0 a1_1 t745 t750 bt756.1))))) = some r := H
    have A13 := Aside0.mk A130
    clear A130
    replace H := Option.bind_eq_some_iff.mp H
    obtain ⟨⟨t754, t755⟩, A140, H⟩ := H
    replace H : ((impl_MapPut.f k t750 t754 t755).bind fun bt756 => ((laws_eqMapTab.f k bt756.1 t745).bind fun t761 => (if t761 = true then (laws_FnExactMapPut.j0 k t748 bt756.2 (bt756.2 != t748) l0_0 a1_0 a1_1 t745 t750 bt756.1) else (laws_FnExactMapPut.j0 k t748 bt756.2 true l0_0 a1_0 a1_1 t745 t750 bt756.1)))) = some r := H
    have A14 := Aside0.mk A140
    clear A140
    replace H := Option.bind_eq_some_iff.mp H
    obtain ⟨⟨t756, t759⟩, A150, H⟩ := H
    replace H : ((laws_eqMapTab.f k t756 t745).bind fun t761 => (if t761 = true then (laws_FnExactMapPut.j0 k t748 t759 (t759 != t748) l0_0 a1_0 a1_1 t745 t750 t756) else (laws_FnExactMapPut.j0 k t748 t759 true l0_0 a1_0 a1_1 t745 t750 t756))) = some r := H
    have A15 := Aside0.mk A150
    clear A150
    have HC16 := Aside0.mk H
    clear H
    go_enter Try.func8, Try.ntmps8
    try go_wp2_with (first | ((with_reducible refine gate_dst (N := 2) rfl ?_); refine box_event ?hg (N := 2) ?hd (cs := #[.slice A0_0 l0_0.length c0_0]) (t := 55) ?hr ?_; (case hd => rfl); (case hg => rfl); (case hr => first | (go_simp; done) | (go_simp; rfl)); intro gb737 hg w17 hbox hb; have n0_ := Aside0.mk (below_step (bl HB) hb); have n1_ := Aside0.mk (hbox); have n2_ := Aside0.mk ((by rw [hg]; exact (below_size (bl HB)) : w.heap.size ≤ gb737)); have n3_ := Aside0.mk ((by rw [hg]; exact (below_size (bl HB)) : w.heap.size ≤ gb737)); clear HB; have HB := n0_; have BK737 := n1_; have GW737 := n2_; have GE737 := n3_; clear n0_ n1_ n2_ n3_; clear hb hbox hg) | ((with_reducible refine gate_dst (N := 3) rfl ?_); refine box_event ?hg (N := 3) ?hd (cs := #[.int .i64 a1_0, .int .i64 a1_1]) (t := 34) ?hr ?_; (case hd => rfl); (case hg => rfl); (case hr => first | (go_simp; done) | (go_simp; rfl)); intro gb738 hg w18 hbox hb; have n0_ := bkB BK737 hb; have n1_ := Aside0.mk (below_step (bl HB) hb); have n2_ := Aside0.mk (hbox); have n3_ := Aside0.mk ((by rw [hg]; exact (below_size (bl HB)) : w.heap.size ≤ gb738)); have n4_ := Aside0.mk ((by rw [hg]; exact (below_size (bl HB)) : w.heap.size ≤ gb738)); have n5_ := Aside0.mk ((by rw [hg]; exact Nat.ne_of_lt (bkL BK737) : gb737 ≠ gb738)); have n6_ := Aside0.mk ((by rw [hg]; exact Nat.ne_of_gt (bkL BK737) : gb738 ≠ gb737)); clear BK737; clear HB; have BK737 := n0_; have HB := n1_; have BK738 := n2_; have GW738 := n3_; have GE738 := n4_; have NB737_738 := n5_; have NB738_737 := n6_; clear n0_ n1_ n2_ n3_ n4_ n5_ n6_; clear hb hbox hg; have hnb19 := NB737_738.out; have hnc19 := NB738_737.out; have hcz20_0 : w18.cell? ⟨gb737, 0, none⟩ = some (.slice A0_0 l0_0.length c0_0) := (blk_cell BK737.out 0).trans rfl; have hfz20_0 := blk_frozen BK737.out 0) | ((with_reducible refine gate_callee (f := 28) rfl ?_); refine goesL_ (some 18) rfl rfl Try.func28 (by kernel_rfl) rfl #[.agg #[.slice A0_0 l0_0.length c0_0], .int .i64 1048576] rfl (by (try simp only [List.map_toArray, List.map_cons, List.map_nil]); first | done | rfl | (simp only [List.length_drop, List.length_take]; rfl)) ?_; (with_reducible refine (laws_szMapTab.calls _ _ l0_0 1048576 t739 _ ?side1 ?side2 A3.out).mono ?_); (case side1 => repeat (first | exact (Kd.C_below HR0_0.out HB.out) | (with_reducible refine Kd.C_alloc ?_ _) | (with_reducible refine Kd.C_drewN ?_ _) | (with_reducible refine Kd.C_drew ?_))); (case side2 => exact HC0_0.out); rintro e w21 ⟨rfl, hb⟩; refine ⟨_, rfl, ?_⟩; have n0_ := bkB BK737 hb; have n1_ := bkB BK738 hb; have n2_ := Aside0.mk (below_step (bl HB) hb); clear BK737; clear BK738; clear HB; have BK737 := n0_; have BK738 := n1_; have HB := n2_; clear n0_ n1_ n2_; (try clear hb); (try clear hb2); (try clear hk); (try clear hi)))
    have n0_ := Aside0.mk (blk_drew BK737.out)
    have n1_ := Aside0.mk (blk_drew BK738.out)
    have n2_ := Aside0.mk (below_drew1 HB.out)
    clear BK737
    clear BK738
    clear HB
    have BK737 := n0_
    have BK738 := n1_
    have HB := n2_
    clear n0_ n1_ n2_
    refine start_ (n := 11) (S := fun w' => w'.cell? ⟨gb737, 0, none⟩ = some (.slice A0_0 l0_0.length c0_0) ∧ w'.cell? ⟨gb738, 0, none⟩ = some (.int .i64 a1_0) ∧ w'.cell? ⟨gb738, 1, none⟩ = some (.int .i64 a1_1)) (ds := []) #[false, false, false, false, false, false, false, false, false, false, false] (by kernel_rfl) rfl rfl ⟨(blk_cell BK737.out 0).trans rfl, (blk_cell BK738.out 0).trans rfl, (blk_cell BK738.out 1).trans rfl⟩ (fun hHeld => ?_); refine with_tabW laws_FnExactMapPut.tab5 laws_FnExactMapPut.bits5 (fun HT_ HW_ => ?_)
    generalize w21.drew = w22 at BK737 BK738 HB hHeld ⊢
    refine take_ (i := 0) (N := some 22) (v := ?_) (a' := ?_) #[true, false, false, false, false, false, false, false, false, false, false] rfl rfl (take_ofW HT_.out HW_.out (by kernel_rfl)) (fun _ _ _ h => h) (Or.inl ⟨by rfl, ?_⟩) hHeld ?_ ?_
    rotate_left
    · rintro w' ⟨s0, s1, s2⟩
      go_simp
      with_reducible rfl
    rotate_left
    · simp only [Act.put, List.setIfInBounds_toArray, List.set_cons_zero, List.set_cons_succ, i64_w, i32_w]
      rfl
    refine take_ (i := 2) (N := some 24) (v := ?_) (a' := ?_) #[true, false, true, false, false, false, false, false, false, false, false] rfl rfl (take_ofW HT_.out HW_.out (by kernel_rfl)) (fun _ _ _ h => h) (Or.inl ⟨by rfl, ?_⟩) hHeld ?_ ?_
    rotate_left
    · rintro w' ⟨s0, s1, s2⟩
      go_simp
      with_reducible rfl
    rotate_left
    · simp only [Act.put, List.setIfInBounds_toArray, List.set_cons_zero, List.set_cons_succ, i64_w, i32_w]
      rfl
    refine join_ (σ := Value × Value × Nat) 2 #[true, true, true, true, true, true, true, true, true, false, false] (fun s_ => [(23, .agg #[s_.1]), (25, .agg #[.int .i64 t743, .int .i64 t744]), (26, .tuple #[.agg #[s_.2.1], .int .i64 t748]), (6, .pointer (some ⟨s_.2.2, 0, none⟩)), (21, .tuple #[.agg #[s_.2.1], .int .i64 t748]), (27, .agg #[s_.2.1]), (28, .int .i64 t748)]) (fun s_ w' => (w'.cell? ⟨gb737, 0, none⟩ = some (.slice A0_0 l0_0.length c0_0) ∧ w'.cell? ⟨gb738, 0, none⟩ = some (.int .i64 a1_0) ∧ w'.cell? ⟨gb738, 1, none⟩ = some (.int .i64 a1_1)) ∧ (Kd.R k29 29 w' w.heap.size (fun k_ => some k_ ≠ (s_.2.1 : Value).ownBlock) s_.1 t740) ∧ (Kd.R k29 29 w' w.heap.size (fun k_ => some k_ ≠ (s_.1 : Value).ownBlock) s_.2.1 t745) ∧ (w'.heap[gb737]? = some (.cells #[.slice A0_0 l0_0.length c0_0] 55 (0, 0))) ∧ (w'.heap[gb738]? = some (.cells #[.int .i64 a1_0, .int .i64 a1_1] 34 (0, 0))) ∧ (w'.heap[s_.2.2]? = some (.cells #[.slice none 0 0] 45 (0, 0))) ∧ (w.heap.size ≤ s_.2.2) ∧ (w.heap.size ≤ s_.2.2) ∧ (gb737 ≠ s_.2.2) ∧ (s_.2.2 ≠ gb737) ∧ (gb738 ≠ s_.2.2) ∧ (s_.2.2 ≠ gb738) ∧ (Below w.heap.size w w')) ?_ ?_
    rotate_left
    · intro hCont
      refine two_ (i := 1) (j := 8) (Ni := some 23) (Nj := some 6) #[true, true, true, false, false, false, false, false, false, false, false] #[true, false, true, false, false, false, false, false, true, false, false] rfl rfl rfl rfl (two_of HT_.out (by kernel_rfl)) (by decide) (by decide) (fun K hK => ?_) (fun K hK => ?_)
      · skip
        refine goes_ Try.func30 (by kernel_rfl) rfl #[.agg #[.slice A0_0 l0_0.length c0_0]] (by rfl) rfl rfl (by (try simp only [List.map_toArray, List.map_cons, List.map_nil]); first | done | rfl | (simp only [List.length_drop, List.length_take]; rfl)) ?_
        with_reducible refine (laws_toMapTab.calls k _ _ l0_0 t740 _ ?side1 ?side2 A10.out).mono ?_
        (case side1 => repeat (first | exact (Kd.C_below HR0_0.out HB.out) | (with_reducible refine Kd.C_alloc ?_ _) | (with_reducible refine Kd.C_drewN ?_ _) | (with_reducible refine Kd.C_drew ?_)))
        (case side2 => exact HC0_0.out)
        rintro e w23 ⟨v741, rfl, ho0, hb⟩
        refine ⟨_, rfl, ?_⟩
        have n0_ := Aside0.mk (Kd.R_lower ho0 (below_size (bl HB)))
        have n1_ := bkB BK737 hb
        have n2_ := bkB BK738 hb
        have n3_ := Aside0.mk (below_step (bl HB) hb)
        clear BK737
        clear BK738
        clear HB
        have HO742 := n0_
        have BK737 := n1_
        have BK738 := n2_
        have HB := n3_
        clear n0_ n1_ n2_ n3_
        (try clear hb)
        (try clear hb2)
        (try clear hk)
        (try clear hi)
        (try clear ho0)
        refine hK.out _ _ ⟨(blk_cell BK737.out 0).trans rfl, (blk_cell BK738.out 0).trans rfl, (blk_cell BK738.out 1).trans rfl⟩ (fun hHeld => ?_)
        clear hK K
        refine norm_ (a' := ?_) ?_ ?_
        rotate_left
        · show Act.put _ (some 23) _ = _
          simp only [Act.put, List.setIfInBounds_toArray, List.set_cons_zero, List.set_cons_succ, i64_w, i32_w]
          rfl
        refine two_ (i := 3) (j := 8) (Ni := some 25) (Nj := some 6) #[true, true, true, true, false, false, false, false, false, false, false] #[true, true, true, false, false, false, false, false, true, false, false] rfl rfl rfl rfl (two_of HT_.out (by kernel_rfl)) (by decide) (by decide) (fun K hK => ?_) (fun K hK => ?_)
        · skip
          refine goes_ Try.func19 (by kernel_rfl) rfl #[.agg #[.int .i64 a1_0, .int .i64 a1_1]] (by rfl) rfl rfl (by (try simp only [List.map_toArray, List.map_cons, List.map_nil]); first | done | rfl | (simp only [List.length_drop, List.length_take]; rfl)) ?_
          with_reducible refine (laws_toEndPoint.calls a1_0 a1_1 t743 t744 _ A11.out).mono ?_
          rintro e w24 ⟨rfl, hb⟩
          refine ⟨_, rfl, ?_⟩
          have n0_ := Aside0.mk (Kd.R_below (rs HO742) hb)
          have n1_ := bkB BK737 hb
          have n2_ := bkB BK738 hb
          have n3_ := Aside0.mk (below_step (bl HB) hb)
          clear HO742
          clear BK737
          clear BK738
          clear HB
          have HO742 := n0_
          have BK737 := n1_
          have BK738 := n2_
          have HB := n3_
          clear n0_ n1_ n2_ n3_
          (try clear hb)
          (try clear hb2)
          (try clear hk)
          (try clear hi)
          obtain ⟨Ao25, co25, eo25⟩ := Kd.R_slice HO742.out
          (first | subst eo25 | (injection eo25 with f1_ f2_ f3_; have f4_ := f1_.symm; have f5_ := f3_.symm; clear f1_ f2_ f3_; subst f4_; subst f5_))
          refine hK.out _ _ ⟨(blk_cell BK737.out 0).trans rfl, (blk_cell BK738.out 0).trans rfl, (blk_cell BK738.out 1).trans rfl⟩ (fun hHeld => ?_)
          clear hK K
          refine norm_ (a' := ?_) ?_ ?_
          rotate_left
          · show Act.put _ (some 25) _ = _
            simp only [Act.put, List.setIfInBounds_toArray, List.set_cons_zero, List.set_cons_succ, i64_w, i32_w]
            rfl
          refine two_ (i := 4) (j := 8) (Ni := some 26) (Nj := some 6) #[true, true, true, true, true, false, false, false, false, false, false] #[true, true, true, true, false, false, false, false, true, false, false] rfl rfl rfl rfl (two_of HT_.out (by kernel_rfl)) (by decide) (by decide) (fun K hK => ?_) (fun K hK => ?_)
          · skip
            refine goes_ Try.func29 (by kernel_rfl) rfl #[.agg #[.slice Ao25 t740.length co25], .agg #[.int .i64 t743, .int .i64 t744]] (by rfl) rfl rfl (by (try simp only [List.map_toArray, List.map_cons, List.map_nil]); first | done | rfl | (simp only [List.length_drop, List.length_take]; rfl)) ?_
            with_reducible refine (spec_MapPut.calls k _ _ t740 t743 t744 t745 t748 _ ?side1 ?side2 A12.out).mono ?_
            (case side1 => repeat (first | exact (Kd.R_reads' HO742.out).2.2 | (with_reducible refine Kd.C_alloc ?_ _) | (with_reducible refine Kd.C_drewN ?_ _) | (with_reducible refine Kd.C_drew ?_)))
            (case side2 => exact (Kd.R_reads' HO742.out).2.1)
            rintro e w26 ⟨v746, rfl, ho0, hb⟩
            refine ⟨_, rfl, ?_⟩
            have n0_ := Aside0.mk (Kd.R_elder' (rs HO742) (Kd.R_base ho0) hb)
            have n1_ := Aside0.mk (Kd.R_lower (Kd.R_new' ho0 (Kd.R_lt (rs HO742))) (below_size (bl HB)))
            have n2_ := bkB BK737 hb
            have n3_ := bkB BK738 hb
            have n4_ := Aside0.mk (below_step (bl HB) hb)
            clear HO742
            clear BK737
            clear BK738
            clear HB
            have HO742 := n0_
            have HO747 := n1_
            have BK737 := n2_
            have BK738 := n3_
            have HB := n4_
            clear n0_ n1_ n2_ n3_ n4_
            (try clear hb)
            (try clear hb2)
            (try clear hk)
            (try clear hi)
            (try clear ho0)
            refine hK.out _ _ ⟨(blk_cell BK737.out 0).trans rfl, (blk_cell BK738.out 0).trans rfl, (blk_cell BK738.out 1).trans rfl⟩ (fun hHeld => ?_)
            clear hK K
            refine norm_ (a' := ?_) ?_ ?_
            rotate_left
            · show Act.put _ (some 26) _ = _
              simp only [Act.put, List.setIfInBounds_toArray, List.set_cons_zero, List.set_cons_succ, i64_w, i32_w]
              rfl
            refine pure_ (i := 5) (N := some 21) (v := ?_) (a' := ?_) #[true, true, true, true, true, true, false, false, false, false, false] rfl rfl (any_of HT_.out (by kernel_rfl)) (fun _ _ _ h => h) (Or.inl ⟨by rfl, ?_⟩) ?_ ?_
            rotate_left
            · intro w'
              go_simp
              with_reducible rfl
            rotate_left
            · simp only [Act.put, List.setIfInBounds_toArray, List.set_cons_zero, List.set_cons_succ, i64_w, i32_w]
              rfl
            refine pure_ (i := 6) (N := some 27) (v := ?_) (a' := ?_) #[true, true, true, true, true, true, true, false, false, false, false] rfl rfl (any_of HT_.out (by kernel_rfl)) (fun _ _ _ h => h) (Or.inl ⟨by rfl, ?_⟩) ?_ ?_
            rotate_left
            · intro w'
              go_simp
              with_reducible rfl
            rotate_left
            · simp only [Act.put, List.setIfInBounds_toArray, List.set_cons_zero, List.set_cons_succ, i64_w, i32_w]
              rfl
            refine pure_ (i := 7) (N := some 28) (v := ?_) (a' := ?_) #[true, true, true, true, true, true, true, true, false, false, false] rfl rfl (any_of HT_.out (by kernel_rfl)) (fun _ _ _ h => h) (Or.inl ⟨by rfl, ?_⟩) ?_ ?_
            rotate_left
            · intro w'
              go_simp
              with_reducible rfl
            rotate_left
            · simp only [Act.put, List.setIfInBounds_toArray, List.set_cons_zero, List.set_cons_succ, i64_w, i32_w]
              rfl
            refine one_ (i := 8) (N := some 6) #[true, true, true, true, true, true, true, true, true, false, false] rfl rfl (one_of HT_.out (by kernel_rfl)) (by decide) (fun K hK => ?_)
            refine box_step ?hg (N := 6) ?hd (cs := #[.slice none 0 0]) (t := 45) ?hr ?_; (case hd => rfl); (case hg => rfl); (case hr => first | (go_simp; done) | (go_simp; rfl))
            intro gb749 hg w27 hbox hb
            have n0_ := Aside0.mk (Kd.R_below (rs HO742) hb)
            have n1_ := Aside0.mk (Kd.R_below (rs HO747) hb)
            have n2_ := bkB BK737 hb
            have n3_ := bkB BK738 hb
            have n4_ := Aside0.mk (below_step (bl HB) hb)
            have n5_ := Aside0.mk (hbox)
            have n6_ := Aside0.mk ((by rw [hg]; exact (below_size (bl HB)) : w.heap.size ≤ gb749))
            have n7_ := Aside0.mk ((by rw [hg]; exact (below_size (bl HB)) : w.heap.size ≤ gb749))
            have n8_ := Aside0.mk ((by rw [hg]; exact Nat.ne_of_lt (bkL BK737) : gb737 ≠ gb749))
            have n9_ := Aside0.mk ((by rw [hg]; exact Nat.ne_of_gt (bkL BK737) : gb749 ≠ gb737))
            have n10_ := Aside0.mk ((by rw [hg]; exact Nat.ne_of_lt (bkL BK738) : gb738 ≠ gb749))
            have n11_ := Aside0.mk ((by rw [hg]; exact Nat.ne_of_gt (bkL BK738) : gb749 ≠ gb738))
            clear HO742
            clear HO747
            clear BK737
            clear BK738
            clear HB
            have HO742 := n0_
            have HO747 := n1_
            have BK737 := n2_
            have BK738 := n3_
            have HB := n4_
            have BK749 := n5_
            have GW749 := n6_
            have GE749 := n7_
            have NB737_749 := n8_
            have NB749_737 := n9_
            have NB738_749 := n10_
            have NB749_738 := n11_
            clear n0_ n1_ n2_ n3_ n4_ n5_ n6_ n7_ n8_ n9_ n10_ n11_
            clear hb hbox hg
            refine hK.out _ _ ⟨(blk_cell BK737.out 0).trans rfl, (blk_cell BK738.out 0).trans rfl, (blk_cell BK738.out 1).trans rfl⟩ (fun hHeld => ?_)
            clear hK K
            refine norm_ (a' := ?_) ?_ ?_
            rotate_left
            · show Act.put _ (some 6) _ = _
              simp only [Act.put, List.setIfInBounds_toArray, List.set_cons_zero, List.set_cons_succ, i64_w, i32_w]
              rfl
            exact norm_ (by simp only [putAll, Act.put, List.setIfInBounds_toArray, List.set_cons_zero, List.set_cons_succ]) (hCont (.slice Ao25 t740.length co25, v746, gb749) _ ⟨hHeld, (by (with_reducible repeat apply ru); exact Kd.R_mono HO742.out (fun _ hk => hk.2)), (by (with_reducible repeat apply ru); exact Kd.R_mono HO747.out (fun _ hk => hk.2)), (bk BK737), (bk BK738), (bk BK749), GW749.out, GE749.out, NB737_749.out, NB749_737.out, NB738_749.out, NB749_738.out, (bl HB)⟩)
          · skip
            refine box_step ?hg (N := 6) ?hd (cs := #[.slice none 0 0]) (t := 45) ?hr ?_; (case hd => rfl); (case hg => rfl); (case hr => first | (go_simp; done) | (go_simp; rfl))
            intro gb749 hg w25 hbox hb
            have n0_ := Aside0.mk (Kd.R_below (rs HO742) hb)
            have n1_ := bkB BK737 hb
            have n2_ := bkB BK738 hb
            have n3_ := Aside0.mk (below_step (bl HB) hb)
            have n4_ := Aside0.mk (hbox)
            have n5_ := Aside0.mk ((by rw [hg]; exact (below_size (bl HB)) : w.heap.size ≤ gb749))
            have n6_ := Aside0.mk ((by rw [hg]; exact (below_size (bl HB)) : w.heap.size ≤ gb749))
            have n7_ := Aside0.mk ((by rw [hg]; exact Nat.ne_of_lt (bkL BK737) : gb737 ≠ gb749))
            have n8_ := Aside0.mk ((by rw [hg]; exact Nat.ne_of_gt (bkL BK737) : gb749 ≠ gb737))
            have n9_ := Aside0.mk ((by rw [hg]; exact Nat.ne_of_lt (bkL BK738) : gb738 ≠ gb749))
            have n10_ := Aside0.mk ((by rw [hg]; exact Nat.ne_of_gt (bkL BK738) : gb749 ≠ gb738))
            clear HO742
            clear BK737
            clear BK738
            clear HB
            have HO742 := n0_
            have BK737 := n1_
            have BK738 := n2_
            have HB := n3_
            have BK749 := n4_
            have GW749 := n5_
            have GE749 := n6_
            have NB737_749 := n7_
            have NB749_737 := n8_
            have NB738_749 := n9_
            have NB749_738 := n10_
            clear n0_ n1_ n2_ n3_ n4_ n5_ n6_ n7_ n8_ n9_ n10_
            clear hb hbox hg
            obtain ⟨Ao26, co26, eo26⟩ := Kd.R_slice HO742.out
            (first | subst eo26 | (injection eo26 with f1_ f2_ f3_; have f4_ := f1_.symm; have f5_ := f3_.symm; clear f1_ f2_ f3_; subst f4_; subst f5_))
            refine hK.out _ _ ⟨(blk_cell BK737.out 0).trans rfl, (blk_cell BK738.out 0).trans rfl, (blk_cell BK738.out 1).trans rfl⟩ (fun hHeld => ?_)
            clear hK K
            refine norm_ (a' := ?_) ?_ ?_
            rotate_left
            · show Act.put _ (some 6) _ = _
              simp only [Act.put, List.setIfInBounds_toArray, List.set_cons_zero, List.set_cons_succ, i64_w, i32_w]
              rfl
            refine one_ (i := 4) (N := some 26) #[true, true, true, true, true, false, false, false, true, false, false] rfl rfl (one_of HT_.out (by kernel_rfl)) (by decide) (fun K hK => ?_)
            refine goes_ Try.func29 (by kernel_rfl) rfl #[.agg #[.slice Ao26 t740.length co26], .agg #[.int .i64 t743, .int .i64 t744]] (by rfl) rfl rfl (by (try simp only [List.map_toArray, List.map_cons, List.map_nil]); first | done | rfl | (simp only [List.length_drop, List.length_take]; rfl)) ?_
            with_reducible refine (spec_MapPut.calls k _ _ t740 t743 t744 t745 t748 _ ?side1 ?side2 A12.out).mono ?_
            (case side1 => repeat (first | exact (Kd.R_reads' HO742.out).2.2 | (with_reducible refine Kd.C_alloc ?_ _) | (with_reducible refine Kd.C_drewN ?_ _) | (with_reducible refine Kd.C_drew ?_)))
            (case side2 => exact (Kd.R_reads' HO742.out).2.1)
            rintro e w27 ⟨v746, rfl, ho0, hb⟩
            refine ⟨_, rfl, ?_⟩
            have n0_ := Aside0.mk (Kd.R_elder' (rs HO742) (Kd.R_base ho0) hb)
            have n1_ := Aside0.mk (Kd.R_lower (Kd.R_new' ho0 (Kd.R_lt (rs HO742))) (below_size (bl HB)))
            have n2_ := bkB BK737 hb
            have n3_ := bkB BK738 hb
            have n4_ := bkB BK749 hb
            have n5_ := Aside0.mk (below_step (bl HB) hb)
            clear HO742
            clear BK737
            clear BK738
            clear BK749
            clear HB
            have HO742 := n0_
            have HO747 := n1_
            have BK737 := n2_
            have BK738 := n3_
            have BK749 := n4_
            have HB := n5_
            clear n0_ n1_ n2_ n3_ n4_ n5_
            (try clear hb)
            (try clear hb2)
            (try clear hk)
            (try clear hi)
            (try clear ho0)
            refine hK.out _ _ ⟨(blk_cell BK737.out 0).trans rfl, (blk_cell BK738.out 0).trans rfl, (blk_cell BK738.out 1).trans rfl⟩ (fun hHeld => ?_)
            clear hK K
            refine norm_ (a' := ?_) ?_ ?_
            rotate_left
            · show Act.put _ (some 26) _ = _
              simp only [Act.put, List.setIfInBounds_toArray, List.set_cons_zero, List.set_cons_succ, i64_w, i32_w]
              rfl
            refine pure_ (i := 5) (N := some 21) (v := ?_) (a' := ?_) #[true, true, true, true, true, true, false, false, true, false, false] rfl rfl (any_of HT_.out (by kernel_rfl)) (fun _ _ _ h => h) (Or.inl ⟨by rfl, ?_⟩) ?_ ?_
            rotate_left
            · intro w'
              go_simp
              with_reducible rfl
            rotate_left
            · simp only [Act.put, List.setIfInBounds_toArray, List.set_cons_zero, List.set_cons_succ, i64_w, i32_w]
              rfl
            refine pure_ (i := 6) (N := some 27) (v := ?_) (a' := ?_) #[true, true, true, true, true, true, true, false, true, false, false] rfl rfl (any_of HT_.out (by kernel_rfl)) (fun _ _ _ h => h) (Or.inl ⟨by rfl, ?_⟩) ?_ ?_
            rotate_left
            · intro w'
              go_simp
              with_reducible rfl
            rotate_left
            · simp only [Act.put, List.setIfInBounds_toArray, List.set_cons_zero, List.set_cons_succ, i64_w, i32_w]
              rfl
            refine pure_ (i := 7) (N := some 28) (v := ?_) (a' := ?_) #[true, true, true, true, true, true, true, true, true, false, false] rfl rfl (any_of HT_.out (by kernel_rfl)) (fun _ _ _ h => h) (Or.inl ⟨by rfl, ?_⟩) ?_ ?_
            rotate_left
            · intro w'
              go_simp
              with_reducible rfl
            rotate_left
            · simp only [Act.put, List.setIfInBounds_toArray, List.set_cons_zero, List.set_cons_succ, i64_w, i32_w]
              rfl
            exact norm_ (by simp only [putAll, Act.put, List.setIfInBounds_toArray, List.set_cons_zero, List.set_cons_succ]) (hCont (.slice Ao26 t740.length co26, v746, gb749) _ ⟨hHeld, (by (with_reducible repeat apply ru); exact Kd.R_mono HO742.out (fun _ hk => hk.2)), (by (with_reducible repeat apply ru); exact Kd.R_mono HO747.out (fun _ hk => hk.2)), (bk BK737), (bk BK738), (bk BK749), GW749.out, GE749.out, NB737_749.out, NB749_737.out, NB738_749.out, NB749_738.out, (bl HB)⟩)
        · skip
          refine box_step ?hg (N := 6) ?hd (cs := #[.slice none 0 0]) (t := 45) ?hr ?_; (case hd => rfl); (case hg => rfl); (case hr => first | (go_simp; done) | (go_simp; rfl))
          intro gb749 hg w24 hbox hb
          have n0_ := Aside0.mk (Kd.R_below (rs HO742) hb)
          have n1_ := bkB BK737 hb
          have n2_ := bkB BK738 hb
          have n3_ := Aside0.mk (below_step (bl HB) hb)
          have n4_ := Aside0.mk (hbox)
          have n5_ := Aside0.mk ((by rw [hg]; exact (below_size (bl HB)) : w.heap.size ≤ gb749))
          have n6_ := Aside0.mk ((by rw [hg]; exact (below_size (bl HB)) : w.heap.size ≤ gb749))
          have n7_ := Aside0.mk ((by rw [hg]; exact Nat.ne_of_lt (bkL BK737) : gb737 ≠ gb749))
          have n8_ := Aside0.mk ((by rw [hg]; exact Nat.ne_of_gt (bkL BK737) : gb749 ≠ gb737))
          have n9_ := Aside0.mk ((by rw [hg]; exact Nat.ne_of_lt (bkL BK738) : gb738 ≠ gb749))
          have n10_ := Aside0.mk ((by rw [hg]; exact Nat.ne_of_gt (bkL BK738) : gb749 ≠ gb738))
          clear HO742
          clear BK737
          clear BK738
          clear HB
          have HO742 := n0_
          have BK737 := n1_
          have BK738 := n2_
          have HB := n3_
          have BK749 := n4_
          have GW749 := n5_
          have GE749 := n6_
          have NB737_749 := n7_
          have NB749_737 := n8_
          have NB738_749 := n9_
          have NB749_738 := n10_
          clear n0_ n1_ n2_ n3_ n4_ n5_ n6_ n7_ n8_ n9_ n10_
          clear hb hbox hg
          refine hK.out _ _ ⟨(blk_cell BK737.out 0).trans rfl, (blk_cell BK738.out 0).trans rfl, (blk_cell BK738.out 1).trans rfl⟩ (fun hHeld => ?_)
          clear hK K
          refine norm_ (a' := ?_) ?_ ?_
          rotate_left
          · show Act.put _ (some 6) _ = _
            simp only [Act.put, List.setIfInBounds_toArray, List.set_cons_zero, List.set_cons_succ, i64_w, i32_w]
            rfl
          refine one_ (i := 3) (N := some 25) #[true, true, true, true, false, false, false, false, true, false, false] rfl rfl (one_of HT_.out (by kernel_rfl)) (by decide) (fun K hK => ?_)
          refine goes_ Try.func19 (by kernel_rfl) rfl #[.agg #[.int .i64 a1_0, .int .i64 a1_1]] (by rfl) rfl rfl (by (try simp only [List.map_toArray, List.map_cons, List.map_nil]); first | done | rfl | (simp only [List.length_drop, List.length_take]; rfl)) ?_
          with_reducible refine (laws_toEndPoint.calls a1_0 a1_1 t743 t744 _ A11.out).mono ?_
          rintro e w25 ⟨rfl, hb⟩
          refine ⟨_, rfl, ?_⟩
          have n0_ := Aside0.mk (Kd.R_below (rs HO742) hb)
          have n1_ := bkB BK737 hb
          have n2_ := bkB BK738 hb
          have n3_ := bkB BK749 hb
          have n4_ := Aside0.mk (below_step (bl HB) hb)
          clear HO742
          clear BK737
          clear BK738
          clear BK749
          clear HB
          have HO742 := n0_
          have BK737 := n1_
          have BK738 := n2_
          have BK749 := n3_
          have HB := n4_
          clear n0_ n1_ n2_ n3_ n4_
          (try clear hb)
          (try clear hb2)
          (try clear hk)
          (try clear hi)
          obtain ⟨Ao26, co26, eo26⟩ := Kd.R_slice HO742.out
          (first | subst eo26 | (injection eo26 with f1_ f2_ f3_; have f4_ := f1_.symm; have f5_ := f3_.symm; clear f1_ f2_ f3_; subst f4_; subst f5_))
          refine hK.out _ _ ⟨(blk_cell BK737.out 0).trans rfl, (blk_cell BK738.out 0).trans rfl, (blk_cell BK738.out 1).trans rfl⟩ (fun hHeld => ?_)
          clear hK K
          refine norm_ (a' := ?_) ?_ ?_
          rotate_left
          · show Act.put _ (some 25) _ = _
            simp only [Act.put, List.setIfInBounds_toArray, List.set_cons_zero, List.set_cons_succ, i64_w, i32_w]
            rfl
          refine one_ (i := 4) (N := some 26) #[true, true, true, true, true, false, false, false, true, false, false] rfl rfl (one_of HT_.out (by kernel_rfl)) (by decide) (fun K hK => ?_)
          refine goes_ Try.func29 (by kernel_rfl) rfl #[.agg #[.slice Ao26 t740.length co26], .agg #[.int .i64 t743, .int .i64 t744]] (by rfl) rfl rfl (by (try simp only [List.map_toArray, List.map_cons, List.map_nil]); first | done | rfl | (simp only [List.length_drop, List.length_take]; rfl)) ?_
          with_reducible refine (spec_MapPut.calls k _ _ t740 t743 t744 t745 t748 _ ?side1 ?side2 A12.out).mono ?_
          (case side1 => repeat (first | exact (Kd.R_reads' HO742.out).2.2 | (with_reducible refine Kd.C_alloc ?_ _) | (with_reducible refine Kd.C_drewN ?_ _) | (with_reducible refine Kd.C_drew ?_)))
          (case side2 => exact (Kd.R_reads' HO742.out).2.1)
          rintro e w27 ⟨v746, rfl, ho0, hb⟩
          refine ⟨_, rfl, ?_⟩
          have n0_ := Aside0.mk (Kd.R_elder' (rs HO742) (Kd.R_base ho0) hb)
          have n1_ := Aside0.mk (Kd.R_lower (Kd.R_new' ho0 (Kd.R_lt (rs HO742))) (below_size (bl HB)))
          have n2_ := bkB BK737 hb
          have n3_ := bkB BK738 hb
          have n4_ := bkB BK749 hb
          have n5_ := Aside0.mk (below_step (bl HB) hb)
          clear HO742
          clear BK737
          clear BK738
          clear BK749
          clear HB
          have HO742 := n0_
          have HO747 := n1_
          have BK737 := n2_
          have BK738 := n3_
          have BK749 := n4_
          have HB := n5_
          clear n0_ n1_ n2_ n3_ n4_ n5_
          (try clear hb)
          (try clear hb2)
          (try clear hk)
          (try clear hi)
          (try clear ho0)
          refine hK.out _ _ ⟨(blk_cell BK737.out 0).trans rfl, (blk_cell BK738.out 0).trans rfl, (blk_cell BK738.out 1).trans rfl⟩ (fun hHeld => ?_)
          clear hK K
          refine norm_ (a' := ?_) ?_ ?_
          rotate_left
          · show Act.put _ (some 26) _ = _
            simp only [Act.put, List.setIfInBounds_toArray, List.set_cons_zero, List.set_cons_succ, i64_w, i32_w]
            rfl
          refine pure_ (i := 5) (N := some 21) (v := ?_) (a' := ?_) #[true, true, true, true, true, true, false, false, true, false, false] rfl rfl (any_of HT_.out (by kernel_rfl)) (fun _ _ _ h => h) (Or.inl ⟨by rfl, ?_⟩) ?_ ?_
          rotate_left
          · intro w'
            go_simp
            with_reducible rfl
          rotate_left
          · simp only [Act.put, List.setIfInBounds_toArray, List.set_cons_zero, List.set_cons_succ, i64_w, i32_w]
            rfl
          refine pure_ (i := 6) (N := some 27) (v := ?_) (a' := ?_) #[true, true, true, true, true, true, true, false, true, false, false] rfl rfl (any_of HT_.out (by kernel_rfl)) (fun _ _ _ h => h) (Or.inl ⟨by rfl, ?_⟩) ?_ ?_
          rotate_left
          · intro w'
            go_simp
            with_reducible rfl
          rotate_left
          · simp only [Act.put, List.setIfInBounds_toArray, List.set_cons_zero, List.set_cons_succ, i64_w, i32_w]
            rfl
          refine pure_ (i := 7) (N := some 28) (v := ?_) (a' := ?_) #[true, true, true, true, true, true, true, true, true, false, false] rfl rfl (any_of HT_.out (by kernel_rfl)) (fun _ _ _ h => h) (Or.inl ⟨by rfl, ?_⟩) ?_ ?_
          rotate_left
          · intro w'
            go_simp
            with_reducible rfl
          rotate_left
          · simp only [Act.put, List.setIfInBounds_toArray, List.set_cons_zero, List.set_cons_succ, i64_w, i32_w]
            rfl
          exact norm_ (by simp only [putAll, Act.put, List.setIfInBounds_toArray, List.set_cons_zero, List.set_cons_succ]) (hCont (.slice Ao26 t740.length co26, v746, gb749) _ ⟨hHeld, (by (with_reducible repeat apply ru); exact Kd.R_mono HO742.out (fun _ hk => hk.2)), (by (with_reducible repeat apply ru); exact Kd.R_mono HO747.out (fun _ hk => hk.2)), (bk BK737), (bk BK738), (bk BK749), GW749.out, GE749.out, NB737_749.out, NB749_737.out, NB738_749.out, NB749_738.out, (bl HB)⟩)
      · skip
        refine box_step ?hg (N := 6) ?hd (cs := #[.slice none 0 0]) (t := 45) ?hr ?_; (case hd => rfl); (case hg => rfl); (case hr => first | (go_simp; done) | (go_simp; rfl))
        intro gb749 hg w23 hbox hb
        have n0_ := bkB BK737 hb
        have n1_ := bkB BK738 hb
        have n2_ := Aside0.mk (below_step (bl HB) hb)
        have n3_ := Aside0.mk (hbox)
        have n4_ := Aside0.mk ((by rw [hg]; exact (below_size (bl HB)) : w.heap.size ≤ gb749))
        have n5_ := Aside0.mk ((by rw [hg]; exact (below_size (bl HB)) : w.heap.size ≤ gb749))
        have n6_ := Aside0.mk ((by rw [hg]; exact Nat.ne_of_lt (bkL BK737) : gb737 ≠ gb749))
        have n7_ := Aside0.mk ((by rw [hg]; exact Nat.ne_of_gt (bkL BK737) : gb749 ≠ gb737))
        have n8_ := Aside0.mk ((by rw [hg]; exact Nat.ne_of_lt (bkL BK738) : gb738 ≠ gb749))
        have n9_ := Aside0.mk ((by rw [hg]; exact Nat.ne_of_gt (bkL BK738) : gb749 ≠ gb738))
        clear BK737
        clear BK738
        clear HB
        have BK737 := n0_
        have BK738 := n1_
        have HB := n2_
        have BK749 := n3_
        have GW749 := n4_
        have GE749 := n5_
        have NB737_749 := n6_
        have NB749_737 := n7_
        have NB738_749 := n8_
        have NB749_738 := n9_
        clear n0_ n1_ n2_ n3_ n4_ n5_ n6_ n7_ n8_ n9_
        clear hb hbox hg
        refine hK.out _ _ ⟨(blk_cell BK737.out 0).trans rfl, (blk_cell BK738.out 0).trans rfl, (blk_cell BK738.out 1).trans rfl⟩ (fun hHeld => ?_)
        clear hK K
        refine norm_ (a' := ?_) ?_ ?_
        rotate_left
        · show Act.put _ (some 6) _ = _
          simp only [Act.put, List.setIfInBounds_toArray, List.set_cons_zero, List.set_cons_succ, i64_w, i32_w]
          rfl
        refine one_ (i := 1) (N := some 23) #[true, true, true, false, false, false, false, false, true, false, false] rfl rfl (one_of HT_.out (by kernel_rfl)) (by decide) (fun K hK => ?_)
        refine goes_ Try.func30 (by kernel_rfl) rfl #[.agg #[.slice A0_0 l0_0.length c0_0]] (by rfl) rfl rfl (by (try simp only [List.map_toArray, List.map_cons, List.map_nil]); first | done | rfl | (simp only [List.length_drop, List.length_take]; rfl)) ?_
        with_reducible refine (laws_toMapTab.calls k _ _ l0_0 t740 _ ?side1 ?side2 A10.out).mono ?_
        (case side1 => repeat (first | exact (Kd.C_below HR0_0.out HB.out) | (with_reducible refine Kd.C_alloc ?_ _) | (with_reducible refine Kd.C_drewN ?_ _) | (with_reducible refine Kd.C_drew ?_)))
        (case side2 => exact HC0_0.out)
        rintro e w24 ⟨v741, rfl, ho0, hb⟩
        refine ⟨_, rfl, ?_⟩
        have n0_ := Aside0.mk (Kd.R_lower ho0 (below_size (bl HB)))
        have n1_ := bkB BK737 hb
        have n2_ := bkB BK738 hb
        have n3_ := bkB BK749 hb
        have n4_ := Aside0.mk (below_step (bl HB) hb)
        clear BK737
        clear BK738
        clear BK749
        clear HB
        have HO742 := n0_
        have BK737 := n1_
        have BK738 := n2_
        have BK749 := n3_
        have HB := n4_
        clear n0_ n1_ n2_ n3_ n4_
        (try clear hb)
        (try clear hb2)
        (try clear hk)
        (try clear hi)
        (try clear ho0)
        refine hK.out _ _ ⟨(blk_cell BK737.out 0).trans rfl, (blk_cell BK738.out 0).trans rfl, (blk_cell BK738.out 1).trans rfl⟩ (fun hHeld => ?_)
        clear hK K
        refine norm_ (a' := ?_) ?_ ?_
        rotate_left
        · show Act.put _ (some 23) _ = _
          simp only [Act.put, List.setIfInBounds_toArray, List.set_cons_zero, List.set_cons_succ, i64_w, i32_w]
          rfl
        refine one_ (i := 3) (N := some 25) #[true, true, true, true, false, false, false, false, true, false, false] rfl rfl (one_of HT_.out (by kernel_rfl)) (by decide) (fun K hK => ?_)
        refine goes_ Try.func19 (by kernel_rfl) rfl #[.agg #[.int .i64 a1_0, .int .i64 a1_1]] (by rfl) rfl rfl (by (try simp only [List.map_toArray, List.map_cons, List.map_nil]); first | done | rfl | (simp only [List.length_drop, List.length_take]; rfl)) ?_
        with_reducible refine (laws_toEndPoint.calls a1_0 a1_1 t743 t744 _ A11.out).mono ?_
        rintro e w25 ⟨rfl, hb⟩
        refine ⟨_, rfl, ?_⟩
        have n0_ := Aside0.mk (Kd.R_below (rs HO742) hb)
        have n1_ := bkB BK737 hb
        have n2_ := bkB BK738 hb
        have n3_ := bkB BK749 hb
        have n4_ := Aside0.mk (below_step (bl HB) hb)
        clear HO742
        clear BK737
        clear BK738
        clear BK749
        clear HB
        have HO742 := n0_
        have BK737 := n1_
        have BK738 := n2_
        have BK749 := n3_
        have HB := n4_
        clear n0_ n1_ n2_ n3_ n4_
        (try clear hb)
        (try clear hb2)
        (try clear hk)
        (try clear hi)
        obtain ⟨Ao26, co26, eo26⟩ := Kd.R_slice HO742.out
        (first | subst eo26 | (injection eo26 with f1_ f2_ f3_; have f4_ := f1_.symm; have f5_ := f3_.symm; clear f1_ f2_ f3_; subst f4_; subst f5_))
        refine hK.out _ _ ⟨(blk_cell BK737.out 0).trans rfl, (blk_cell BK738.out 0).trans rfl, (blk_cell BK738.out 1).trans rfl⟩ (fun hHeld => ?_)
        clear hK K
        refine norm_ (a' := ?_) ?_ ?_
        rotate_left
        · show Act.put _ (some 25) _ = _
          simp only [Act.put, List.setIfInBounds_toArray, List.set_cons_zero, List.set_cons_succ, i64_w, i32_w]
          rfl
        refine one_ (i := 4) (N := some 26) #[true, true, true, true, true, false, false, false, true, false, false] rfl rfl (one_of HT_.out (by kernel_rfl)) (by decide) (fun K hK => ?_)
        refine goes_ Try.func29 (by kernel_rfl) rfl #[.agg #[.slice Ao26 t740.length co26], .agg #[.int .i64 t743, .int .i64 t744]] (by rfl) rfl rfl (by (try simp only [List.map_toArray, List.map_cons, List.map_nil]); first | done | rfl | (simp only [List.length_drop, List.length_take]; rfl)) ?_
        with_reducible refine (spec_MapPut.calls k _ _ t740 t743 t744 t745 t748 _ ?side1 ?side2 A12.out).mono ?_
        (case side1 => repeat (first | exact (Kd.R_reads' HO742.out).2.2 | (with_reducible refine Kd.C_alloc ?_ _) | (with_reducible refine Kd.C_drewN ?_ _) | (with_reducible refine Kd.C_drew ?_)))
        (case side2 => exact (Kd.R_reads' HO742.out).2.1)
        rintro e w27 ⟨v746, rfl, ho0, hb⟩
        refine ⟨_, rfl, ?_⟩
        have n0_ := Aside0.mk (Kd.R_elder' (rs HO742) (Kd.R_base ho0) hb)
        have n1_ := Aside0.mk (Kd.R_lower (Kd.R_new' ho0 (Kd.R_lt (rs HO742))) (below_size (bl HB)))
        have n2_ := bkB BK737 hb
        have n3_ := bkB BK738 hb
        have n4_ := bkB BK749 hb
        have n5_ := Aside0.mk (below_step (bl HB) hb)
        clear HO742
        clear BK737
        clear BK738
        clear BK749
        clear HB
        have HO742 := n0_
        have HO747 := n1_
        have BK737 := n2_
        have BK738 := n3_
        have BK749 := n4_
        have HB := n5_
        clear n0_ n1_ n2_ n3_ n4_ n5_
        (try clear hb)
        (try clear hb2)
        (try clear hk)
        (try clear hi)
        (try clear ho0)
        refine hK.out _ _ ⟨(blk_cell BK737.out 0).trans rfl, (blk_cell BK738.out 0).trans rfl, (blk_cell BK738.out 1).trans rfl⟩ (fun hHeld => ?_)
        clear hK K
        refine norm_ (a' := ?_) ?_ ?_
        rotate_left
        · show Act.put _ (some 26) _ = _
          simp only [Act.put, List.setIfInBounds_toArray, List.set_cons_zero, List.set_cons_succ, i64_w, i32_w]
          rfl
        refine pure_ (i := 5) (N := some 21) (v := ?_) (a' := ?_) #[true, true, true, true, true, true, false, false, true, false, false] rfl rfl (any_of HT_.out (by kernel_rfl)) (fun _ _ _ h => h) (Or.inl ⟨by rfl, ?_⟩) ?_ ?_
        rotate_left
        · intro w'
          go_simp
          with_reducible rfl
        rotate_left
        · simp only [Act.put, List.setIfInBounds_toArray, List.set_cons_zero, List.set_cons_succ, i64_w, i32_w]
          rfl
        refine pure_ (i := 6) (N := some 27) (v := ?_) (a' := ?_) #[true, true, true, true, true, true, true, false, true, false, false] rfl rfl (any_of HT_.out (by kernel_rfl)) (fun _ _ _ h => h) (Or.inl ⟨by rfl, ?_⟩) ?_ ?_
        rotate_left
        · intro w'
          go_simp
          with_reducible rfl
        rotate_left
        · simp only [Act.put, List.setIfInBounds_toArray, List.set_cons_zero, List.set_cons_succ, i64_w, i32_w]
          rfl
        refine pure_ (i := 7) (N := some 28) (v := ?_) (a' := ?_) #[true, true, true, true, true, true, true, true, true, false, false] rfl rfl (any_of HT_.out (by kernel_rfl)) (fun _ _ _ h => h) (Or.inl ⟨by rfl, ?_⟩) ?_ ?_
        rotate_left
        · intro w'
          go_simp
          with_reducible rfl
        rotate_left
        · simp only [Act.put, List.setIfInBounds_toArray, List.set_cons_zero, List.set_cons_succ, i64_w, i32_w]
          rfl
        exact norm_ (by simp only [putAll, Act.put, List.setIfInBounds_toArray, List.set_cons_zero, List.set_cons_succ]) (hCont (.slice Ao26 t740.length co26, v746, gb749) _ ⟨hHeld, (by (with_reducible repeat apply ru); exact Kd.R_mono HO742.out (fun _ hk => hk.2)), (by (with_reducible repeat apply ru); exact Kd.R_mono HO747.out (fun _ hk => hk.2)), (bk BK737), (bk BK738), (bk BK749), GW749.out, GE749.out, NB737_749.out, NB749_737.out, NB738_749.out, NB749_738.out, (bl HB)⟩)
    rintro ⟨v741, v746, gb749⟩ w28 ⟨hS_, h0_, h1_, h2_, h3_, h4_, h5_, h6_, h7_, h8_, h9_, h10_, h11_⟩
    have n0_ : Aside0 (Kd.R k29 29 w28 w.heap.size (fun k_ => some k_ ≠ (v746 : Value).ownBlock) v741 t740) := ⟨h0_⟩
    have n1_ : Aside0 (Kd.R k29 29 w28 w.heap.size (fun k_ => some k_ ≠ (v741 : Value).ownBlock) v746 t745) := ⟨h1_⟩
    have n2_ : Aside0 (w28.heap[gb737]? = some (.cells #[.slice A0_0 l0_0.length c0_0] 55 (0, 0))) := ⟨h2_⟩
    have n3_ : Aside0 (w28.heap[gb738]? = some (.cells #[.int .i64 a1_0, .int .i64 a1_1] 34 (0, 0))) := ⟨h3_⟩
    have n4_ : Aside0 (w28.heap[gb749]? = some (.cells #[.slice none 0 0] 45 (0, 0))) := ⟨h4_⟩
    have n5_ : Aside0 (w.heap.size ≤ gb749) := ⟨h5_⟩
    have n6_ : Aside0 (w.heap.size ≤ gb749) := ⟨h6_⟩
    have n7_ : Aside0 (gb737 ≠ gb749) := ⟨h7_⟩
    have n8_ : Aside0 (gb749 ≠ gb737) := ⟨h8_⟩
    have n9_ : Aside0 (gb738 ≠ gb749) := ⟨h9_⟩
    have n10_ : Aside0 (gb749 ≠ gb738) := ⟨h10_⟩
    have n11_ : Aside0 (Below w.heap.size w w28) := ⟨h11_⟩
    clear BK737
    clear BK738
    clear HB
    clear h0_ h1_ h2_ h3_ h4_ h5_ h6_ h7_ h8_ h9_ h10_ h11_
    have HO742 := n0_
    have HO747 := n1_
    have BK737 := n2_
    have BK738 := n3_
    have BK749 := n4_
    have GW749 := n5_
    have GE749 := n6_
    have NB737_749 := n7_
    have NB749_737 := n8_
    have NB738_749 := n9_
    have NB749_738 := n10_
    have HB := n11_
    clear n0_ n1_ n2_ n3_ n4_ n5_ n6_ n7_ n8_ n9_ n10_ n11_
    have hHeld : w28.cell? ⟨gb737, 0, none⟩ = some (.slice A0_0 l0_0.length c0_0) ∧ w28.cell? ⟨gb738, 0, none⟩ = some (.int .i64 a1_0) ∧ w28.cell? ⟨gb738, 1, none⟩ = some (.int .i64 a1_1) := hS_
    obtain ⟨Ao29, co29, eo29⟩ := Kd.R_slice HO747.out
    (first | subst eo29 | (injection eo29 with f1_ f2_ f3_; have f4_ := f1_.symm; have f5_ := f3_.symm; clear f1_ f2_ f3_; subst f4_; subst f5_))
    refine norm_ (a' := ?_) ?_ ?_
    rotate_left
    · simp only [putAll, Act.put, List.setIfInBounds_toArray, List.set_cons_zero, List.set_cons_succ]
      rfl
    refine one_ (i := 9) (N := none) #[true, true, true, true, true, true, true, true, true, true, false] rfl rfl (one_of HT_.out (by kernel_rfl)) (by decide) (fun K hK => ?_)
    have hs30 : w28.cell? ⟨gb749, 0, none⟩ = some (.slice none 0 0) := (blk_cell BK749.out 0).trans rfl
    have hfs30 := blk_frozen BK749.out 0
    have hns30_0 := NB737_749.out
    have hns30_1 := NB738_749.out
    have hms30_0 := NB749_737.out
    have hms30_1 := NB749_738.out
    refine skip_ (w1 := ?_) (by rfl) rfl ?_ ?_
    rotate_left
    · go_simp
      rfl
    refine hK.out _ _ ⟨((cell_far (p := ⟨gb749, _, none⟩) NB737_749.out _).trans (hHeld.1)), ((cell_far (p := ⟨gb749, _, none⟩) NB738_749.out _).trans (hHeld.2.1)), ((cell_far (p := ⟨gb749, _, none⟩) NB738_749.out _).trans (hHeld.2.2))⟩ (fun hHeld => ?_)
    clear hK K
    refine pure_ (i := 10) (N := some 7) (v := ?_) (a' := ?_) #[true, true, true, true, true, true, true, true, true, true, true] rfl rfl (any_of HT_.out (by kernel_rfl)) (fun _ _ _ h => h) (Or.inl ⟨by rfl, ?_⟩) ?_ ?_
    rotate_left
    · intro w'
      go_simp
      with_reducible rfl
    rotate_left
    · simp only [Act.put, List.setIfInBounds_toArray, List.set_cons_zero, List.set_cons_succ, i64_w, i32_w]
      rfl
    refine done_ (done_of HT_.out (by kernel_rfl)) ?_
    have hnb31 := NB737_749.out
    have hnc31 := NB749_737.out
    have hcz32_0 : w28.cell? ⟨gb737, 0, none⟩ = some (.slice A0_0 l0_0.length c0_0) := (blk_cell BK737.out 0).trans rfl
    have hfz32_0 := blk_frozen BK737.out 0
    try go_wp2_with (first | ((with_reducible refine gate_callee (f := 30) rfl ?_); refine goesL_ (some 30) rfl rfl Try.func30 (by kernel_rfl) rfl #[.agg #[.slice A0_0 l0_0.length c0_0]] rfl (by (try simp only [List.map_toArray, List.map_cons, List.map_nil]); first | done | rfl | (simp only [List.length_drop, List.length_take]; rfl)) ?_; (with_reducible refine (laws_toMapTab.calls k _ _ l0_0 t750 _ ?side1 ?side2 A13.out).mono ?_); (case side1 => exact Kd.C_below HR0_0.out (bl HB)); (case side2 => exact HC0_0.out); rintro e w33 ⟨v751, rfl, ho0, hb⟩; refine ⟨_, rfl, ?_⟩; have n0_ := Aside0.mk (Kd.R_elder' (by (with_reducible repeat apply ru); exact (Kd.R_mono (Kd.R_far (p := ⟨gb749, 0, none⟩) (Kd.R_types HO742.out BK749.out (by decide)) (fun _ hk => hk.2) (.slice Ao29 t745.length co29)) (fun _ h_ => h_.1))) (Kd.R_base ho0) hb); have n1_ := Aside0.mk (Kd.R_elder' (by (with_reducible repeat apply ru); exact (Kd.R_mono (Kd.R_far (p := ⟨gb749, 0, none⟩) (Kd.R_types HO747.out BK749.out (by decide)) (fun _ hk => hk.2) (.slice Ao29 t745.length co29)) (fun _ h_ => h_.1))) (Kd.R_base ho0) hb); have n2_ := Aside0.mk (Kd.R_lower (Kd.R_new' (Kd.R_new' ho0 (Kd.R_lt (by (with_reducible repeat apply ru); exact (Kd.R_mono (Kd.R_far (p := ⟨gb749, 0, none⟩) (Kd.R_types HO742.out BK749.out (by decide)) (fun _ hk => hk.2) (.slice Ao29 t745.length co29)) (fun _ h_ => h_.1))))) (Kd.R_lt (by (with_reducible repeat apply ru); exact (Kd.R_mono (Kd.R_far (p := ⟨gb749, 0, none⟩) (Kd.R_types HO747.out BK749.out (by decide)) (fun _ hk => hk.2) (.slice Ao29 t745.length co29)) (fun _ h_ => h_.1))))) (below_size (bl HB))); have n3_ := Aside0.mk (blk_below (g := gb737) (o := .cells #[.slice A0_0 l0_0.length c0_0] 55 (0, 0)) (by (with_reducible repeat refine bu ?_); refine blk_far ?_ NB737_749.out _; (with_reducible repeat refine bu ?_); exact BK737.out) hb); have n4_ := Aside0.mk (blk_below (g := gb738) (o := .cells #[.int .i64 a1_0, .int .i64 a1_1] 34 (0, 0)) (by (with_reducible repeat refine bu ?_); refine blk_far ?_ NB738_749.out _; (with_reducible repeat refine bu ?_); exact BK738.out) hb); have n5_ := Aside0.mk (blk_below (g := gb749) (o := .cells #[.slice Ao29 t745.length co29] 45 (0, 0)) (by (with_reducible repeat refine bu ?_); refine blk_put (cs := #[.slice none 0 0]) ?_ 0 _ rfl; (with_reducible repeat refine bu ?_); exact BK749.out) hb); have n6_ := Aside0.mk (below_step (bl HB) hb); clear HO742; clear HO747; clear BK737; clear BK738; clear BK749; clear HB; have HO742 := n0_; have HO747 := n1_; have HO752 := n2_; have BK737 := n3_; have BK738 := n4_; have BK749 := n5_; have HB := n6_; clear n0_ n1_ n2_ n3_ n4_ n5_ n6_; (try clear hb); (try clear hb2); (try clear hk); (try clear hi); (try clear ho0)) | ((with_reducible refine gate_dst (N := 8) rfl ?_); refine box_event ?hg (N := 8) ?hd (cs := #[.slice none 0 0]) (t := 45) ?hr ?_; (case hd => rfl); (case hg => rfl); (case hr => first | (go_simp; done) | (go_simp; rfl)); intro gb753 hg w34 hbox hb; have n0_ := Aside0.mk (Kd.R_below (rs HO742) hb); have n1_ := Aside0.mk (Kd.R_below (rs HO747) hb); have n2_ := Aside0.mk (Kd.R_below (rs HO752) hb); have n3_ := bkB BK737 hb; have n4_ := bkB BK738 hb; have n5_ := bkB BK749 hb; have n6_ := Aside0.mk (below_step (bl HB) hb); have n7_ := Aside0.mk (hbox); have n8_ := Aside0.mk ((by rw [hg]; exact (below_size (bl HB)) : w.heap.size ≤ gb753)); have n9_ := Aside0.mk ((by rw [hg]; exact (below_size (bl HB)) : w.heap.size ≤ gb753)); have n10_ := Aside0.mk ((by rw [hg]; exact Nat.ne_of_lt (bkL BK737) : gb737 ≠ gb753)); have n11_ := Aside0.mk ((by rw [hg]; exact Nat.ne_of_gt (bkL BK737) : gb753 ≠ gb737)); have n12_ := Aside0.mk ((by rw [hg]; exact Nat.ne_of_lt (bkL BK738) : gb738 ≠ gb753)); have n13_ := Aside0.mk ((by rw [hg]; exact Nat.ne_of_gt (bkL BK738) : gb753 ≠ gb738)); have n14_ := Aside0.mk ((by rw [hg]; exact Nat.ne_of_lt (bkL BK749) : gb749 ≠ gb753)); have n15_ := Aside0.mk ((by rw [hg]; exact Nat.ne_of_gt (bkL BK749) : gb753 ≠ gb749)); clear HO742; clear HO747; clear HO752; clear BK737; clear BK738; clear BK749; clear HB; have HO742 := n0_; have HO747 := n1_; have HO752 := n2_; have BK737 := n3_; have BK738 := n4_; have BK749 := n5_; have HB := n6_; have BK753 := n7_; have GW753 := n8_; have GE753 := n9_; have NB737_753 := n10_; have NB753_737 := n11_; have NB738_753 := n12_; have NB753_738 := n13_; have NB749_753 := n14_; have NB753_749 := n15_; clear n0_ n1_ n2_ n3_ n4_ n5_ n6_ n7_ n8_ n9_ n10_ n11_ n12_ n13_ n14_ n15_; clear hb hbox hg; obtain ⟨Ao35, co35, eo35⟩ := Kd.R_slice HO752.out; subst eo35; have hnb36 := NB753_737.out; have hnc36 := NB737_753.out; have hnb37 := NB753_738.out; have hnc37 := NB738_753.out; have hnb38 := NB753_749.out; have hnc38 := NB749_753.out; have hcz39_0 : w34.cell? ⟨gb753, 0, none⟩ = some (.slice none 0 0) := (blk_cell BK753.out 0).trans rfl; have hfz39_0 := blk_frozen BK753.out 0))
    have n0_ : Aside0 (Kd.R k29 29 (w34.setCell ⟨gb753, 0, none⟩ (.slice Ao35 t750.length co35)) w.heap.size (fun k_ => some k_ ≠ (.slice Ao29 t745.length co29 : Value).ownBlock ∧ some k_ ≠ (.slice Ao35 t750.length co35 : Value).ownBlock) v741 t740) := ⟨by (with_reducible repeat apply ru); exact Kd.R_mono (Kd.R_far (p := ⟨gb753, 0, none⟩) (Kd.R_types HO742.out BK753.out (by decide)) (fun _ hk => hk.2) (.slice Ao35 t750.length co35)) (fun _ hk => ⟨hk.1.1, hk.1.2⟩)⟩
    have n1_ : Aside0 (Kd.R k29 29 (w34.setCell ⟨gb753, 0, none⟩ (.slice Ao35 t750.length co35)) w.heap.size (fun k_ => some k_ ≠ (v741 : Value).ownBlock ∧ some k_ ≠ (.slice Ao35 t750.length co35 : Value).ownBlock) (.slice Ao29 t745.length co29) t745) := ⟨by (with_reducible repeat apply ru); exact Kd.R_mono (Kd.R_far (p := ⟨gb753, 0, none⟩) (Kd.R_types HO747.out BK753.out (by decide)) (fun _ hk => hk.2) (.slice Ao35 t750.length co35)) (fun _ hk => ⟨hk.1.1, hk.1.2⟩)⟩
    have n2_ : Aside0 (Kd.R k29 29 (w34.setCell ⟨gb753, 0, none⟩ (.slice Ao35 t750.length co35)) w.heap.size (fun k_ => some k_ ≠ (v741 : Value).ownBlock ∧ some k_ ≠ (.slice Ao29 t745.length co29 : Value).ownBlock) (.slice Ao35 t750.length co35) t750) := ⟨by (with_reducible repeat apply ru); exact Kd.R_mono (Kd.R_far (p := ⟨gb753, 0, none⟩) (Kd.R_types HO752.out BK753.out (by decide)) (fun _ hk => hk.2) (.slice Ao35 t750.length co35)) (fun _ hk => ⟨hk.1.1.2, hk.1.2⟩)⟩
    have n3_ : Aside0 ((w34.setCell ⟨gb753, 0, none⟩ (.slice Ao35 t750.length co35)).heap[gb737]? = some (.cells #[.slice A0_0 l0_0.length c0_0] 55 (0, 0))) := ⟨by (with_reducible repeat refine bu ?_); refine blk_far ?_ NB737_753.out _; (with_reducible repeat refine bu ?_); exact BK737.out⟩
    have n4_ : Aside0 ((w34.setCell ⟨gb753, 0, none⟩ (.slice Ao35 t750.length co35)).heap[gb738]? = some (.cells #[.int .i64 a1_0, .int .i64 a1_1] 34 (0, 0))) := ⟨by (with_reducible repeat refine bu ?_); refine blk_far ?_ NB738_753.out _; (with_reducible repeat refine bu ?_); exact BK738.out⟩
    have n5_ : Aside0 ((w34.setCell ⟨gb753, 0, none⟩ (.slice Ao35 t750.length co35)).heap[gb749]? = some (.cells #[.slice Ao29 t745.length co29] 45 (0, 0))) := ⟨by (with_reducible repeat refine bu ?_); refine blk_far ?_ NB749_753.out _; (with_reducible repeat refine bu ?_); exact BK749.out⟩
    have n6_ : Aside0 ((w34.setCell ⟨gb753, 0, none⟩ (.slice Ao35 t750.length co35)).heap[gb753]? = some (.cells #[.slice Ao35 t750.length co35] 45 (0, 0))) := ⟨by (with_reducible repeat refine bu ?_); refine blk_put (cs := #[.slice none 0 0]) ?_ 0 _ rfl; (with_reducible repeat refine bu ?_); exact BK753.out⟩
    have n7_ : Aside0 (Below w.heap.size w (w34.setCell ⟨gb753, 0, none⟩ (.slice Ao35 t750.length co35))) := ⟨by repeat (first | (with_reducible first | exact HB.out | apply below_alloc | apply pw_below_drewN | apply below_drew1 | refine below_set ?_ GE737.out | refine below_set ?_ GE738.out | refine below_set ?_ GE749.out | refine below_set ?_ GE753.out) | exact HB.out)⟩
    (try clear HO742)
    (try clear HO747)
    (try clear HO752)
    (try clear BK737)
    (try clear BK738)
    (try clear BK749)
    (try clear BK753)
    (try clear HB)
    generalize (w34.setCell ⟨gb753, 0, none⟩ (.slice Ao35 t750.length co35)) = w40 at n0_ n1_ n2_ n3_ n4_ n5_ n6_ n7_ ⊢
    have HO742 := n0_
    have HO747 := n1_
    have HO752 := n2_
    have BK737 := n3_
    have BK738 := n4_
    have BK749 := n5_
    have BK753 := n6_
    have HB := n7_
    clear n0_ n1_ n2_ n3_ n4_ n5_ n6_ n7_
    have n0_ := Aside0.mk (Kd.R_drew HO742.out)
    have n1_ := Aside0.mk (Kd.R_drew HO747.out)
    have n2_ := Aside0.mk (Kd.R_drew HO752.out)
    have n3_ := Aside0.mk (blk_drew BK737.out)
    have n4_ := Aside0.mk (blk_drew BK738.out)
    have n5_ := Aside0.mk (blk_drew BK749.out)
    have n6_ := Aside0.mk (blk_drew BK753.out)
    have n7_ := Aside0.mk (below_drew1 HB.out)
    clear HO742
    clear HO747
    clear HO752
    clear BK737
    clear BK738
    clear BK749
    clear BK753
    clear HB
    have HO742 := n0_
    have HO747 := n1_
    have HO752 := n2_
    have BK737 := n3_
    have BK738 := n4_
    have BK749 := n5_
    have BK753 := n6_
    have HB := n7_
    clear n0_ n1_ n2_ n3_ n4_ n5_ n6_ n7_
    refine start_ (n := 10) (S := fun w' => w'.cell? ⟨gb753, 0, none⟩ = some (.slice Ao35 t750.length co35) ∧ w'.cell? ⟨gb738, 0, none⟩ = some (.int .i64 a1_0) ∧ w'.cell? ⟨gb738, 1, none⟩ = some (.int .i64 a1_1)) (ds := []) #[false, false, false, false, false, false, false, false, false, false] (by kernel_rfl) rfl rfl ⟨(blk_cell BK753.out 0).trans rfl, (blk_cell BK738.out 0).trans rfl, (blk_cell BK738.out 1).trans rfl⟩ (fun hHeld => ?_); refine with_tabW laws_FnExactMapPut.tab7 laws_FnExactMapPut.bits7 (fun HT_ HW_ => ?_)
    generalize w40.drew = w41 at HO742 HO747 HO752 BK737 BK738 BK749 BK753 HB hHeld ⊢
    refine take_ (i := 0) (N := some 32) (v := ?_) (a' := ?_) #[true, false, false, false, false, false, false, false, false, false] rfl rfl (take_ofW HT_.out HW_.out (by kernel_rfl)) (fun _ _ _ h => h) (Or.inl ⟨by rfl, ?_⟩) hHeld ?_ ?_
    rotate_left
    · rintro w' ⟨s0, s1, s2⟩
      go_simp
      with_reducible rfl
    rotate_left
    · simp only [Act.put, List.setIfInBounds_toArray, List.set_cons_zero, List.set_cons_succ, i64_w, i32_w]
      rfl
    refine take_ (i := 1) (N := some 33) (v := ?_) (a' := ?_) #[true, true, false, false, false, false, false, false, false, false] rfl rfl (take_ofW HT_.out HW_.out (by kernel_rfl)) (fun _ _ _ h => h) (Or.inl ⟨by rfl, ?_⟩) hHeld ?_ ?_
    rotate_left
    · rintro w' ⟨s0, s1, s2⟩
      go_simp
      with_reducible rfl
    rotate_left
    · simp only [Act.put, List.setIfInBounds_toArray, List.set_cons_zero, List.set_cons_succ, i64_w, i32_w]
      rfl
    refine join_ (σ := Value × Nat) 2 #[true, true, true, true, true, true, true, true, false, false] (fun s_ => [(34, .agg #[.int .i64 t754, .int .i64 t755]), (35, .tuple #[.agg #[s_.1], .int .i64 t759]), (9, .pointer (some ⟨s_.2, 0, none⟩)), (31, .tuple #[.agg #[s_.1], .int .i64 t759]), (36, .agg #[s_.1]), (37, .int .i64 t759)]) (fun s_ w' => (w'.cell? ⟨gb753, 0, none⟩ = some (.slice Ao35 t750.length co35) ∧ w'.cell? ⟨gb738, 0, none⟩ = some (.int .i64 a1_0) ∧ w'.cell? ⟨gb738, 1, none⟩ = some (.int .i64 a1_1)) ∧ (Kd.R k29 29 w' w.heap.size (fun k_ => some k_ ≠ (.slice Ao29 t745.length co29 : Value).ownBlock ∧ some k_ ≠ (.slice Ao35 t750.length co35 : Value).ownBlock ∧ some k_ ≠ (s_.1 : Value).ownBlock) v741 t740) ∧ (Kd.R k29 29 w' w.heap.size (fun k_ => some k_ ≠ (v741 : Value).ownBlock ∧ some k_ ≠ (.slice Ao35 t750.length co35 : Value).ownBlock ∧ some k_ ≠ (s_.1 : Value).ownBlock) (.slice Ao29 t745.length co29) t745) ∧ (Kd.R k29 29 w' w.heap.size (fun k_ => some k_ ≠ (v741 : Value).ownBlock ∧ some k_ ≠ (.slice Ao29 t745.length co29 : Value).ownBlock ∧ some k_ ≠ (s_.1 : Value).ownBlock) (.slice Ao35 t750.length co35) t750) ∧ (Kd.R k29 29 w' w.heap.size (fun k_ => some k_ ≠ (v741 : Value).ownBlock ∧ some k_ ≠ (.slice Ao29 t745.length co29 : Value).ownBlock ∧ some k_ ≠ (.slice Ao35 t750.length co35 : Value).ownBlock) s_.1 t756) ∧ (w'.heap[gb737]? = some (.cells #[.slice A0_0 l0_0.length c0_0] 55 (0, 0))) ∧ (w'.heap[gb738]? = some (.cells #[.int .i64 a1_0, .int .i64 a1_1] 34 (0, 0))) ∧ (w'.heap[gb749]? = some (.cells #[.slice Ao29 t745.length co29] 45 (0, 0))) ∧ (w'.heap[gb753]? = some (.cells #[.slice Ao35 t750.length co35] 45 (0, 0))) ∧ (w'.heap[s_.2]? = some (.cells #[.slice none 0 0] 45 (0, 0))) ∧ (w.heap.size ≤ s_.2) ∧ (w.heap.size ≤ s_.2) ∧ (gb737 ≠ s_.2) ∧ (s_.2 ≠ gb737) ∧ (gb738 ≠ s_.2) ∧ (s_.2 ≠ gb738) ∧ (gb749 ≠ s_.2) ∧ (s_.2 ≠ gb749) ∧ (gb753 ≠ s_.2) ∧ (s_.2 ≠ gb753) ∧ (Below w.heap.size w w')) ?_ ?_
    rotate_left
    · intro hCont
      refine two_ (i := 2) (j := 7) (Ni := some 34) (Nj := some 9) #[true, true, true, false, false, false, false, false, false, false] #[true, true, false, false, false, false, false, true, false, false] rfl rfl rfl rfl (two_of HT_.out (by kernel_rfl)) (by decide) (by decide) (fun K hK => ?_) (fun K hK => ?_)
      · skip
        refine goes_ Try.func19 (by kernel_rfl) rfl #[.agg #[.int .i64 a1_0, .int .i64 a1_1]] (by rfl) rfl rfl (by (try simp only [List.map_toArray, List.map_cons, List.map_nil]); first | done | rfl | (simp only [List.length_drop, List.length_take]; rfl)) ?_
        with_reducible refine (laws_toEndPoint.calls a1_0 a1_1 t754 t755 _ A14.out).mono ?_
        rintro e w42 ⟨rfl, hb⟩
        refine ⟨_, rfl, ?_⟩
        have n0_ := Aside0.mk (Kd.R_below (rs HO742) hb)
        have n1_ := Aside0.mk (Kd.R_below (rs HO747) hb)
        have n2_ := Aside0.mk (Kd.R_below (rs HO752) hb)
        have n3_ := bkB BK737 hb
        have n4_ := bkB BK738 hb
        have n5_ := bkB BK749 hb
        have n6_ := bkB BK753 hb
        have n7_ := Aside0.mk (below_step (bl HB) hb)
        clear HO742
        clear HO747
        clear HO752
        clear BK737
        clear BK738
        clear BK749
        clear BK753
        clear HB
        have HO742 := n0_
        have HO747 := n1_
        have HO752 := n2_
        have BK737 := n3_
        have BK738 := n4_
        have BK749 := n5_
        have BK753 := n6_
        have HB := n7_
        clear n0_ n1_ n2_ n3_ n4_ n5_ n6_ n7_
        (try clear hb)
        (try clear hb2)
        (try clear hk)
        (try clear hi)
        refine hK.out _ _ ⟨(blk_cell BK753.out 0).trans rfl, (blk_cell BK738.out 0).trans rfl, (blk_cell BK738.out 1).trans rfl⟩ (fun hHeld => ?_)
        clear hK K
        refine norm_ (a' := ?_) ?_ ?_
        rotate_left
        · show Act.put _ (some 34) _ = _
          simp only [Act.put, List.setIfInBounds_toArray, List.set_cons_zero, List.set_cons_succ, i64_w, i32_w]
          rfl
        refine two_ (i := 3) (j := 7) (Ni := some 35) (Nj := some 9) #[true, true, true, true, false, false, false, false, false, false] #[true, true, true, false, false, false, false, true, false, false] rfl rfl rfl rfl (two_of HT_.out (by kernel_rfl)) (by decide) (by decide) (fun K hK => ?_) (fun K hK => ?_)
        · skip
          refine goes_ Try.func26 (by kernel_rfl) rfl #[.agg #[.slice Ao35 t750.length co35], .agg #[.int .i64 t754, .int .i64 t755]] (by rfl) rfl rfl (by (try simp only [List.map_toArray, List.map_cons, List.map_nil]); first | done | rfl | (simp only [List.length_drop, List.length_take]; rfl)) ?_
          with_reducible refine (impl_MapPut.calls k _ _ t750 t754 t755 t756 t759 _ ?side1 ?side2 A15.out).mono ?_
          (case side1 => repeat (first | exact (Kd.R_reads' HO752.out).2.2 | (with_reducible refine Kd.C_alloc ?_ _) | (with_reducible refine Kd.C_drewN ?_ _) | (with_reducible refine Kd.C_drew ?_)))
          (case side2 => exact (Kd.R_reads' HO752.out).2.1)
          rintro e w43 ⟨v757, rfl, ho0, hb⟩
          refine ⟨_, rfl, ?_⟩
          have n0_ := Aside0.mk (Kd.R_elder' (rs HO742) (Kd.R_base ho0) hb)
          have n1_ := Aside0.mk (Kd.R_elder' (rs HO747) (Kd.R_base ho0) hb)
          have n2_ := Aside0.mk (Kd.R_elder' (rs HO752) (Kd.R_base ho0) hb)
          have n3_ := Aside0.mk (Kd.R_lower (Kd.R_new' (Kd.R_new' (Kd.R_new' ho0 (Kd.R_lt (rs HO742))) (Kd.R_lt (rs HO747))) (Kd.R_lt (rs HO752))) (below_size (bl HB)))
          have n4_ := bkB BK737 hb
          have n5_ := bkB BK738 hb
          have n6_ := bkB BK749 hb
          have n7_ := bkB BK753 hb
          have n8_ := Aside0.mk (below_step (bl HB) hb)
          clear HO742
          clear HO747
          clear HO752
          clear BK737
          clear BK738
          clear BK749
          clear BK753
          clear HB
          have HO742 := n0_
          have HO747 := n1_
          have HO752 := n2_
          have HO758 := n3_
          have BK737 := n4_
          have BK738 := n5_
          have BK749 := n6_
          have BK753 := n7_
          have HB := n8_
          clear n0_ n1_ n2_ n3_ n4_ n5_ n6_ n7_ n8_
          (try clear hb)
          (try clear hb2)
          (try clear hk)
          (try clear hi)
          (try clear ho0)
          refine hK.out _ _ ⟨(blk_cell BK753.out 0).trans rfl, (blk_cell BK738.out 0).trans rfl, (blk_cell BK738.out 1).trans rfl⟩ (fun hHeld => ?_)
          clear hK K
          refine norm_ (a' := ?_) ?_ ?_
          rotate_left
          · show Act.put _ (some 35) _ = _
            simp only [Act.put, List.setIfInBounds_toArray, List.set_cons_zero, List.set_cons_succ, i64_w, i32_w]
            rfl
          refine pure_ (i := 4) (N := some 31) (v := ?_) (a' := ?_) #[true, true, true, true, true, false, false, false, false, false] rfl rfl (any_of HT_.out (by kernel_rfl)) (fun _ _ _ h => h) (Or.inl ⟨by rfl, ?_⟩) ?_ ?_
          rotate_left
          · intro w'
            go_simp
            with_reducible rfl
          rotate_left
          · simp only [Act.put, List.setIfInBounds_toArray, List.set_cons_zero, List.set_cons_succ, i64_w, i32_w]
            rfl
          refine pure_ (i := 5) (N := some 36) (v := ?_) (a' := ?_) #[true, true, true, true, true, true, false, false, false, false] rfl rfl (any_of HT_.out (by kernel_rfl)) (fun _ _ _ h => h) (Or.inl ⟨by rfl, ?_⟩) ?_ ?_
          rotate_left
          · intro w'
            go_simp
            with_reducible rfl
          rotate_left
          · simp only [Act.put, List.setIfInBounds_toArray, List.set_cons_zero, List.set_cons_succ, i64_w, i32_w]
            rfl
          refine pure_ (i := 6) (N := some 37) (v := ?_) (a' := ?_) #[true, true, true, true, true, true, true, false, false, false] rfl rfl (any_of HT_.out (by kernel_rfl)) (fun _ _ _ h => h) (Or.inl ⟨by rfl, ?_⟩) ?_ ?_
          rotate_left
          · intro w'
            go_simp
            with_reducible rfl
          rotate_left
          · simp only [Act.put, List.setIfInBounds_toArray, List.set_cons_zero, List.set_cons_succ, i64_w, i32_w]
            rfl
          refine one_ (i := 7) (N := some 9) #[true, true, true, true, true, true, true, true, false, false] rfl rfl (one_of HT_.out (by kernel_rfl)) (by decide) (fun K hK => ?_)
          refine box_step ?hg (N := 9) ?hd (cs := #[.slice none 0 0]) (t := 45) ?hr ?_; (case hd => rfl); (case hg => rfl); (case hr => first | (go_simp; done) | (go_simp; rfl))
          intro gb760 hg w44 hbox hb
          have n0_ := Aside0.mk (Kd.R_below (rs HO742) hb)
          have n1_ := Aside0.mk (Kd.R_below (rs HO747) hb)
          have n2_ := Aside0.mk (Kd.R_below (rs HO752) hb)
          have n3_ := Aside0.mk (Kd.R_below (rs HO758) hb)
          have n4_ := bkB BK737 hb
          have n5_ := bkB BK738 hb
          have n6_ := bkB BK749 hb
          have n7_ := bkB BK753 hb
          have n8_ := Aside0.mk (below_step (bl HB) hb)
          have n9_ := Aside0.mk (hbox)
          have n10_ := Aside0.mk ((by rw [hg]; exact (below_size (bl HB)) : w.heap.size ≤ gb760))
          have n11_ := Aside0.mk ((by rw [hg]; exact (below_size (bl HB)) : w.heap.size ≤ gb760))
          have n12_ := Aside0.mk ((by rw [hg]; exact Nat.ne_of_lt (bkL BK737) : gb737 ≠ gb760))
          have n13_ := Aside0.mk ((by rw [hg]; exact Nat.ne_of_gt (bkL BK737) : gb760 ≠ gb737))
          have n14_ := Aside0.mk ((by rw [hg]; exact Nat.ne_of_lt (bkL BK738) : gb738 ≠ gb760))
          have n15_ := Aside0.mk ((by rw [hg]; exact Nat.ne_of_gt (bkL BK738) : gb760 ≠ gb738))
          have n16_ := Aside0.mk ((by rw [hg]; exact Nat.ne_of_lt (bkL BK749) : gb749 ≠ gb760))
          have n17_ := Aside0.mk ((by rw [hg]; exact Nat.ne_of_gt (bkL BK749) : gb760 ≠ gb749))
          have n18_ := Aside0.mk ((by rw [hg]; exact Nat.ne_of_lt (bkL BK753) : gb753 ≠ gb760))
          have n19_ := Aside0.mk ((by rw [hg]; exact Nat.ne_of_gt (bkL BK753) : gb760 ≠ gb753))
          clear HO742
          clear HO747
          clear HO752
          clear HO758
          clear BK737
          clear BK738
          clear BK749
          clear BK753
          clear HB
          have HO742 := n0_
          have HO747 := n1_
          have HO752 := n2_
          have HO758 := n3_
          have BK737 := n4_
          have BK738 := n5_
          have BK749 := n6_
          have BK753 := n7_
          have HB := n8_
          have BK760 := n9_
          have GW760 := n10_
          have GE760 := n11_
          have NB737_760 := n12_
          have NB760_737 := n13_
          have NB738_760 := n14_
          have NB760_738 := n15_
          have NB749_760 := n16_
          have NB760_749 := n17_
          have NB753_760 := n18_
          have NB760_753 := n19_
          clear n0_ n1_ n2_ n3_ n4_ n5_ n6_ n7_ n8_ n9_ n10_ n11_ n12_ n13_ n14_ n15_ n16_ n17_ n18_ n19_
          clear hb hbox hg
          refine hK.out _ _ ⟨(blk_cell BK753.out 0).trans rfl, (blk_cell BK738.out 0).trans rfl, (blk_cell BK738.out 1).trans rfl⟩ (fun hHeld => ?_)
          clear hK K
          refine norm_ (a' := ?_) ?_ ?_
          rotate_left
          · show Act.put _ (some 9) _ = _
            simp only [Act.put, List.setIfInBounds_toArray, List.set_cons_zero, List.set_cons_succ, i64_w, i32_w]
            rfl
          exact norm_ (by simp only [putAll, Act.put, List.setIfInBounds_toArray, List.set_cons_zero, List.set_cons_succ]) (hCont (v757, gb760) _ ⟨hHeld, (by (with_reducible repeat apply ru); exact Kd.R_mono HO742.out (fun _ hk => ⟨hk.1.1, ⟨hk.1.2, hk.2⟩⟩)), (by (with_reducible repeat apply ru); exact Kd.R_mono HO747.out (fun _ hk => ⟨hk.1.1, ⟨hk.1.2, hk.2⟩⟩)), (by (with_reducible repeat apply ru); exact Kd.R_mono HO752.out (fun _ hk => ⟨hk.1.1, ⟨hk.1.2, hk.2⟩⟩)), (by (with_reducible repeat apply ru); exact Kd.R_mono HO758.out (fun _ hk => ⟨hk.1.1.2, ⟨hk.1.2, hk.2⟩⟩)), (bk BK737), (bk BK738), (bk BK749), (bk BK753), (bk BK760), GW760.out, GE760.out, NB737_760.out, NB760_737.out, NB738_760.out, NB760_738.out, NB749_760.out, NB760_749.out, NB753_760.out, NB760_753.out, (bl HB)⟩)
        · skip
          refine box_step ?hg (N := 9) ?hd (cs := #[.slice none 0 0]) (t := 45) ?hr ?_; (case hd => rfl); (case hg => rfl); (case hr => first | (go_simp; done) | (go_simp; rfl))
          intro gb760 hg w43 hbox hb
          have n0_ := Aside0.mk (Kd.R_below (rs HO742) hb)
          have n1_ := Aside0.mk (Kd.R_below (rs HO747) hb)
          have n2_ := Aside0.mk (Kd.R_below (rs HO752) hb)
          have n3_ := bkB BK737 hb
          have n4_ := bkB BK738 hb
          have n5_ := bkB BK749 hb
          have n6_ := bkB BK753 hb
          have n7_ := Aside0.mk (below_step (bl HB) hb)
          have n8_ := Aside0.mk (hbox)
          have n9_ := Aside0.mk ((by rw [hg]; exact (below_size (bl HB)) : w.heap.size ≤ gb760))
          have n10_ := Aside0.mk ((by rw [hg]; exact (below_size (bl HB)) : w.heap.size ≤ gb760))
          have n11_ := Aside0.mk ((by rw [hg]; exact Nat.ne_of_lt (bkL BK737) : gb737 ≠ gb760))
          have n12_ := Aside0.mk ((by rw [hg]; exact Nat.ne_of_gt (bkL BK737) : gb760 ≠ gb737))
          have n13_ := Aside0.mk ((by rw [hg]; exact Nat.ne_of_lt (bkL BK738) : gb738 ≠ gb760))
          have n14_ := Aside0.mk ((by rw [hg]; exact Nat.ne_of_gt (bkL BK738) : gb760 ≠ gb738))
          have n15_ := Aside0.mk ((by rw [hg]; exact Nat.ne_of_lt (bkL BK749) : gb749 ≠ gb760))
          have n16_ := Aside0.mk ((by rw [hg]; exact Nat.ne_of_gt (bkL BK749) : gb760 ≠ gb749))
          have n17_ := Aside0.mk ((by rw [hg]; exact Nat.ne_of_lt (bkL BK753) : gb753 ≠ gb760))
          have n18_ := Aside0.mk ((by rw [hg]; exact Nat.ne_of_gt (bkL BK753) : gb760 ≠ gb753))
          clear HO742
          clear HO747
          clear HO752
          clear BK737
          clear BK738
          clear BK749
          clear BK753
          clear HB
          have HO742 := n0_
          have HO747 := n1_
          have HO752 := n2_
          have BK737 := n3_
          have BK738 := n4_
          have BK749 := n5_
          have BK753 := n6_
          have HB := n7_
          have BK760 := n8_
          have GW760 := n9_
          have GE760 := n10_
          have NB737_760 := n11_
          have NB760_737 := n12_
          have NB738_760 := n13_
          have NB760_738 := n14_
          have NB749_760 := n15_
          have NB760_749 := n16_
          have NB753_760 := n17_
          have NB760_753 := n18_
          clear n0_ n1_ n2_ n3_ n4_ n5_ n6_ n7_ n8_ n9_ n10_ n11_ n12_ n13_ n14_ n15_ n16_ n17_ n18_
          clear hb hbox hg
          refine hK.out _ _ ⟨(blk_cell BK753.out 0).trans rfl, (blk_cell BK738.out 0).trans rfl, (blk_cell BK738.out 1).trans rfl⟩ (fun hHeld => ?_)
          clear hK K
          refine norm_ (a' := ?_) ?_ ?_
          rotate_left
          · show Act.put _ (some 9) _ = _
            simp only [Act.put, List.setIfInBounds_toArray, List.set_cons_zero, List.set_cons_succ, i64_w, i32_w]
            rfl
          refine one_ (i := 3) (N := some 35) #[true, true, true, true, false, false, false, true, false, false] rfl rfl (one_of HT_.out (by kernel_rfl)) (by decide) (fun K hK => ?_)
          refine goes_ Try.func26 (by kernel_rfl) rfl #[.agg #[.slice Ao35 t750.length co35], .agg #[.int .i64 t754, .int .i64 t755]] (by rfl) rfl rfl (by (try simp only [List.map_toArray, List.map_cons, List.map_nil]); first | done | rfl | (simp only [List.length_drop, List.length_take]; rfl)) ?_
          with_reducible refine (impl_MapPut.calls k _ _ t750 t754 t755 t756 t759 _ ?side1 ?side2 A15.out).mono ?_
          (case side1 => repeat (first | exact (Kd.R_reads' HO752.out).2.2 | (with_reducible refine Kd.C_alloc ?_ _) | (with_reducible refine Kd.C_drewN ?_ _) | (with_reducible refine Kd.C_drew ?_)))
          (case side2 => exact (Kd.R_reads' HO752.out).2.1)
          rintro e w44 ⟨v757, rfl, ho0, hb⟩
          refine ⟨_, rfl, ?_⟩
          have n0_ := Aside0.mk (Kd.R_elder' (rs HO742) (Kd.R_base ho0) hb)
          have n1_ := Aside0.mk (Kd.R_elder' (rs HO747) (Kd.R_base ho0) hb)
          have n2_ := Aside0.mk (Kd.R_elder' (rs HO752) (Kd.R_base ho0) hb)
          have n3_ := Aside0.mk (Kd.R_lower (Kd.R_new' (Kd.R_new' (Kd.R_new' ho0 (Kd.R_lt (rs HO742))) (Kd.R_lt (rs HO747))) (Kd.R_lt (rs HO752))) (below_size (bl HB)))
          have n4_ := bkB BK737 hb
          have n5_ := bkB BK738 hb
          have n6_ := bkB BK749 hb
          have n7_ := bkB BK753 hb
          have n8_ := bkB BK760 hb
          have n9_ := Aside0.mk (below_step (bl HB) hb)
          clear HO742
          clear HO747
          clear HO752
          clear BK737
          clear BK738
          clear BK749
          clear BK753
          clear BK760
          clear HB
          have HO742 := n0_
          have HO747 := n1_
          have HO752 := n2_
          have HO758 := n3_
          have BK737 := n4_
          have BK738 := n5_
          have BK749 := n6_
          have BK753 := n7_
          have BK760 := n8_
          have HB := n9_
          clear n0_ n1_ n2_ n3_ n4_ n5_ n6_ n7_ n8_ n9_
          (try clear hb)
          (try clear hb2)
          (try clear hk)
          (try clear hi)
          (try clear ho0)
          refine hK.out _ _ ⟨(blk_cell BK753.out 0).trans rfl, (blk_cell BK738.out 0).trans rfl, (blk_cell BK738.out 1).trans rfl⟩ (fun hHeld => ?_)
          clear hK K
          refine norm_ (a' := ?_) ?_ ?_
          rotate_left
          · show Act.put _ (some 35) _ = _
            simp only [Act.put, List.setIfInBounds_toArray, List.set_cons_zero, List.set_cons_succ, i64_w, i32_w]
            rfl
          refine pure_ (i := 4) (N := some 31) (v := ?_) (a' := ?_) #[true, true, true, true, true, false, false, true, false, false] rfl rfl (any_of HT_.out (by kernel_rfl)) (fun _ _ _ h => h) (Or.inl ⟨by rfl, ?_⟩) ?_ ?_
          rotate_left
          · intro w'
            go_simp
            with_reducible rfl
          rotate_left
          · simp only [Act.put, List.setIfInBounds_toArray, List.set_cons_zero, List.set_cons_succ, i64_w, i32_w]
            rfl
          refine pure_ (i := 5) (N := some 36) (v := ?_) (a' := ?_) #[true, true, true, true, true, true, false, true, false, false] rfl rfl (any_of HT_.out (by kernel_rfl)) (fun _ _ _ h => h) (Or.inl ⟨by rfl, ?_⟩) ?_ ?_
          rotate_left
          · intro w'
            go_simp
            with_reducible rfl
          rotate_left
          · simp only [Act.put, List.setIfInBounds_toArray, List.set_cons_zero, List.set_cons_succ, i64_w, i32_w]
            rfl
          refine pure_ (i := 6) (N := some 37) (v := ?_) (a' := ?_) #[true, true, true, true, true, true, true, true, false, false] rfl rfl (any_of HT_.out (by kernel_rfl)) (fun _ _ _ h => h) (Or.inl ⟨by rfl, ?_⟩) ?_ ?_
          rotate_left
          · intro w'
            go_simp
            with_reducible rfl
          rotate_left
          · simp only [Act.put, List.setIfInBounds_toArray, List.set_cons_zero, List.set_cons_succ, i64_w, i32_w]
            rfl
          exact norm_ (by simp only [putAll, Act.put, List.setIfInBounds_toArray, List.set_cons_zero, List.set_cons_succ]) (hCont (v757, gb760) _ ⟨hHeld, (by (with_reducible repeat apply ru); exact Kd.R_mono HO742.out (fun _ hk => ⟨hk.1.1, ⟨hk.1.2, hk.2⟩⟩)), (by (with_reducible repeat apply ru); exact Kd.R_mono HO747.out (fun _ hk => ⟨hk.1.1, ⟨hk.1.2, hk.2⟩⟩)), (by (with_reducible repeat apply ru); exact Kd.R_mono HO752.out (fun _ hk => ⟨hk.1.1, ⟨hk.1.2, hk.2⟩⟩)), (by (with_reducible repeat apply ru); exact Kd.R_mono HO758.out (fun _ hk => ⟨hk.1.1.2, ⟨hk.1.2, hk.2⟩⟩)), (bk BK737), (bk BK738), (bk BK749), (bk BK753), (bk BK760), GW760.out, GE760.out, NB737_760.out, NB760_737.out, NB738_760.out, NB760_738.out, NB749_760.out, NB760_749.out, NB753_760.out, NB760_753.out, (bl HB)⟩)
      · skip
        refine box_step ?hg (N := 9) ?hd (cs := #[.slice none 0 0]) (t := 45) ?hr ?_; (case hd => rfl); (case hg => rfl); (case hr => first | (go_simp; done) | (go_simp; rfl))
        intro gb760 hg w42 hbox hb
        have n0_ := Aside0.mk (Kd.R_below (rs HO742) hb)
        have n1_ := Aside0.mk (Kd.R_below (rs HO747) hb)
        have n2_ := Aside0.mk (Kd.R_below (rs HO752) hb)
        have n3_ := bkB BK737 hb
        have n4_ := bkB BK738 hb
        have n5_ := bkB BK749 hb
        have n6_ := bkB BK753 hb
        have n7_ := Aside0.mk (below_step (bl HB) hb)
        have n8_ := Aside0.mk (hbox)
        have n9_ := Aside0.mk ((by rw [hg]; exact (below_size (bl HB)) : w.heap.size ≤ gb760))
        have n10_ := Aside0.mk ((by rw [hg]; exact (below_size (bl HB)) : w.heap.size ≤ gb760))
        have n11_ := Aside0.mk ((by rw [hg]; exact Nat.ne_of_lt (bkL BK737) : gb737 ≠ gb760))
        have n12_ := Aside0.mk ((by rw [hg]; exact Nat.ne_of_gt (bkL BK737) : gb760 ≠ gb737))
        have n13_ := Aside0.mk ((by rw [hg]; exact Nat.ne_of_lt (bkL BK738) : gb738 ≠ gb760))
        have n14_ := Aside0.mk ((by rw [hg]; exact Nat.ne_of_gt (bkL BK738) : gb760 ≠ gb738))
        have n15_ := Aside0.mk ((by rw [hg]; exact Nat.ne_of_lt (bkL BK749) : gb749 ≠ gb760))
        have n16_ := Aside0.mk ((by rw [hg]; exact Nat.ne_of_gt (bkL BK749) : gb760 ≠ gb749))
        have n17_ := Aside0.mk ((by rw [hg]; exact Nat.ne_of_lt (bkL BK753) : gb753 ≠ gb760))
        have n18_ := Aside0.mk ((by rw [hg]; exact Nat.ne_of_gt (bkL BK753) : gb760 ≠ gb753))
        clear HO742
        clear HO747
        clear HO752
        clear BK737
        clear BK738
        clear BK749
        clear BK753
        clear HB
        have HO742 := n0_
        have HO747 := n1_
        have HO752 := n2_
        have BK737 := n3_
        have BK738 := n4_
        have BK749 := n5_
        have BK753 := n6_
        have HB := n7_
        have BK760 := n8_
        have GW760 := n9_
        have GE760 := n10_
        have NB737_760 := n11_
        have NB760_737 := n12_
        have NB738_760 := n13_
        have NB760_738 := n14_
        have NB749_760 := n15_
        have NB760_749 := n16_
        have NB753_760 := n17_
        have NB760_753 := n18_
        clear n0_ n1_ n2_ n3_ n4_ n5_ n6_ n7_ n8_ n9_ n10_ n11_ n12_ n13_ n14_ n15_ n16_ n17_ n18_
        clear hb hbox hg
        refine hK.out _ _ ⟨(blk_cell BK753.out 0).trans rfl, (blk_cell BK738.out 0).trans rfl, (blk_cell BK738.out 1).trans rfl⟩ (fun hHeld => ?_)
        clear hK K
        refine norm_ (a' := ?_) ?_ ?_
        rotate_left
        · show Act.put _ (some 9) _ = _
          simp only [Act.put, List.setIfInBounds_toArray, List.set_cons_zero, List.set_cons_succ, i64_w, i32_w]
          rfl
        refine one_ (i := 2) (N := some 34) #[true, true, true, false, false, false, false, true, false, false] rfl rfl (one_of HT_.out (by kernel_rfl)) (by decide) (fun K hK => ?_)
        refine goes_ Try.func19 (by kernel_rfl) rfl #[.agg #[.int .i64 a1_0, .int .i64 a1_1]] (by rfl) rfl rfl (by (try simp only [List.map_toArray, List.map_cons, List.map_nil]); first | done | rfl | (simp only [List.length_drop, List.length_take]; rfl)) ?_
        with_reducible refine (laws_toEndPoint.calls a1_0 a1_1 t754 t755 _ A14.out).mono ?_
        rintro e w43 ⟨rfl, hb⟩
        refine ⟨_, rfl, ?_⟩
        have n0_ := Aside0.mk (Kd.R_below (rs HO742) hb)
        have n1_ := Aside0.mk (Kd.R_below (rs HO747) hb)
        have n2_ := Aside0.mk (Kd.R_below (rs HO752) hb)
        have n3_ := bkB BK737 hb
        have n4_ := bkB BK738 hb
        have n5_ := bkB BK749 hb
        have n6_ := bkB BK753 hb
        have n7_ := bkB BK760 hb
        have n8_ := Aside0.mk (below_step (bl HB) hb)
        clear HO742
        clear HO747
        clear HO752
        clear BK737
        clear BK738
        clear BK749
        clear BK753
        clear BK760
        clear HB
        have HO742 := n0_
        have HO747 := n1_
        have HO752 := n2_
        have BK737 := n3_
        have BK738 := n4_
        have BK749 := n5_
        have BK753 := n6_
        have BK760 := n7_
        have HB := n8_
        clear n0_ n1_ n2_ n3_ n4_ n5_ n6_ n7_ n8_
        (try clear hb)
        (try clear hb2)
        (try clear hk)
        (try clear hi)
        refine hK.out _ _ ⟨(blk_cell BK753.out 0).trans rfl, (blk_cell BK738.out 0).trans rfl, (blk_cell BK738.out 1).trans rfl⟩ (fun hHeld => ?_)
        clear hK K
        refine norm_ (a' := ?_) ?_ ?_
        rotate_left
        · show Act.put _ (some 34) _ = _
          simp only [Act.put, List.setIfInBounds_toArray, List.set_cons_zero, List.set_cons_succ, i64_w, i32_w]
          rfl
        refine one_ (i := 3) (N := some 35) #[true, true, true, true, false, false, false, true, false, false] rfl rfl (one_of HT_.out (by kernel_rfl)) (by decide) (fun K hK => ?_)
        refine goes_ Try.func26 (by kernel_rfl) rfl #[.agg #[.slice Ao35 t750.length co35], .agg #[.int .i64 t754, .int .i64 t755]] (by rfl) rfl rfl (by (try simp only [List.map_toArray, List.map_cons, List.map_nil]); first | done | rfl | (simp only [List.length_drop, List.length_take]; rfl)) ?_
        with_reducible refine (impl_MapPut.calls k _ _ t750 t754 t755 t756 t759 _ ?side1 ?side2 A15.out).mono ?_
        (case side1 => repeat (first | exact (Kd.R_reads' HO752.out).2.2 | (with_reducible refine Kd.C_alloc ?_ _) | (with_reducible refine Kd.C_drewN ?_ _) | (with_reducible refine Kd.C_drew ?_)))
        (case side2 => exact (Kd.R_reads' HO752.out).2.1)
        rintro e w44 ⟨v757, rfl, ho0, hb⟩
        refine ⟨_, rfl, ?_⟩
        have n0_ := Aside0.mk (Kd.R_elder' (rs HO742) (Kd.R_base ho0) hb)
        have n1_ := Aside0.mk (Kd.R_elder' (rs HO747) (Kd.R_base ho0) hb)
        have n2_ := Aside0.mk (Kd.R_elder' (rs HO752) (Kd.R_base ho0) hb)
        have n3_ := Aside0.mk (Kd.R_lower (Kd.R_new' (Kd.R_new' (Kd.R_new' ho0 (Kd.R_lt (rs HO742))) (Kd.R_lt (rs HO747))) (Kd.R_lt (rs HO752))) (below_size (bl HB)))
        have n4_ := bkB BK737 hb
        have n5_ := bkB BK738 hb
        have n6_ := bkB BK749 hb
        have n7_ := bkB BK753 hb
        have n8_ := bkB BK760 hb
        have n9_ := Aside0.mk (below_step (bl HB) hb)
        clear HO742
        clear HO747
        clear HO752
        clear BK737
        clear BK738
        clear BK749
        clear BK753
        clear BK760
        clear HB
        have HO742 := n0_
        have HO747 := n1_
        have HO752 := n2_
        have HO758 := n3_
        have BK737 := n4_
        have BK738 := n5_
        have BK749 := n6_
        have BK753 := n7_
        have BK760 := n8_
        have HB := n9_
        clear n0_ n1_ n2_ n3_ n4_ n5_ n6_ n7_ n8_ n9_
        (try clear hb)
        (try clear hb2)
        (try clear hk)
        (try clear hi)
        (try clear ho0)
        refine hK.out _ _ ⟨(blk_cell BK753.out 0).trans rfl, (blk_cell BK738.out 0).trans rfl, (blk_cell BK738.out 1).trans rfl⟩ (fun hHeld => ?_)
        clear hK K
        refine norm_ (a' := ?_) ?_ ?_
        rotate_left
        · show Act.put _ (some 35) _ = _
          simp only [Act.put, List.setIfInBounds_toArray, List.set_cons_zero, List.set_cons_succ, i64_w, i32_w]
          rfl
        refine pure_ (i := 4) (N := some 31) (v := ?_) (a' := ?_) #[true, true, true, true, true, false, false, true, false, false] rfl rfl (any_of HT_.out (by kernel_rfl)) (fun _ _ _ h => h) (Or.inl ⟨by rfl, ?_⟩) ?_ ?_
        rotate_left
        · intro w'
          go_simp
          with_reducible rfl
        rotate_left
        · simp only [Act.put, List.setIfInBounds_toArray, List.set_cons_zero, List.set_cons_succ, i64_w, i32_w]
          rfl
        refine pure_ (i := 5) (N := some 36) (v := ?_) (a' := ?_) #[true, true, true, true, true, true, false, true, false, false] rfl rfl (any_of HT_.out (by kernel_rfl)) (fun _ _ _ h => h) (Or.inl ⟨by rfl, ?_⟩) ?_ ?_
        rotate_left
        · intro w'
          go_simp
          with_reducible rfl
        rotate_left
        · simp only [Act.put, List.setIfInBounds_toArray, List.set_cons_zero, List.set_cons_succ, i64_w, i32_w]
          rfl
        refine pure_ (i := 6) (N := some 37) (v := ?_) (a' := ?_) #[true, true, true, true, true, true, true, true, false, false] rfl rfl (any_of HT_.out (by kernel_rfl)) (fun _ _ _ h => h) (Or.inl ⟨by rfl, ?_⟩) ?_ ?_
        rotate_left
        · intro w'
          go_simp
          with_reducible rfl
        rotate_left
        · simp only [Act.put, List.setIfInBounds_toArray, List.set_cons_zero, List.set_cons_succ, i64_w, i32_w]
          rfl
        exact norm_ (by simp only [putAll, Act.put, List.setIfInBounds_toArray, List.set_cons_zero, List.set_cons_succ]) (hCont (v757, gb760) _ ⟨hHeld, (by (with_reducible repeat apply ru); exact Kd.R_mono HO742.out (fun _ hk => ⟨hk.1.1, ⟨hk.1.2, hk.2⟩⟩)), (by (with_reducible repeat apply ru); exact Kd.R_mono HO747.out (fun _ hk => ⟨hk.1.1, ⟨hk.1.2, hk.2⟩⟩)), (by (with_reducible repeat apply ru); exact Kd.R_mono HO752.out (fun _ hk => ⟨hk.1.1, ⟨hk.1.2, hk.2⟩⟩)), (by (with_reducible repeat apply ru); exact Kd.R_mono HO758.out (fun _ hk => ⟨hk.1.1.2, ⟨hk.1.2, hk.2⟩⟩)), (bk BK737), (bk BK738), (bk BK749), (bk BK753), (bk BK760), GW760.out, GE760.out, NB737_760.out, NB760_737.out, NB738_760.out, NB760_738.out, NB749_760.out, NB760_749.out, NB753_760.out, NB760_753.out, (bl HB)⟩)
    rintro ⟨v757, gb760⟩ w45 ⟨hS_, h0_, h1_, h2_, h3_, h4_, h5_, h6_, h7_, h8_, h9_, h10_, h11_, h12_, h13_, h14_, h15_, h16_, h17_, h18_, h19_⟩
    have n0_ : Aside0 (Kd.R k29 29 w45 w.heap.size (fun k_ => some k_ ≠ (.slice Ao29 t745.length co29 : Value).ownBlock ∧ some k_ ≠ (.slice Ao35 t750.length co35 : Value).ownBlock ∧ some k_ ≠ (v757 : Value).ownBlock) v741 t740) := ⟨h0_⟩
    have n1_ : Aside0 (Kd.R k29 29 w45 w.heap.size (fun k_ => some k_ ≠ (v741 : Value).ownBlock ∧ some k_ ≠ (.slice Ao35 t750.length co35 : Value).ownBlock ∧ some k_ ≠ (v757 : Value).ownBlock) (.slice Ao29 t745.length co29) t745) := ⟨h1_⟩
    have n2_ : Aside0 (Kd.R k29 29 w45 w.heap.size (fun k_ => some k_ ≠ (v741 : Value).ownBlock ∧ some k_ ≠ (.slice Ao29 t745.length co29 : Value).ownBlock ∧ some k_ ≠ (v757 : Value).ownBlock) (.slice Ao35 t750.length co35) t750) := ⟨h2_⟩
    have n3_ : Aside0 (Kd.R k29 29 w45 w.heap.size (fun k_ => some k_ ≠ (v741 : Value).ownBlock ∧ some k_ ≠ (.slice Ao29 t745.length co29 : Value).ownBlock ∧ some k_ ≠ (.slice Ao35 t750.length co35 : Value).ownBlock) v757 t756) := ⟨h3_⟩
    have n4_ : Aside0 (w45.heap[gb737]? = some (.cells #[.slice A0_0 l0_0.length c0_0] 55 (0, 0))) := ⟨h4_⟩
    have n5_ : Aside0 (w45.heap[gb738]? = some (.cells #[.int .i64 a1_0, .int .i64 a1_1] 34 (0, 0))) := ⟨h5_⟩
    have n6_ : Aside0 (w45.heap[gb749]? = some (.cells #[.slice Ao29 t745.length co29] 45 (0, 0))) := ⟨h6_⟩
    have n7_ : Aside0 (w45.heap[gb753]? = some (.cells #[.slice Ao35 t750.length co35] 45 (0, 0))) := ⟨h7_⟩
    have n8_ : Aside0 (w45.heap[gb760]? = some (.cells #[.slice none 0 0] 45 (0, 0))) := ⟨h8_⟩
    have n9_ : Aside0 (w.heap.size ≤ gb760) := ⟨h9_⟩
    have n10_ : Aside0 (w.heap.size ≤ gb760) := ⟨h10_⟩
    have n11_ : Aside0 (gb737 ≠ gb760) := ⟨h11_⟩
    have n12_ : Aside0 (gb760 ≠ gb737) := ⟨h12_⟩
    have n13_ : Aside0 (gb738 ≠ gb760) := ⟨h13_⟩
    have n14_ : Aside0 (gb760 ≠ gb738) := ⟨h14_⟩
    have n15_ : Aside0 (gb749 ≠ gb760) := ⟨h15_⟩
    have n16_ : Aside0 (gb760 ≠ gb749) := ⟨h16_⟩
    have n17_ : Aside0 (gb753 ≠ gb760) := ⟨h17_⟩
    have n18_ : Aside0 (gb760 ≠ gb753) := ⟨h18_⟩
    have n19_ : Aside0 (Below w.heap.size w w45) := ⟨h19_⟩
    clear HO742
    clear HO747
    clear HO752
    clear BK737
    clear BK738
    clear BK749
    clear BK753
    clear HB
    clear h0_ h1_ h2_ h3_ h4_ h5_ h6_ h7_ h8_ h9_ h10_ h11_ h12_ h13_ h14_ h15_ h16_ h17_ h18_ h19_
    have HO742 := n0_
    have HO747 := n1_
    have HO752 := n2_
    have HO758 := n3_
    have BK737 := n4_
    have BK738 := n5_
    have BK749 := n6_
    have BK753 := n7_
    have BK760 := n8_
    have GW760 := n9_
    have GE760 := n10_
    have NB737_760 := n11_
    have NB760_737 := n12_
    have NB738_760 := n13_
    have NB760_738 := n14_
    have NB749_760 := n15_
    have NB760_749 := n16_
    have NB753_760 := n17_
    have NB760_753 := n18_
    have HB := n19_
    clear n0_ n1_ n2_ n3_ n4_ n5_ n6_ n7_ n8_ n9_ n10_ n11_ n12_ n13_ n14_ n15_ n16_ n17_ n18_ n19_
    have hHeld : w45.cell? ⟨gb753, 0, none⟩ = some (.slice Ao35 t750.length co35) ∧ w45.cell? ⟨gb738, 0, none⟩ = some (.int .i64 a1_0) ∧ w45.cell? ⟨gb738, 1, none⟩ = some (.int .i64 a1_1) := hS_
    obtain ⟨Ao46, co46, eo46⟩ := Kd.R_slice HO758.out
    (first | subst eo46 | (injection eo46 with f1_ f2_ f3_; have f4_ := f1_.symm; have f5_ := f3_.symm; clear f1_ f2_ f3_; subst f4_; subst f5_))
    refine norm_ (a' := ?_) ?_ ?_
    rotate_left
    · simp only [putAll, Act.put, List.setIfInBounds_toArray, List.set_cons_zero, List.set_cons_succ]
      rfl
    refine one_ (i := 8) (N := none) #[true, true, true, true, true, true, true, true, true, false] rfl rfl (one_of HT_.out (by kernel_rfl)) (by decide) (fun K hK => ?_)
    have hs47 : w45.cell? ⟨gb760, 0, none⟩ = some (.slice none 0 0) := (blk_cell BK760.out 0).trans rfl
    have hfs47 := blk_frozen BK760.out 0
    have hns47_0 := NB737_760.out
    have hns47_1 := NB738_760.out
    have hns47_2 := NB749_760.out
    have hns47_3 := NB753_760.out
    have hms47_0 := NB760_737.out
    have hms47_1 := NB760_738.out
    have hms47_2 := NB760_749.out
    have hms47_3 := NB760_753.out
    refine skip_ (w1 := ?_) (by rfl) rfl ?_ ?_
    rotate_left
    · go_simp
      rfl
    refine hK.out _ _ ⟨((cell_far (p := ⟨gb760, _, none⟩) NB753_760.out _).trans (hHeld.1)), ((cell_far (p := ⟨gb760, _, none⟩) NB738_760.out _).trans (hHeld.2.1)), ((cell_far (p := ⟨gb760, _, none⟩) NB738_760.out _).trans (hHeld.2.2))⟩ (fun hHeld => ?_)
    clear hK K
    refine pure_ (i := 9) (N := some 10) (v := ?_) (a' := ?_) #[true, true, true, true, true, true, true, true, true, true] rfl rfl (any_of HT_.out (by kernel_rfl)) (fun _ _ _ h => h) (Or.inl ⟨by rfl, ?_⟩) ?_ ?_
    rotate_left
    · intro w'
      go_simp
      with_reducible rfl
    rotate_left
    · simp only [Act.put, List.setIfInBounds_toArray, List.set_cons_zero, List.set_cons_succ, i64_w, i32_w]
      rfl
    refine done_ (done_of HT_.out (by kernel_rfl)) ?_
    go_upto_region 8 with (fail)
    go_cut [46] (fun v46 wc => ∃ (kq : Nat) (x46_15 : Bool), v46 = .bool x46_15 ∧ Aside0 (laws_FnExactMapPut.j0 kq t748 t759 x46_15 l0_0 a1_0 a1_1 t745 t750 t756 = some r) ∧ Aside0 (kq ≤ k) ∧ Aside0 (Kd.R k29 29 wc w.heap.size (fun k_ => some k_ ≠ ((.slice Ao35 t750.length co35) : Value).ownBlock ∧ some k_ ≠ ((.slice Ao46 t756.length co46) : Value).ownBlock) (.slice Ao29 t745.length co29) t745) ∧ Aside0 (Kd.R k29 29 wc w.heap.size (fun k_ => some k_ ≠ ((.slice Ao29 t745.length co29) : Value).ownBlock ∧ some k_ ≠ ((.slice Ao46 t756.length co46) : Value).ownBlock) (.slice Ao35 t750.length co35) t750) ∧ Aside0 (Kd.R k29 29 wc w.heap.size (fun k_ => some k_ ≠ ((.slice Ao29 t745.length co29) : Value).ownBlock ∧ some k_ ≠ ((.slice Ao35 t750.length co35) : Value).ownBlock) (.slice Ao46 t756.length co46) t756) ∧ Aside0 (wc.heap[gb737]? = some (.cells #[(.slice A0_0 l0_0.length c0_0)] 55 (0, 0))) ∧ Aside0 (wc.heap[gb738]? = some (.cells #[.int .i64 a1_0, .int .i64 a1_1] 34 (0, 0))) ∧ Aside0 (wc.heap[gb749]? = some (.cells #[(.slice Ao29 t745.length co29)] 45 (0, 0))) ∧ Aside0 (wc.heap[gb753]? = some (.cells #[(.slice Ao35 t750.length co35)] 45 (0, 0))) ∧ Aside0 (wc.heap[gb760]? = some (.cells #[(.slice Ao46 t756.length co46)] 45 (0, 0))) ∧ Aside0 (Below w.heap.size w wc))
    case first =>
      have H := HC16.out
      clear HC16
      replace H := Option.bind_eq_some_iff.mp H
      obtain ⟨t761, A480, H⟩ := H
      replace H : (if t761 = true then (laws_FnExactMapPut.j0 k t748 t759 (t759 != t748) l0_0 a1_0 a1_1 t745 t750 t756) else (laws_FnExactMapPut.j0 k t748 t759 true l0_0 a1_0 a1_1 t745 t750 t756)) = some r := H
      have A48 := Aside0.mk A480
      clear A480
      by_cases c49 : t761 = true
      · subst c49
        have H1 : (laws_FnExactMapPut.j0 k t748 t759 (t759 != t748) l0_0 a1_0 a1_1 t745 t750 t756) = some r := by rw [if_pos rfl] at H; exact H
        clear H
        have H := H1
        clear H1
        have H' := Aside0.mk H
        clear H
        have hnb50 := NB760_737.out
        have hnc50 := NB737_760.out
        have hnb51 := NB760_738.out
        have hnc51 := NB738_760.out
        have hnb52 := NB760_749.out
        have hnc52 := NB749_760.out
        have hnb53 := NB760_753.out
        have hnc53 := NB753_760.out
        have hcz54_0 : w45.cell? ⟨gb760, 0, none⟩ = some (.slice none 0 0) := (blk_cell BK760.out 0).trans rfl
        have hfz54_0 := blk_frozen BK760.out 0
        have hnb55 := NB749_737.out
        have hnc55 := NB737_749.out
        have hnb56 := NB749_738.out
        have hnc56 := NB738_749.out
        have hnb57 := NB749_753.out
        have hnc57 := NB753_749.out
        have hcz58_0 : w45.cell? ⟨gb749, 0, none⟩ = some (.slice Ao29 t745.length co29) := (blk_cell BK749.out 0).trans rfl
        have hfz58_0 := blk_frozen BK749.out 0
        go_wp2_with (first | ((with_reducible refine gate_callee (f := 31) rfl ?_); refine goesL_ (some 40) rfl rfl Try.func31 (by kernel_rfl) rfl #[.agg #[.slice Ao46 t756.length co46], .agg #[.slice Ao29 t745.length co29]] rfl (by (try simp only [List.map_toArray, List.map_cons, List.map_nil]); first | done | rfl | (simp only [List.length_drop, List.length_take]; rfl)) ?_; (with_reducible refine (laws_eqMapTab.calls k _ _ t756 _ _ t745 true _ ?side1 ?side2 ?side3 ?side4 A48.out).mono ?_); (case side1 => refine (Kd.R_reads' (e := 29) (base := w.heap.size) (ok := fun k_ => (some k_ ≠ (v741 : Value).ownBlock ∧ (some k_ ≠ (.slice Ao29 t745.length co29 : Value).ownBlock ∧ some k_ ≠ (.slice Ao35 t750.length co35 : Value).ownBlock))) (n := t756.length) (c := co46) ?_).2.2; exact (by (with_reducible repeat apply ru); exact (Kd.R_mono (Kd.R_far (p := ⟨gb760, 0, none⟩) (Kd.R_types HO758.out BK760.out (by decide)) (fun _ hk => hk.2) (.slice Ao46 t756.length co46)) (fun _ h_ => h_.1)))); (case side2 => exact (Kd.R_reads' HO758.out).2.1); (case side3 => refine (Kd.R_reads' (e := 29) (base := w.heap.size) (ok := fun k_ => (some k_ ≠ (v741 : Value).ownBlock ∧ (some k_ ≠ (.slice Ao35 t750.length co35 : Value).ownBlock ∧ some k_ ≠ (.slice Ao46 t756.length co46 : Value).ownBlock))) (n := t745.length) (c := co29) ?_).2.2; exact (by (with_reducible repeat apply ru); exact (Kd.R_mono (Kd.R_far (p := ⟨gb760, 0, none⟩) (Kd.R_types HO747.out BK760.out (by decide)) (fun _ hk => hk.2) (.slice Ao46 t756.length co46)) (fun _ h_ => h_.1)))); (case side4 => exact (Kd.R_reads' HO747.out).2.1); rintro e w59 ⟨rfl, hb⟩; refine ⟨_, rfl, ?_⟩; have n0_ := Aside0.mk (Kd.R_below (by (with_reducible repeat apply ru); exact (Kd.R_mono (Kd.R_far (p := ⟨gb760, 0, none⟩) (Kd.R_types HO742.out BK760.out (by decide)) (fun _ hk => hk.2) (.slice Ao46 t756.length co46)) (fun _ h_ => h_.1))) hb); have n1_ := Aside0.mk (Kd.R_below (by (with_reducible repeat apply ru); exact (Kd.R_mono (Kd.R_far (p := ⟨gb760, 0, none⟩) (Kd.R_types HO747.out BK760.out (by decide)) (fun _ hk => hk.2) (.slice Ao46 t756.length co46)) (fun _ h_ => h_.1))) hb); have n2_ := Aside0.mk (Kd.R_below (by (with_reducible repeat apply ru); exact (Kd.R_mono (Kd.R_far (p := ⟨gb760, 0, none⟩) (Kd.R_types HO752.out BK760.out (by decide)) (fun _ hk => hk.2) (.slice Ao46 t756.length co46)) (fun _ h_ => h_.1))) hb); have n3_ := Aside0.mk (Kd.R_below (by (with_reducible repeat apply ru); exact (Kd.R_mono (Kd.R_far (p := ⟨gb760, 0, none⟩) (Kd.R_types HO758.out BK760.out (by decide)) (fun _ hk => hk.2) (.slice Ao46 t756.length co46)) (fun _ h_ => h_.1))) hb); have n4_ := Aside0.mk (blk_below (g := gb737) (o := .cells #[.slice A0_0 l0_0.length c0_0] 55 (0, 0)) (by (with_reducible repeat refine bu ?_); refine blk_far ?_ NB737_760.out _; (with_reducible repeat refine bu ?_); exact BK737.out) hb); have n5_ := Aside0.mk (blk_below (g := gb738) (o := .cells #[.int .i64 a1_0, .int .i64 a1_1] 34 (0, 0)) (by (with_reducible repeat refine bu ?_); refine blk_far ?_ NB738_760.out _; (with_reducible repeat refine bu ?_); exact BK738.out) hb); have n6_ := Aside0.mk (blk_below (g := gb749) (o := .cells #[.slice Ao29 t745.length co29] 45 (0, 0)) (by (with_reducible repeat refine bu ?_); refine blk_far ?_ NB749_760.out _; (with_reducible repeat refine bu ?_); exact BK749.out) hb); have n7_ := Aside0.mk (blk_below (g := gb753) (o := .cells #[.slice Ao35 t750.length co35] 45 (0, 0)) (by (with_reducible repeat refine bu ?_); refine blk_far ?_ NB753_760.out _; (with_reducible repeat refine bu ?_); exact BK753.out) hb); have n8_ := Aside0.mk (blk_below (g := gb760) (o := .cells #[.slice Ao46 t756.length co46] 45 (0, 0)) (by (with_reducible repeat refine bu ?_); refine blk_put (cs := #[.slice none 0 0]) ?_ 0 _ rfl; (with_reducible repeat refine bu ?_); exact BK760.out) hb); have n9_ := Aside0.mk (below_step (bl HB) hb); clear HO742; clear HO747; clear HO752; clear HO758; clear BK737; clear BK738; clear BK749; clear BK753; clear BK760; clear HB; have HO742 := n0_; have HO747 := n1_; have HO752 := n2_; have HO758 := n3_; have BK737 := n4_; have BK738 := n5_; have BK749 := n6_; have BK753 := n7_; have BK760 := n8_; have HB := n9_; clear n0_ n1_ n2_ n3_ n4_ n5_ n6_ n7_ n8_ n9_; (try clear hb); (try clear hb2); (try clear hk); (try clear hi)))
        go_meet
        case rel => exact ⟨_, ((t759 != t748)), (by first | rfl | (simp; done) | (simp [*]; done)), H', ⟨by first | omega | exact Nat.le_refl _⟩, ⟨by (with_reducible repeat apply ru); exact Kd.R_mono HO747.out (fun _ hk => ⟨hk.2.1, hk.2.2⟩)⟩, ⟨by (with_reducible repeat apply ru); exact Kd.R_mono HO752.out (fun _ hk => ⟨hk.2.1, hk.2.2⟩)⟩, ⟨by (with_reducible repeat apply ru); exact Kd.R_mono HO758.out (fun _ hk => ⟨hk.2.1, hk.2.2⟩)⟩, ⟨by (with_reducible repeat refine bu ?_); exact BK737.out⟩, ⟨by (with_reducible repeat refine bu ?_); exact BK738.out⟩, ⟨by (with_reducible repeat refine bu ?_); exact BK749.out⟩, ⟨by (with_reducible repeat refine bu ?_); exact BK753.out⟩, ⟨by (with_reducible repeat refine bu ?_); exact BK760.out⟩, ⟨by repeat (first | (with_reducible first | exact HB.out | apply below_alloc | apply pw_below_drewN | apply below_drew1 | refine below_set ?_ GE737.out | refine below_set ?_ GE738.out | refine below_set ?_ GE749.out | refine below_set ?_ GE753.out | refine below_set ?_ GE760.out) | exact HB.out)⟩⟩
      · replace c49 := Bool.eq_false_iff.mpr c49
        subst c49
        have H1 : (laws_FnExactMapPut.j0 k t748 t759 true l0_0 a1_0 a1_1 t745 t750 t756) = some r := by rw [if_neg (show ¬ (false = true) by decide)] at H; exact H
        clear H
        have H := H1
        clear H1
        have H' := Aside0.mk H
        clear H
        have hnb60 := NB760_737.out
        have hnc60 := NB737_760.out
        have hnb61 := NB760_738.out
        have hnc61 := NB738_760.out
        have hnb62 := NB760_749.out
        have hnc62 := NB749_760.out
        have hnb63 := NB760_753.out
        have hnc63 := NB753_760.out
        have hcz64_0 : w45.cell? ⟨gb760, 0, none⟩ = some (.slice none 0 0) := (blk_cell BK760.out 0).trans rfl
        have hfz64_0 := blk_frozen BK760.out 0
        have hnb65 := NB749_737.out
        have hnc65 := NB737_749.out
        have hnb66 := NB749_738.out
        have hnc66 := NB738_749.out
        have hnb67 := NB749_753.out
        have hnc67 := NB753_749.out
        have hcz68_0 : w45.cell? ⟨gb749, 0, none⟩ = some (.slice Ao29 t745.length co29) := (blk_cell BK749.out 0).trans rfl
        have hfz68_0 := blk_frozen BK749.out 0
        go_wp2_with (first | ((with_reducible refine gate_callee (f := 31) rfl ?_); refine goesL_ (some 40) rfl rfl Try.func31 (by kernel_rfl) rfl #[.agg #[.slice Ao46 t756.length co46], .agg #[.slice Ao29 t745.length co29]] rfl (by (try simp only [List.map_toArray, List.map_cons, List.map_nil]); first | done | rfl | (simp only [List.length_drop, List.length_take]; rfl)) ?_; (with_reducible refine (laws_eqMapTab.calls k _ _ t756 _ _ t745 false _ ?side1 ?side2 ?side3 ?side4 A48.out).mono ?_); (case side1 => refine (Kd.R_reads' (e := 29) (base := w.heap.size) (ok := fun k_ => (some k_ ≠ (v741 : Value).ownBlock ∧ (some k_ ≠ (.slice Ao29 t745.length co29 : Value).ownBlock ∧ some k_ ≠ (.slice Ao35 t750.length co35 : Value).ownBlock))) (n := t756.length) (c := co46) ?_).2.2; exact (by (with_reducible repeat apply ru); exact (Kd.R_mono (Kd.R_far (p := ⟨gb760, 0, none⟩) (Kd.R_types HO758.out BK760.out (by decide)) (fun _ hk => hk.2) (.slice Ao46 t756.length co46)) (fun _ h_ => h_.1)))); (case side2 => exact (Kd.R_reads' HO758.out).2.1); (case side3 => refine (Kd.R_reads' (e := 29) (base := w.heap.size) (ok := fun k_ => (some k_ ≠ (v741 : Value).ownBlock ∧ (some k_ ≠ (.slice Ao35 t750.length co35 : Value).ownBlock ∧ some k_ ≠ (.slice Ao46 t756.length co46 : Value).ownBlock))) (n := t745.length) (c := co29) ?_).2.2; exact (by (with_reducible repeat apply ru); exact (Kd.R_mono (Kd.R_far (p := ⟨gb760, 0, none⟩) (Kd.R_types HO747.out BK760.out (by decide)) (fun _ hk => hk.2) (.slice Ao46 t756.length co46)) (fun _ h_ => h_.1)))); (case side4 => exact (Kd.R_reads' HO747.out).2.1); rintro e w69 ⟨rfl, hb⟩; refine ⟨_, rfl, ?_⟩; have n0_ := Aside0.mk (Kd.R_below (by (with_reducible repeat apply ru); exact (Kd.R_mono (Kd.R_far (p := ⟨gb760, 0, none⟩) (Kd.R_types HO742.out BK760.out (by decide)) (fun _ hk => hk.2) (.slice Ao46 t756.length co46)) (fun _ h_ => h_.1))) hb); have n1_ := Aside0.mk (Kd.R_below (by (with_reducible repeat apply ru); exact (Kd.R_mono (Kd.R_far (p := ⟨gb760, 0, none⟩) (Kd.R_types HO747.out BK760.out (by decide)) (fun _ hk => hk.2) (.slice Ao46 t756.length co46)) (fun _ h_ => h_.1))) hb); have n2_ := Aside0.mk (Kd.R_below (by (with_reducible repeat apply ru); exact (Kd.R_mono (Kd.R_far (p := ⟨gb760, 0, none⟩) (Kd.R_types HO752.out BK760.out (by decide)) (fun _ hk => hk.2) (.slice Ao46 t756.length co46)) (fun _ h_ => h_.1))) hb); have n3_ := Aside0.mk (Kd.R_below (by (with_reducible repeat apply ru); exact (Kd.R_mono (Kd.R_far (p := ⟨gb760, 0, none⟩) (Kd.R_types HO758.out BK760.out (by decide)) (fun _ hk => hk.2) (.slice Ao46 t756.length co46)) (fun _ h_ => h_.1))) hb); have n4_ := Aside0.mk (blk_below (g := gb737) (o := .cells #[.slice A0_0 l0_0.length c0_0] 55 (0, 0)) (by (with_reducible repeat refine bu ?_); refine blk_far ?_ NB737_760.out _; (with_reducible repeat refine bu ?_); exact BK737.out) hb); have n5_ := Aside0.mk (blk_below (g := gb738) (o := .cells #[.int .i64 a1_0, .int .i64 a1_1] 34 (0, 0)) (by (with_reducible repeat refine bu ?_); refine blk_far ?_ NB738_760.out _; (with_reducible repeat refine bu ?_); exact BK738.out) hb); have n6_ := Aside0.mk (blk_below (g := gb749) (o := .cells #[.slice Ao29 t745.length co29] 45 (0, 0)) (by (with_reducible repeat refine bu ?_); refine blk_far ?_ NB749_760.out _; (with_reducible repeat refine bu ?_); exact BK749.out) hb); have n7_ := Aside0.mk (blk_below (g := gb753) (o := .cells #[.slice Ao35 t750.length co35] 45 (0, 0)) (by (with_reducible repeat refine bu ?_); refine blk_far ?_ NB753_760.out _; (with_reducible repeat refine bu ?_); exact BK753.out) hb); have n8_ := Aside0.mk (blk_below (g := gb760) (o := .cells #[.slice Ao46 t756.length co46] 45 (0, 0)) (by (with_reducible repeat refine bu ?_); refine blk_put (cs := #[.slice none 0 0]) ?_ 0 _ rfl; (with_reducible repeat refine bu ?_); exact BK760.out) hb); have n9_ := Aside0.mk (below_step (bl HB) hb); clear HO742; clear HO747; clear HO752; clear HO758; clear BK737; clear BK738; clear BK749; clear BK753; clear BK760; clear HB; have HO742 := n0_; have HO747 := n1_; have HO752 := n2_; have HO758 := n3_; have BK737 := n4_; have BK738 := n5_; have BK749 := n6_; have BK753 := n7_; have BK760 := n8_; have HB := n9_; clear n0_ n1_ n2_ n3_ n4_ n5_ n6_ n7_ n8_ n9_; (try clear hb); (try clear hb2); (try clear hk); (try clear hi)))
        go_meet
        case rel => exact ⟨_, (true), (by first | rfl | (simp; done) | (simp [*]; done)), H', ⟨by first | omega | exact Nat.le_refl _⟩, ⟨by (with_reducible repeat apply ru); exact Kd.R_mono HO747.out (fun _ hk => ⟨hk.2.1, hk.2.2⟩)⟩, ⟨by (with_reducible repeat apply ru); exact Kd.R_mono HO752.out (fun _ hk => ⟨hk.2.1, hk.2.2⟩)⟩, ⟨by (with_reducible repeat apply ru); exact Kd.R_mono HO758.out (fun _ hk => ⟨hk.2.1, hk.2.2⟩)⟩, ⟨by (with_reducible repeat refine bu ?_); exact BK737.out⟩, ⟨by (with_reducible repeat refine bu ?_); exact BK738.out⟩, ⟨by (with_reducible repeat refine bu ?_); exact BK749.out⟩, ⟨by (with_reducible repeat refine bu ?_); exact BK753.out⟩, ⟨by (with_reducible repeat refine bu ?_); exact BK760.out⟩, ⟨by repeat (first | (with_reducible first | exact HB.out | apply below_alloc | apply pw_below_drewN | apply below_drew1 | refine below_set ?_ GE737.out | refine below_set ?_ GE738.out | refine below_set ?_ GE749.out | refine below_set ?_ GE753.out | refine below_set ?_ GE760.out) | exact HB.out)⟩⟩
    case rest =>
      clear HC16
      try clear c1
      try clear c2
      try clear p2
      try clear c3
      try clear c4
      try clear c5
      try clear c6
      try clear c19
      try clear c26
      try clear c31
      try clear c49
      try clear c50
      try clear c51
      try clear c52
      try clear c53
      try clear c55
      try clear c56
      try clear c57
      try clear c60
      try clear c61
      try clear c62
      try clear c63
      try clear c65
      try clear c66
      try clear c67
      try clear hcz54_0
      try clear hcz58_0
      try clear hcz64_0
      try clear hcz68_0
      try clear hfz54_0
      try clear hfz58_0
      try clear hfz64_0
      try clear hfz68_0
      obtain ⟨kq, x46_15, rfl, HA, HJ15, HO_750000, HO_754000, HO_761000, BK737, BK738, BK749, BK753, BK760, HB⟩ := hcut
      cases kq with
      | zero => exact absurd HA.out (by simp [laws_FnExactMapPut.j0])
      | succ kj15 =>
        have H := HA.out
        clear HA
        simp only [laws_FnExactMapPut.j0] at H
        by_cases c70 : x46_15 = true
        · subst c70
          have H1 : (some false) = some r := by rw [if_pos rfl] at H; exact H
          clear H
          have H := H1
          clear H1
          exact absurd ((Option.some.inj H).trans hrt.out) (by decide)
        · replace c70 := Bool.eq_false_iff.mpr c70
          subst c70
          have H1 : ((laws_toMapTab.f kj15 l0_0).bind fun t762 => ((laws_eqMapTab.f kj15 t750 t762).bind fun t765 => (if t765 = true then ((laws_markMapTab.f kj15 t750 1).bind fun bt766 => (if bt766.1 < 0 then (laws_FnExactMapPut.j1 kj15 t748 true l0_0 a1_0 a1_1 t745 t756) else ((laws_eqMapTab.f kj15 t756 t745).bind fun t768 => (if t768 = true then (laws_FnExactMapPut.j1 kj15 t748 (t759 != t748) l0_0 a1_0 a1_1 t745 t756) else (laws_FnExactMapPut.j1 kj15 t748 true l0_0 a1_0 a1_1 t745 t756))))) else (some false)))) = some r := by rw [if_neg (show ¬ (false = true) by decide)] at H; exact H
          clear H
          have H := H1
          clear H1
          replace H := Option.bind_eq_some_iff.mp H
          obtain ⟨t762, A710, H⟩ := H
          replace H : ((laws_eqMapTab.f kj15 t750 t762).bind fun t765 => (if t765 = true then ((laws_markMapTab.f kj15 t750 1).bind fun bt766 => (if bt766.1 < 0 then (laws_FnExactMapPut.j1 kj15 t748 true l0_0 a1_0 a1_1 t745 t756) else ((laws_eqMapTab.f kj15 t756 t745).bind fun t768 => (if t768 = true then (laws_FnExactMapPut.j1 kj15 t748 (t759 != t748) l0_0 a1_0 a1_1 t745 t756) else (laws_FnExactMapPut.j1 kj15 t748 true l0_0 a1_0 a1_1 t745 t756))))) else (some false))) = some r := H
          have A71 := Aside0.mk A710
          clear A710
          replace H := Option.bind_eq_some_iff.mp H
          obtain ⟨t765, A720, H⟩ := H
          replace H : (if t765 = true then ((laws_markMapTab.f kj15 t750 1).bind fun bt766 => (if bt766.1 < 0 then (laws_FnExactMapPut.j1 kj15 t748 true l0_0 a1_0 a1_1 t745 t756) else ((laws_eqMapTab.f kj15 t756 t745).bind fun t768 => (if t768 = true then (laws_FnExactMapPut.j1 kj15 t748 (t759 != t748) l0_0 a1_0 a1_1 t745 t756) else (laws_FnExactMapPut.j1 kj15 t748 true l0_0 a1_0 a1_1 t745 t756))))) else (some false)) = some r := H
          have A72 := Aside0.mk A720
          clear A720
          by_cases c73 : t765 = true
          · subst c73
            have H1 : ((laws_markMapTab.f kj15 t750 1).bind fun bt766 => (if bt766.1 < 0 then (laws_FnExactMapPut.j1 kj15 t748 true l0_0 a1_0 a1_1 t745 t756) else ((laws_eqMapTab.f kj15 t756 t745).bind fun t768 => (if t768 = true then (laws_FnExactMapPut.j1 kj15 t748 (t759 != t748) l0_0 a1_0 a1_1 t745 t756) else (laws_FnExactMapPut.j1 kj15 t748 true l0_0 a1_0 a1_1 t745 t756))))) = some r := by rw [if_pos rfl] at H; exact H
            clear H
            have H := H1
            clear H1
            replace H := Option.bind_eq_some_iff.mp H
            obtain ⟨⟨t766, t767⟩, A740, H⟩ := H
            replace H : (if t766 < 0 then (laws_FnExactMapPut.j1 kj15 t748 true l0_0 a1_0 a1_1 t745 t756) else ((laws_eqMapTab.f kj15 t756 t745).bind fun t768 => (if t768 = true then (laws_FnExactMapPut.j1 kj15 t748 (t759 != t748) l0_0 a1_0 a1_1 t745 t756) else (laws_FnExactMapPut.j1 kj15 t748 true l0_0 a1_0 a1_1 t745 t756)))) = some r := H
            have A74 := Aside0.mk A740
            clear A740
            have HC75 := Aside0.mk H
            clear H
            try go_wp2
            have n0_ := Aside0.mk (Kd.R_drew HO_750000.out)
            have n1_ := Aside0.mk (Kd.R_drew HO_754000.out)
            have n2_ := Aside0.mk (Kd.R_drew HO_761000.out)
            have n3_ := Aside0.mk (blk_drew BK737.out)
            have n4_ := Aside0.mk (blk_drew BK738.out)
            have n5_ := Aside0.mk (blk_drew BK749.out)
            have n6_ := Aside0.mk (blk_drew BK753.out)
            have n7_ := Aside0.mk (blk_drew BK760.out)
            have n8_ := Aside0.mk (below_drew1 HB.out)
            clear HO_750000
            clear HO_754000
            clear HO_761000
            clear BK737
            clear BK738
            clear BK749
            clear BK753
            clear BK760
            clear HB
            have HO_750000 := n0_
            have HO_754000 := n1_
            have HO_761000 := n2_
            have BK737 := n3_
            have BK738 := n4_
            have BK749 := n5_
            have BK753 := n6_
            have BK760 := n7_
            have HB := n8_
            clear n0_ n1_ n2_ n3_ n4_ n5_ n6_ n7_ n8_
            refine start_ (n := 5) (S := fun w' => w'.cell? ⟨gb753, 0, none⟩ = some (.slice Ao35 t750.length co35) ∧ w'.cell? ⟨gb737, 0, none⟩ = some (.slice A0_0 l0_0.length c0_0)) (ds := []) #[false, false, false, false, false] (by kernel_rfl) rfl rfl ⟨(blk_cell BK753.out 0).trans rfl, (blk_cell BK737.out 0).trans rfl⟩ (fun hHeld => ?_)
            generalize wc.drew = w76 at HO_750000 HO_754000 HO_761000 BK737 BK738 BK749 BK753 BK760 HB hHeld ⊢
            refine take_ (i := 0) (N := some 47) (v := ?_) (a' := ?_) #[true, false, false, false, false] rfl rfl (by kernel_rfl) (fun _ _ _ h => h) (Or.inl ⟨by rfl, ?_⟩) hHeld ?_ ?_
            rotate_left
            · rintro w' ⟨s0, s1⟩
              go_simp
              with_reducible rfl
            rotate_left
            · simp only [Act.put, List.setIfInBounds_toArray, List.set_cons_zero, List.set_cons_succ, i64_w, i32_w]
              rfl
            refine take_ (i := 1) (N := some 48) (v := ?_) (a' := ?_) #[true, true, false, false, false] rfl rfl (by kernel_rfl) (fun _ _ _ h => h) (Or.inl ⟨by rfl, ?_⟩) hHeld ?_ ?_
            rotate_left
            · rintro w' ⟨s0, s1⟩
              go_simp
              with_reducible rfl
            rotate_left
            · simp only [Act.put, List.setIfInBounds_toArray, List.set_cons_zero, List.set_cons_succ, i64_w, i32_w]
              rfl
            refine one_ (i := 2) (N := some 49) #[true, true, true, false, false] rfl rfl (by kernel_rfl) (by decide) (fun K hK => ?_)
            refine goes_ Try.func30 (by kernel_rfl) rfl #[.agg #[.slice A0_0 l0_0.length c0_0]] (by rfl) rfl rfl (by (try simp only [List.map_toArray, List.map_cons, List.map_nil]); first | done | rfl | (simp only [List.length_drop, List.length_take]; rfl)) ?_
            with_reducible refine (laws_toMapTab.calls kj15 _ _ l0_0 t762 _ ?side1 ?side2 A71.out).mono ?_
            (case side1 => repeat (first | exact (Kd.C_below HR0_0.out HB.out) | (with_reducible refine Kd.C_alloc ?_ _) | (with_reducible refine Kd.C_drewN ?_ _) | (with_reducible refine Kd.C_drew ?_)))
            (case side2 => exact HC0_0.out)
            rintro e w77 ⟨v763, rfl, ho0, hb⟩
            refine ⟨_, rfl, ?_⟩
            have n0_ := Aside0.mk (Kd.R_elder' (rs HO_750000) (Kd.R_base ho0) hb)
            have n1_ := Aside0.mk (Kd.R_elder' (rs HO_754000) (Kd.R_base ho0) hb)
            have n2_ := Aside0.mk (Kd.R_elder' (rs HO_761000) (Kd.R_base ho0) hb)
            have n3_ := Aside0.mk (Kd.R_lower (Kd.R_new' (Kd.R_new' (Kd.R_new' ho0 (Kd.R_lt (rs HO_750000))) (Kd.R_lt (rs HO_754000))) (Kd.R_lt (rs HO_761000))) (below_size (bl HB)))
            have n4_ := bkB BK737 hb
            have n5_ := bkB BK738 hb
            have n6_ := bkB BK749 hb
            have n7_ := bkB BK753 hb
            have n8_ := bkB BK760 hb
            have n9_ := Aside0.mk (below_step (bl HB) hb)
            clear HO_750000
            clear HO_754000
            clear HO_761000
            clear BK737
            clear BK738
            clear BK749
            clear BK753
            clear BK760
            clear HB
            have HO_750000 := n0_
            have HO_754000 := n1_
            have HO_761000 := n2_
            have HO764 := n3_
            have BK737 := n4_
            have BK738 := n5_
            have BK749 := n6_
            have BK753 := n7_
            have BK760 := n8_
            have HB := n9_
            clear n0_ n1_ n2_ n3_ n4_ n5_ n6_ n7_ n8_ n9_
            (try clear hb)
            (try clear hb2)
            (try clear hk)
            (try clear hi)
            (try clear ho0)
            obtain ⟨Ao78, co78, eo78⟩ := Kd.R_slice HO764.out
            (first | subst eo78 | (injection eo78 with f1_ f2_ f3_; have f4_ := f1_.symm; have f5_ := f3_.symm; clear f1_ f2_ f3_; subst f4_; subst f5_))
            refine hK.out _ _ ⟨(blk_cell BK753.out 0).trans rfl, (blk_cell BK737.out 0).trans rfl⟩ (fun hHeld => ?_)
            clear hK K
            refine norm_ (a' := ?_) ?_ ?_
            rotate_left
            · show Act.put _ (some 49) _ = _
              simp only [Act.put, List.setIfInBounds_toArray, List.set_cons_zero, List.set_cons_succ, i64_w, i32_w]
              rfl
            refine one_ (i := 3) (N := some 50) #[true, true, true, true, false] rfl rfl (by kernel_rfl) (by decide) (fun K hK => ?_)
            refine goes_ Try.func31 (by kernel_rfl) rfl #[.agg #[.slice Ao35 t750.length co35], .agg #[.slice Ao78 t762.length co78]] (by rfl) rfl rfl (by (try simp only [List.map_toArray, List.map_cons, List.map_nil]); first | done | rfl | (simp only [List.length_drop, List.length_take]; rfl)) ?_
            with_reducible refine (laws_eqMapTab.calls kj15 _ _ t750 _ _ t762 true _ ?side1 ?side2 ?side3 ?side4 A72.out).mono ?_
            (case side1 => repeat (first | exact (Kd.R_reads' HO_754000.out).2.2 | (with_reducible refine Kd.C_alloc ?_ _) | (with_reducible refine Kd.C_drewN ?_ _) | (with_reducible refine Kd.C_drew ?_)))
            (case side2 => exact (Kd.R_reads' HO_754000.out).2.1)
            (case side3 => repeat (first | exact (Kd.R_reads' HO764.out).2.2 | (with_reducible refine Kd.C_alloc ?_ _) | (with_reducible refine Kd.C_drewN ?_ _) | (with_reducible refine Kd.C_drew ?_)))
            (case side4 => exact (Kd.R_reads' HO764.out).2.1)
            rintro e w79 ⟨rfl, hb⟩
            refine ⟨_, rfl, ?_⟩
            have n0_ := Aside0.mk (Kd.R_below (rs HO_750000) hb)
            have n1_ := Aside0.mk (Kd.R_below (rs HO_754000) hb)
            have n2_ := Aside0.mk (Kd.R_below (rs HO_761000) hb)
            have n3_ := Aside0.mk (Kd.R_below (rs HO764) hb)
            have n4_ := bkB BK737 hb
            have n5_ := bkB BK738 hb
            have n6_ := bkB BK749 hb
            have n7_ := bkB BK753 hb
            have n8_ := bkB BK760 hb
            have n9_ := Aside0.mk (below_step (bl HB) hb)
            clear HO_750000
            clear HO_754000
            clear HO_761000
            clear HO764
            clear BK737
            clear BK738
            clear BK749
            clear BK753
            clear BK760
            clear HB
            have HO_750000 := n0_
            have HO_754000 := n1_
            have HO_761000 := n2_
            have HO764 := n3_
            have BK737 := n4_
            have BK738 := n5_
            have BK749 := n6_
            have BK753 := n7_
            have BK760 := n8_
            have HB := n9_
            clear n0_ n1_ n2_ n3_ n4_ n5_ n6_ n7_ n8_ n9_
            (try clear hb)
            (try clear hb2)
            (try clear hk)
            (try clear hi)
            refine hK.out _ _ ⟨(blk_cell BK753.out 0).trans rfl, (blk_cell BK737.out 0).trans rfl⟩ (fun hHeld => ?_)
            clear hK K
            refine norm_ (a' := ?_) ?_ ?_
            rotate_left
            · show Act.put _ (some 50) _ = _
              simp only [Act.put, List.setIfInBounds_toArray, List.set_cons_zero, List.set_cons_succ, i64_w, i32_w]
              rfl
            refine pure_ (i := 4) (N := some 51) (v := ?_) (a' := ?_) #[true, true, true, true, true] rfl rfl (by kernel_rfl) (fun _ _ _ h => h) (Or.inl ⟨by rfl, ?_⟩) ?_ ?_
            rotate_left
            · intro w'
              go_simp
              with_reducible rfl
            rotate_left
            · simp only [Act.put, List.setIfInBounds_toArray, List.set_cons_zero, List.set_cons_succ, i64_w, i32_w]
              rfl
            refine done_ (by kernel_rfl) ?_
            have hnb80 := NB753_737.out
            have hnc80 := NB737_753.out
            have hnb81 := NB753_738.out
            have hnc81 := NB738_753.out
            have hnb82 := NB753_749.out
            have hnc82 := NB749_753.out
            have hnb83 := NB753_760.out
            have hnc83 := NB760_753.out
            have hcz84_0 : w79.cell? ⟨gb753, 0, none⟩ = some (.slice Ao35 t750.length co35) := (blk_cell BK753.out 0).trans rfl
            have hfz84_0 := blk_frozen BK753.out 0
            go_upto_region 14 with (first | ((with_reducible refine gate_callee (f := 32) rfl ?_); refine goesL_ (some 54) rfl rfl Try.func32 (by kernel_rfl) rfl #[.agg #[.slice Ao35 t750.length co35], .int .i64 1] rfl (by (try simp only [List.map_toArray, List.map_cons, List.map_nil]); first | done | rfl | (simp only [List.length_drop, List.length_take]; rfl)) ?_; (with_reducible refine (laws_markMapTab.calls kj15 (fun k_ => some k_ = (.slice Ao35 t750.length co35 : Value).ownBlock) (.slice Ao35 t750.length co35) t750 1 t766 t767 w _ ?side1 ?side2 A74.out).mono ?_); (case side1 => repeat (first | (with_reducible first | exact HB.out | apply below_alloc | apply pw_below_drewN | apply below_drew1 | refine below_set ?_ GE737.out | refine below_set ?_ GE738.out | refine below_set ?_ GE749.out | refine below_set ?_ GE753.out | refine below_set ?_ GE760.out) | exact HB.out)); (case side2 => exact Kd.R_tight rfl HO_754000.out); rintro e w85 ⟨rfl, hy0, hb, hkp⟩; refine ⟨_, rfl, ?_⟩; have n0_ := Aside0.mk (Kd.R_mono (ok' := fun k_ => some k_ ≠ (.slice Ao35 t750.length co35 : Value).ownBlock ∧ some k_ ≠ (.slice Ao46 t756.length co46 : Value).ownBlock ∧ some k_ ≠ (.slice Ao78 t762.length co78 : Value).ownBlock) (Kd.R_keptB (HO_750000.out) hkp (fun k_ hk_ hs_ => (hk_.1.1) hs_)) (fun k_ hk_ => ⟨hk_.1.1.1, hk_.1.1.2, hk_.1.2⟩)); have n1_ := Aside0.mk (Kd.R_reok rfl hy0 (fun k_ e_ => HO_754000.out.1 k_ e_)); have n2_ := Aside0.mk (Kd.R_mono (ok' := fun k_ => some k_ ≠ (.slice Ao29 t745.length co29 : Value).ownBlock ∧ some k_ ≠ (.slice Ao35 t750.length co35 : Value).ownBlock ∧ some k_ ≠ (.slice Ao78 t762.length co78 : Value).ownBlock) (Kd.R_keptB (HO_761000.out) hkp (fun k_ hk_ hs_ => (hk_.1.2) hs_)) (fun k_ hk_ => ⟨hk_.1.1.1, hk_.1.1.2, hk_.1.2⟩)); have n3_ := Aside0.mk (blk_kept (bk BK737) hkp (fun hs_ => (fun e_ => (Kd.R_ne HO_754000.out BK737.out (by decide)) e_) hs_)); have n4_ := Aside0.mk (blk_kept (bk BK738) hkp (fun hs_ => (fun e_ => (Kd.R_ne HO_754000.out BK738.out (by decide)) e_) hs_)); have n5_ := Aside0.mk (blk_kept (bk BK749) hkp (fun hs_ => (fun e_ => (Kd.R_ne HO_754000.out BK749.out (by decide)) e_) hs_)); have n6_ := Aside0.mk (blk_kept (bk BK753) hkp (fun hs_ => (fun e_ => (Kd.R_ne HO_754000.out BK753.out (by decide)) e_) hs_)); have n7_ := Aside0.mk (blk_kept (bk BK760) hkp (fun hs_ => (fun e_ => (Kd.R_ne HO_754000.out BK760.out (by decide)) e_) hs_)); have n8_ := Aside0.mk (Kd.R_mono (ok' := fun k_ => some k_ ≠ (.slice Ao29 t745.length co29 : Value).ownBlock ∧ some k_ ≠ (.slice Ao35 t750.length co35 : Value).ownBlock ∧ some k_ ≠ (.slice Ao46 t756.length co46 : Value).ownBlock) (Kd.R_keptB (HO764.out) hkp (fun k_ hk_ hs_ => (hk_.1.2) hs_)) (fun k_ hk_ => ⟨hk_.1.1.1.2, hk_.1.1.2, hk_.1.2⟩)); have n9_ := Aside0.mk (hb); clear HO_750000; clear HO_754000; clear HO_761000; clear BK737; clear BK738; clear BK749; clear BK753; clear BK760; clear HO764; clear HB; have HO_750000 := n0_; have HO_754000 := n1_; have HO_761000 := n2_; have BK737 := n3_; have BK738 := n4_; have BK749 := n5_; have BK753 := n6_; have BK760 := n7_; have HO764 := n8_; have HB := n9_; clear n0_ n1_ n2_ n3_ n4_ n5_ n6_ n7_ n8_ n9_; (try clear hb); (try clear hkp); (try clear hy0)))
            (try simp only [Act.put, List.setIfInBounds_toArray, List.set_cons_zero, List.set_cons_succ])
            go_cut [67] (fun v67 wc => ∃ (kq : Nat) (x67_74 : Bool), v67 = .bool x67_74 ∧ Aside0 (laws_FnExactMapPut.j1 kq t748 x67_74 l0_0 a1_0 a1_1 t745 t756 = some r) ∧ Aside0 (kq ≤ kj15) ∧ Aside0 (Kd.R k29 29 wc w.heap.size (fun k_ => some k_ ≠ ((.slice Ao35 t750.length co35) : Value).ownBlock ∧ some k_ ≠ ((.slice Ao46 t756.length co46) : Value).ownBlock) (.slice Ao29 t745.length co29) t745) ∧ Aside0 (Kd.R k29 29 wc w.heap.size (fun k_ => some k_ ≠ ((.slice Ao29 t745.length co29) : Value).ownBlock ∧ some k_ ≠ ((.slice Ao46 t756.length co46) : Value).ownBlock) (.slice Ao35 t750.length co35) t767) ∧ Aside0 (Kd.R k29 29 wc w.heap.size (fun k_ => some k_ ≠ ((.slice Ao29 t745.length co29) : Value).ownBlock ∧ some k_ ≠ ((.slice Ao35 t750.length co35) : Value).ownBlock) (.slice Ao46 t756.length co46) t756) ∧ Aside0 (wc.heap[gb737]? = some (.cells #[(.slice A0_0 l0_0.length c0_0)] 55 (0, 0))) ∧ Aside0 (wc.heap[gb738]? = some (.cells #[.int .i64 a1_0, .int .i64 a1_1] 34 (0, 0))) ∧ Aside0 (wc.heap[gb749]? = some (.cells #[(.slice Ao29 t745.length co29)] 45 (0, 0))) ∧ Aside0 (wc.heap[gb753]? = some (.cells #[(.slice Ao35 t750.length co35)] 45 (0, 0))) ∧ Aside0 (wc.heap[gb760]? = some (.cells #[(.slice Ao46 t756.length co46)] 45 (0, 0))) ∧ Aside0 (Below w.heap.size w wc))
            case first =>
              have H := HC75.out
              clear HC75
              by_cases c86 : t766 < 0
              · rw [if_pos c86] at H
                have c86b0 : decide (t766 < 0) = true := decide_eq_true c86
                clear c86
                (first | rw [c86b0] | (simp only [i64_w, i32_w]; rw [c86b0]) | skip)
                have H' := Aside0.mk H
                clear H
                go_wp2
                go_meet
                case rel => exact ⟨_, (true), (by first | rfl | (simp; done) | (simp [*]; done)), H', ⟨by have := HJ15.out; first | omega | exact Nat.le_refl _⟩, ⟨by (with_reducible repeat apply ru); exact Kd.R_mono HO_750000.out (fun _ hk => ⟨hk.1, hk.2.1⟩)⟩, ⟨by (with_reducible repeat apply ru); exact Kd.R_mono HO_754000.out (fun _ hk => ⟨hk.1.1, hk.1.2⟩)⟩, ⟨by (with_reducible repeat apply ru); exact Kd.R_mono HO_761000.out (fun _ hk => ⟨hk.1, hk.2.1⟩)⟩, ⟨by (with_reducible repeat refine bu ?_); exact BK737.out⟩, ⟨by (with_reducible repeat refine bu ?_); exact BK738.out⟩, ⟨by (with_reducible repeat refine bu ?_); exact BK749.out⟩, ⟨by (with_reducible repeat refine bu ?_); exact BK753.out⟩, ⟨by (with_reducible repeat refine bu ?_); exact BK760.out⟩, ⟨by repeat (first | (with_reducible first | exact HB.out | apply below_alloc | apply pw_below_drewN | apply below_drew1 | refine below_set ?_ GE737.out | refine below_set ?_ GE738.out | refine below_set ?_ GE749.out | refine below_set ?_ GE753.out | refine below_set ?_ GE760.out) | exact HB.out)⟩⟩
              · rw [if_neg c86] at H
                have c86b0 : decide (t766 < 0) = false := decide_eq_false c86
                clear c86
                (first | rw [c86b0] | (simp only [i64_w, i32_w]; rw [c86b0]) | skip)
                replace H := Option.bind_eq_some_iff.mp H
                obtain ⟨t768, A870, H⟩ := H
                replace H : (if t768 = true then (laws_FnExactMapPut.j1 kj15 t748 (t759 != t748) l0_0 a1_0 a1_1 t745 t756) else (laws_FnExactMapPut.j1 kj15 t748 true l0_0 a1_0 a1_1 t745 t756)) = some r := H
                have A87 := Aside0.mk A870
                clear A870
                by_cases c88 : t768 = true
                · subst c88
                  have H1 : (laws_FnExactMapPut.j1 kj15 t748 (t759 != t748) l0_0 a1_0 a1_1 t745 t756) = some r := by rw [if_pos rfl] at H; exact H
                  clear H
                  have H := H1
                  clear H1
                  have H' := Aside0.mk H
                  clear H
                  have hnb89 := NB760_737.out
                  have hnc89 := NB737_760.out
                  have hnb90 := NB760_738.out
                  have hnc90 := NB738_760.out
                  have hnb91 := NB760_749.out
                  have hnc91 := NB749_760.out
                  have hnb92 := NB760_753.out
                  have hnc92 := NB753_760.out
                  have hcz93_0 : w85.cell? ⟨gb760, 0, none⟩ = some (.slice Ao46 t756.length co46) := (blk_cell BK760.out 0).trans rfl
                  have hfz93_0 := blk_frozen BK760.out 0
                  have hnb94 := NB749_737.out
                  have hnc94 := NB737_749.out
                  have hnb95 := NB749_738.out
                  have hnc95 := NB738_749.out
                  have hnb96 := NB749_753.out
                  have hnc96 := NB753_749.out
                  have hcz97_0 : w85.cell? ⟨gb749, 0, none⟩ = some (.slice Ao29 t745.length co29) := (blk_cell BK749.out 0).trans rfl
                  have hfz97_0 := blk_frozen BK749.out 0
                  go_wp2_with (first | (go_at_call 31; (with_reducible refine (laws_eqMapTab.calls kj15 _ _ t756 _ _ t745 true _ ?side1 ?side2 ?side3 ?side4 A87.out).mono ?_); (case side1 => repeat (first | exact (Kd.R_reads' HO_761000.out).2.2 | (with_reducible refine Kd.C_alloc ?_ _) | (with_reducible refine Kd.C_drewN ?_ _) | (with_reducible refine Kd.C_drew ?_))); (case side2 => exact (Kd.R_reads' HO_761000.out).2.1); (case side3 => repeat (first | exact (Kd.R_reads' HO_750000.out).2.2 | (with_reducible refine Kd.C_alloc ?_ _) | (with_reducible refine Kd.C_drewN ?_ _) | (with_reducible refine Kd.C_drew ?_))); (case side4 => exact (Kd.R_reads' HO_750000.out).2.1); rintro e w98 ⟨rfl, hb⟩; have n0_ := Aside0.mk (Kd.R_below (rs HO_750000) hb); have n1_ := Aside0.mk (Kd.R_below (rs HO_754000) hb); have n2_ := Aside0.mk (Kd.R_below (rs HO_761000) hb); have n3_ := Aside0.mk (Kd.R_below (rs HO764) hb); have n4_ := bkB BK737 hb; have n5_ := bkB BK738 hb; have n6_ := bkB BK749 hb; have n7_ := bkB BK753 hb; have n8_ := bkB BK760 hb; have n9_ := Aside0.mk (below_step (bl HB) hb); clear HO_750000; clear HO_754000; clear HO_761000; clear HO764; clear BK737; clear BK738; clear BK749; clear BK753; clear BK760; clear HB; have HO_750000 := n0_; have HO_754000 := n1_; have HO_761000 := n2_; have HO764 := n3_; have BK737 := n4_; have BK738 := n5_; have BK749 := n6_; have BK753 := n7_; have BK760 := n8_; have HB := n9_; clear n0_ n1_ n2_ n3_ n4_ n5_ n6_ n7_ n8_ n9_; (try clear hb); (try clear hb2); (try clear hk); (try clear hi)))
                  go_meet
                  case rel => exact ⟨_, ((t759 != t748)), (by first | rfl | (simp; done) | (simp [*]; done)), H', ⟨by have := HJ15.out; first | omega | exact Nat.le_refl _⟩, ⟨by (with_reducible repeat apply ru); exact Kd.R_mono HO_750000.out (fun _ hk => ⟨hk.1, hk.2.1⟩)⟩, ⟨by (with_reducible repeat apply ru); exact Kd.R_mono HO_754000.out (fun _ hk => ⟨hk.1.1, hk.1.2⟩)⟩, ⟨by (with_reducible repeat apply ru); exact Kd.R_mono HO_761000.out (fun _ hk => ⟨hk.1, hk.2.1⟩)⟩, ⟨by (with_reducible repeat refine bu ?_); exact BK737.out⟩, ⟨by (with_reducible repeat refine bu ?_); exact BK738.out⟩, ⟨by (with_reducible repeat refine bu ?_); exact BK749.out⟩, ⟨by (with_reducible repeat refine bu ?_); exact BK753.out⟩, ⟨by (with_reducible repeat refine bu ?_); exact BK760.out⟩, ⟨by repeat (first | (with_reducible first | exact HB.out | apply below_alloc | apply pw_below_drewN | apply below_drew1 | refine below_set ?_ GE737.out | refine below_set ?_ GE738.out | refine below_set ?_ GE749.out | refine below_set ?_ GE753.out | refine below_set ?_ GE760.out) | exact HB.out)⟩⟩
                · replace c88 := Bool.eq_false_iff.mpr c88
                  subst c88
                  have H1 : (laws_FnExactMapPut.j1 kj15 t748 true l0_0 a1_0 a1_1 t745 t756) = some r := by rw [if_neg (show ¬ (false = true) by decide)] at H; exact H
                  clear H
                  have H := H1
                  clear H1
                  have H' := Aside0.mk H
                  clear H
                  have hnb99 := NB760_737.out
                  have hnc99 := NB737_760.out
                  have hnb100 := NB760_738.out
                  have hnc100 := NB738_760.out
                  have hnb101 := NB760_749.out
                  have hnc101 := NB749_760.out
                  have hnb102 := NB760_753.out
                  have hnc102 := NB753_760.out
                  have hcz103_0 : w85.cell? ⟨gb760, 0, none⟩ = some (.slice Ao46 t756.length co46) := (blk_cell BK760.out 0).trans rfl
                  have hfz103_0 := blk_frozen BK760.out 0
                  have hnb104 := NB749_737.out
                  have hnc104 := NB737_749.out
                  have hnb105 := NB749_738.out
                  have hnc105 := NB738_749.out
                  have hnb106 := NB749_753.out
                  have hnc106 := NB753_749.out
                  have hcz107_0 : w85.cell? ⟨gb749, 0, none⟩ = some (.slice Ao29 t745.length co29) := (blk_cell BK749.out 0).trans rfl
                  have hfz107_0 := blk_frozen BK749.out 0
                  go_wp2_with (first | (go_at_call 31; (with_reducible refine (laws_eqMapTab.calls kj15 _ _ t756 _ _ t745 false _ ?side1 ?side2 ?side3 ?side4 A87.out).mono ?_); (case side1 => repeat (first | exact (Kd.R_reads' HO_761000.out).2.2 | (with_reducible refine Kd.C_alloc ?_ _) | (with_reducible refine Kd.C_drewN ?_ _) | (with_reducible refine Kd.C_drew ?_))); (case side2 => exact (Kd.R_reads' HO_761000.out).2.1); (case side3 => repeat (first | exact (Kd.R_reads' HO_750000.out).2.2 | (with_reducible refine Kd.C_alloc ?_ _) | (with_reducible refine Kd.C_drewN ?_ _) | (with_reducible refine Kd.C_drew ?_))); (case side4 => exact (Kd.R_reads' HO_750000.out).2.1); rintro e w108 ⟨rfl, hb⟩; have n0_ := Aside0.mk (Kd.R_below (rs HO_750000) hb); have n1_ := Aside0.mk (Kd.R_below (rs HO_754000) hb); have n2_ := Aside0.mk (Kd.R_below (rs HO_761000) hb); have n3_ := Aside0.mk (Kd.R_below (rs HO764) hb); have n4_ := bkB BK737 hb; have n5_ := bkB BK738 hb; have n6_ := bkB BK749 hb; have n7_ := bkB BK753 hb; have n8_ := bkB BK760 hb; have n9_ := Aside0.mk (below_step (bl HB) hb); clear HO_750000; clear HO_754000; clear HO_761000; clear HO764; clear BK737; clear BK738; clear BK749; clear BK753; clear BK760; clear HB; have HO_750000 := n0_; have HO_754000 := n1_; have HO_761000 := n2_; have HO764 := n3_; have BK737 := n4_; have BK738 := n5_; have BK749 := n6_; have BK753 := n7_; have BK760 := n8_; have HB := n9_; clear n0_ n1_ n2_ n3_ n4_ n5_ n6_ n7_ n8_ n9_; (try clear hb); (try clear hb2); (try clear hk); (try clear hi)))
                  go_meet
                  case rel => exact ⟨_, (true), (by first | rfl | (simp; done) | (simp [*]; done)), H', ⟨by have := HJ15.out; first | omega | exact Nat.le_refl _⟩, ⟨by (with_reducible repeat apply ru); exact Kd.R_mono HO_750000.out (fun _ hk => ⟨hk.1, hk.2.1⟩)⟩, ⟨by (with_reducible repeat apply ru); exact Kd.R_mono HO_754000.out (fun _ hk => ⟨hk.1.1, hk.1.2⟩)⟩, ⟨by (with_reducible repeat apply ru); exact Kd.R_mono HO_761000.out (fun _ hk => ⟨hk.1, hk.2.1⟩)⟩, ⟨by (with_reducible repeat refine bu ?_); exact BK737.out⟩, ⟨by (with_reducible repeat refine bu ?_); exact BK738.out⟩, ⟨by (with_reducible repeat refine bu ?_); exact BK749.out⟩, ⟨by (with_reducible repeat refine bu ?_); exact BK753.out⟩, ⟨by (with_reducible repeat refine bu ?_); exact BK760.out⟩, ⟨by repeat (first | (with_reducible first | exact HB.out | apply below_alloc | apply pw_below_drewN | apply below_drew1 | refine below_set ?_ GE737.out | refine below_set ?_ GE738.out | refine below_set ?_ GE749.out | refine below_set ?_ GE753.out | refine below_set ?_ GE760.out) | exact HB.out)⟩⟩
            case rest =>
              clear HC75
              try clear c1
              try clear c2
              try clear p2
              try clear c3
              try clear c4
              try clear c5
              try clear c6
              try clear c7
              try clear c8
              try clear c9
              try clear c10
              try clear c19
              try clear c26
              try clear c30
              try clear c31
              try clear c32
              try clear c49
              try clear c50
              try clear c51
              try clear c52
              try clear c53
              try clear c55
              try clear c56
              try clear c57
              try clear c60
              try clear c61
              try clear c62
              try clear c63
              try clear c65
              try clear c66
              try clear c67
              try clear c70
              try clear c73
              try clear c80
              try clear c81
              try clear c82
              try clear c83
              try clear c86
              try clear c86b0
              try clear c88
              try clear c89
              try clear c90
              try clear c91
              try clear c92
              try clear c94
              try clear c95
              try clear c96
              try clear c99
              try clear c100
              try clear c101
              try clear c102
              try clear c104
              try clear c105
              try clear c106
              try clear hcz103_0
              try clear hcz107_0
              try clear hcz54_0
              try clear hcz58_0
              try clear hcz64_0
              try clear hcz68_0
              try clear hcz84_0
              try clear hcz93_0
              try clear hcz97_0
              try clear hfz103_0
              try clear hfz107_0
              try clear hfz54_0
              try clear hfz58_0
              try clear hfz64_0
              try clear hfz68_0
              try clear hfz84_0
              try clear hfz93_0
              try clear hfz97_0
              try clear p2
              obtain ⟨kq, x67_74, rfl, HA, HJ74, HO_750000, HO_754000, HO_761000, BK737, BK738, BK749, BK753, BK760, HB⟩ := hcut
              have hl754000_74 := (Kd.R_reads' HO_754000.out).1
              rw [hl754000_74] at HO_754000
              (try simp only [hl754000_74])
              (try simp only [hl754000_74] at BK737)
              (try simp only [hl754000_74] at BK738)
              (try simp only [hl754000_74] at BK749)
              (try simp only [hl754000_74] at BK753)
              (try simp only [hl754000_74] at BK760)
              (try simp only [hl754000_74] at HO_750000)
              (try simp only [hl754000_74] at HO_761000)
              cases kq with
              | zero => exact absurd HA.out (by simp [laws_FnExactMapPut.j1])
              | succ kj74 =>
                have H := HA.out
                clear HA
                simp only [laws_FnExactMapPut.j1] at H
                by_cases c109 : x67_74 = true
                · subst c109
                  have H1 : (some false) = some r := by rw [if_pos rfl] at H; exact H
                  clear H
                  have H := H1
                  clear H1
                  exact absurd ((Option.some.inj H).trans hrt.out) (by decide)
                · replace c109 := Bool.eq_false_iff.mpr c109
                  subst c109
                  have H1 : ((laws_markMapTab.f kj74 t756 1).bind fun bt769 => ((laws_heldMapTab.f kj74 bt769.2 1).bind fun t771 => (if t771 < 0 then (some false) else (if t771 = bt769.1 then ((laws_toMapTab.f kj74 l0_0).bind fun t772 => ((laws_toEndPoint.f a1_0 a1_1).bind fun bt775 => ((impl_MapPut.f kj74 t772 bt775.1 bt775.2).bind fun bt777 => ((laws_eqMapTab.f kj74 bt777.1 t745).bind fun t782 => (if t782 = true then (laws_FnExactMapPut.j2 kj74 bt769.1 (bt777.2 != t748) bt769.2) else (laws_FnExactMapPut.j2 kj74 bt769.1 true bt769.2)))))) else (some false))))) = some r := by rw [if_neg (show ¬ (false = true) by decide)] at H; exact H
                  clear H
                  have H := H1
                  clear H1
                  replace H := Option.bind_eq_some_iff.mp H
                  obtain ⟨⟨t769, t770⟩, A1100, H⟩ := H
                  replace H : ((laws_heldMapTab.f kj74 t770 1).bind fun t771 => (if t771 < 0 then (some false) else (if t771 = t769 then ((laws_toMapTab.f kj74 l0_0).bind fun t772 => ((laws_toEndPoint.f a1_0 a1_1).bind fun bt775 => ((impl_MapPut.f kj74 t772 bt775.1 bt775.2).bind fun bt777 => ((laws_eqMapTab.f kj74 bt777.1 t745).bind fun t782 => (if t782 = true then (laws_FnExactMapPut.j2 kj74 t769 (bt777.2 != t748) t770) else (laws_FnExactMapPut.j2 kj74 t769 true t770)))))) else (some false)))) = some r := H
                  have A110 := Aside0.mk A1100
                  clear A1100
                  replace H := Option.bind_eq_some_iff.mp H
                  obtain ⟨t771, A1110, H⟩ := H
                  replace H : (if t771 < 0 then (some false) else (if t771 = t769 then ((laws_toMapTab.f kj74 l0_0).bind fun t772 => ((laws_toEndPoint.f a1_0 a1_1).bind fun bt775 => ((impl_MapPut.f kj74 t772 bt775.1 bt775.2).bind fun bt777 => ((laws_eqMapTab.f kj74 bt777.1 t745).bind fun t782 => (if t782 = true then (laws_FnExactMapPut.j2 kj74 t769 (bt777.2 != t748) t770) else (laws_FnExactMapPut.j2 kj74 t769 true t770)))))) else (some false))) = some r := H
                  have A111 := Aside0.mk A1110
                  clear A1110
                  by_cases c112 : t771 < 0
                  · rw [if_pos c112] at H
                    have c112b0 : decide (t771 < 0) = true := decide_eq_true c112
                    clear c112
                    exact absurd ((Option.some.inj H).trans hrt.out) (by decide)
                  · rw [if_neg c112] at H
                    have c112b0 : decide (t771 < 0) = false := decide_eq_false c112
                    clear c112
                    by_cases c113 : t771 = t769
                    · rw [if_pos c113] at H
                      have c113b0 : (t771 == t769) = true := beq_iff_eq.mpr c113
                      have c113b1 : (t771 != t769) = false := bne_eq_false_iff_eq.mpr c113
                      clear c113
                      replace H := Option.bind_eq_some_iff.mp H
                      obtain ⟨t772, A1140, H⟩ := H
                      replace H : ((laws_toEndPoint.f a1_0 a1_1).bind fun bt775 => ((impl_MapPut.f kj74 t772 bt775.1 bt775.2).bind fun bt777 => ((laws_eqMapTab.f kj74 bt777.1 t745).bind fun t782 => (if t782 = true then (laws_FnExactMapPut.j2 kj74 t769 (bt777.2 != t748) t770) else (laws_FnExactMapPut.j2 kj74 t769 true t770))))) = some r := H
                      have A114 := Aside0.mk A1140
                      clear A1140
                      replace H := Option.bind_eq_some_iff.mp H
                      obtain ⟨⟨t775, t776⟩, A1150, H⟩ := H
                      replace H : ((impl_MapPut.f kj74 t772 t775 t776).bind fun bt777 => ((laws_eqMapTab.f kj74 bt777.1 t745).bind fun t782 => (if t782 = true then (laws_FnExactMapPut.j2 kj74 t769 (bt777.2 != t748) t770) else (laws_FnExactMapPut.j2 kj74 t769 true t770)))) = some r := H
                      have A115 := Aside0.mk A1150
                      clear A1150
                      replace H := Option.bind_eq_some_iff.mp H
                      obtain ⟨⟨t777, t780⟩, A1160, H⟩ := H
                      replace H : ((laws_eqMapTab.f kj74 t777 t745).bind fun t782 => (if t782 = true then (laws_FnExactMapPut.j2 kj74 t769 (t780 != t748) t770) else (laws_FnExactMapPut.j2 kj74 t769 true t770))) = some r := H
                      have A116 := Aside0.mk A1160
                      clear A1160
                      have HC117 := Aside0.mk H
                      clear H
                      have hnb118 := NB760_737.out
                      have hnc118 := NB737_760.out
                      have hnb119 := NB760_738.out
                      have hnc119 := NB738_760.out
                      have hnb120 := NB760_749.out
                      have hnc120 := NB749_760.out
                      have hnb121 := NB760_753.out
                      have hnc121 := NB753_760.out
                      have hcz122_0 : wc.cell? ⟨gb760, 0, none⟩ = some (.slice Ao46 t756.length co46) := (blk_cell BK760.out 0).trans rfl
                      have hfz122_0 := blk_frozen BK760.out 0
                      try go_wp2_with (first | ((with_reducible refine gate_callee (f := 32) rfl ?_); refine goesL_ (some 70) rfl rfl Try.func32 (by kernel_rfl) rfl #[.agg #[.slice Ao46 t756.length co46], .int .i64 1] rfl (by (try simp only [List.map_toArray, List.map_cons, List.map_nil]); first | done | rfl | (simp only [List.length_drop, List.length_take]; rfl)) ?_; (with_reducible refine (laws_markMapTab.calls kj74 (fun k_ => some k_ = (.slice Ao46 t756.length co46 : Value).ownBlock) (.slice Ao46 t756.length co46) t756 1 t769 t770 w _ ?side1 ?side2 A110.out).mono ?_); (case side1 => repeat (first | (with_reducible first | exact HB.out | apply below_alloc | apply pw_below_drewN | apply below_drew1 | refine below_set ?_ GE737.out | refine below_set ?_ GE738.out | refine below_set ?_ GE749.out | refine below_set ?_ GE753.out | refine below_set ?_ GE760.out) | exact HB.out)); (case side2 => exact Kd.R_tight rfl HO_761000.out); rintro e w123 ⟨rfl, hy0, hb, hkp⟩; refine ⟨_, rfl, ?_⟩; have n0_ := Aside0.mk (Kd.R_mono (ok' := fun k_ => some k_ ≠ (.slice Ao35 t767.length co35 : Value).ownBlock ∧ some k_ ≠ (.slice Ao46 t756.length co46 : Value).ownBlock) (Kd.R_keptB (HO_750000.out) hkp (fun k_ hk_ hs_ => (hk_.2) hs_)) (fun k_ hk_ => ⟨hk_.1.1, hk_.1.2⟩)); have n1_ := Aside0.mk (Kd.R_mono (ok' := fun k_ => some k_ ≠ (.slice Ao29 t745.length co29 : Value).ownBlock ∧ some k_ ≠ (.slice Ao46 t756.length co46 : Value).ownBlock) (Kd.R_keptB (HO_754000.out) hkp (fun k_ hk_ hs_ => (hk_.2) hs_)) (fun k_ hk_ => ⟨hk_.1.1, hk_.1.2⟩)); have n2_ := Aside0.mk (Kd.R_reok rfl hy0 (fun k_ e_ => HO_761000.out.1 k_ e_)); have n3_ := Aside0.mk (blk_kept (bk BK737) hkp (fun hs_ => (fun e_ => (Kd.R_ne HO_761000.out BK737.out (by decide)) e_) hs_)); have n4_ := Aside0.mk (blk_kept (bk BK738) hkp (fun hs_ => (fun e_ => (Kd.R_ne HO_761000.out BK738.out (by decide)) e_) hs_)); have n5_ := Aside0.mk (blk_kept (bk BK749) hkp (fun hs_ => (fun e_ => (Kd.R_ne HO_761000.out BK749.out (by decide)) e_) hs_)); have n6_ := Aside0.mk (blk_kept (bk BK753) hkp (fun hs_ => (fun e_ => (Kd.R_ne HO_761000.out BK753.out (by decide)) e_) hs_)); have n7_ := Aside0.mk (blk_kept (bk BK760) hkp (fun hs_ => (fun e_ => (Kd.R_ne HO_761000.out BK760.out (by decide)) e_) hs_)); have n8_ := Aside0.mk (hb); clear HO_750000; clear HO_754000; clear HO_761000; clear BK737; clear BK738; clear BK749; clear BK753; clear BK760; clear HB; have HO_750000 := n0_; have HO_754000 := n1_; have HO_761000 := n2_; have BK737 := n3_; have BK738 := n4_; have BK749 := n5_; have BK753 := n6_; have BK760 := n7_; have HB := n8_; clear n0_ n1_ n2_ n3_ n4_ n5_ n6_ n7_ n8_; (try clear hb); (try clear hkp); (try clear hy0); have hcz124_0 : w123.cell? ⟨gb760, 0, none⟩ = some (.slice Ao46 t756.length co46) := (blk_cell BK760.out 0).trans rfl; have hfz124_0 := blk_frozen BK760.out 0) | ((with_reducible refine gate_callee (f := 33) rfl ?_); refine goesL_ (some 73) rfl rfl Try.func33 (by kernel_rfl) rfl #[.agg #[.slice Ao46 t770.length co46], .int .i64 1] rfl (by (try simp only [List.map_toArray, List.map_cons, List.map_nil]); first | done | (rw [show t770.length = t756.length from (Kd.R_reads' HO_761000.out).1.symm] <;> rfl) | rfl | (simp only [List.length_drop, List.length_take]; rfl)) ?_; (with_reducible refine (laws_heldMapTab.calls kj74 _ _ t770 1 t771 _ ?side1 ?side2 A111.out).mono ?_); (case side1 => repeat (first | exact (Kd.R_reads' HO_761000.out).2.2 | (with_reducible refine Kd.C_alloc ?_ _) | (with_reducible refine Kd.C_drewN ?_ _) | (with_reducible refine Kd.C_drew ?_))); (case side2 => rw [show t770.length = t756.length from (Kd.R_reads' HO_761000.out).1.symm]; exact (Kd.R_reads' HO_761000.out).2.1); rintro e w125 ⟨rfl, hb⟩; refine ⟨_, rfl, ?_⟩; have n0_ := Aside0.mk (Kd.R_below (rs HO_750000) hb); have n1_ := Aside0.mk (Kd.R_below (rs HO_754000) hb); have n2_ := Aside0.mk (Kd.R_below (rs HO_761000) hb); have n3_ := bkB BK737 hb; have n4_ := bkB BK738 hb; have n5_ := bkB BK749 hb; have n6_ := bkB BK753 hb; have n7_ := bkB BK760 hb; have n8_ := Aside0.mk (below_step (bl HB) hb); clear HO_750000; clear HO_754000; clear HO_761000; clear BK737; clear BK738; clear BK749; clear BK753; clear BK760; clear HB; have HO_750000 := n0_; have HO_754000 := n1_; have HO_761000 := n2_; have BK737 := n3_; have BK738 := n4_; have BK749 := n5_; have BK753 := n6_; have BK760 := n7_; have HB := n8_; clear n0_ n1_ n2_ n3_ n4_ n5_ n6_ n7_ n8_; (try clear hb); (try clear hb2); (try clear hk); (try clear hi)))
                      have n0_ := Aside0.mk (Kd.R_drew HO_750000.out)
                      have n1_ := Aside0.mk (Kd.R_drew HO_754000.out)
                      have n2_ := Aside0.mk (Kd.R_drew HO_761000.out)
                      have n3_ := Aside0.mk (blk_drew BK737.out)
                      have n4_ := Aside0.mk (blk_drew BK738.out)
                      have n5_ := Aside0.mk (blk_drew BK749.out)
                      have n6_ := Aside0.mk (blk_drew BK753.out)
                      have n7_ := Aside0.mk (blk_drew BK760.out)
                      have n8_ := Aside0.mk (below_drew1 HB.out)
                      clear HO_750000
                      clear HO_754000
                      clear HO_761000
                      clear BK737
                      clear BK738
                      clear BK749
                      clear BK753
                      clear BK760
                      clear HB
                      have HO_750000 := n0_
                      have HO_754000 := n1_
                      have HO_761000 := n2_
                      have BK737 := n3_
                      have BK738 := n4_
                      have BK749 := n5_
                      have BK753 := n6_
                      have BK760 := n7_
                      have HB := n8_
                      clear n0_ n1_ n2_ n3_ n4_ n5_ n6_ n7_ n8_
                      refine start_ (n := 11) (S := fun w' => w'.cell? ⟨gb737, 0, none⟩ = some (.slice A0_0 l0_0.length c0_0) ∧ w'.cell? ⟨gb738, 0, none⟩ = some (.int .i64 a1_0) ∧ w'.cell? ⟨gb738, 1, none⟩ = some (.int .i64 a1_1)) (ds := []) #[false, false, false, false, false, false, false, false, false, false, false] (by kernel_rfl) rfl rfl ⟨(blk_cell BK737.out 0).trans rfl, (blk_cell BK738.out 0).trans rfl, (blk_cell BK738.out 1).trans rfl⟩ (fun hHeld => ?_); refine with_tabW laws_FnExactMapPut.tab24 laws_FnExactMapPut.bits24 (fun HT_ HW_ => ?_)
                      generalize w125.drew = w126 at HO_750000 HO_754000 HO_761000 BK737 BK738 BK749 BK753 BK760 HB hHeld ⊢
                      refine take_ (i := 0) (N := some 80) (v := ?_) (a' := ?_) #[true, false, false, false, false, false, false, false, false, false, false] rfl rfl (take_ofW HT_.out HW_.out (by kernel_rfl)) (fun _ _ _ h => h) (Or.inl ⟨by rfl, ?_⟩) hHeld ?_ ?_
                      rotate_left
                      · rintro w' ⟨s0, s1, s2⟩
                        go_simp
                        with_reducible rfl
                      rotate_left
                      · simp only [Act.put, List.setIfInBounds_toArray, List.set_cons_zero, List.set_cons_succ, i64_w, i32_w]
                        rfl
                      refine take_ (i := 2) (N := some 82) (v := ?_) (a' := ?_) #[true, false, true, false, false, false, false, false, false, false, false] rfl rfl (take_ofW HT_.out HW_.out (by kernel_rfl)) (fun _ _ _ h => h) (Or.inl ⟨by rfl, ?_⟩) hHeld ?_ ?_
                      rotate_left
                      · rintro w' ⟨s0, s1, s2⟩
                        go_simp
                        with_reducible rfl
                      rotate_left
                      · simp only [Act.put, List.setIfInBounds_toArray, List.set_cons_zero, List.set_cons_succ, i64_w, i32_w]
                        rfl
                      refine join_ (σ := Value × Value × Nat) 2 #[true, true, true, true, true, true, true, true, true, false, false] (fun s_ => [(81, .agg #[s_.1]), (83, .agg #[.int .i64 t775, .int .i64 t776]), (84, .tuple #[.agg #[s_.2.1], .int .i64 t780]), (14, .pointer (some ⟨s_.2.2, 0, none⟩)), (79, .tuple #[.agg #[s_.2.1], .int .i64 t780]), (85, .agg #[s_.2.1]), (86, .int .i64 t780)]) (fun s_ w' => (w'.cell? ⟨gb737, 0, none⟩ = some (.slice A0_0 l0_0.length c0_0) ∧ w'.cell? ⟨gb738, 0, none⟩ = some (.int .i64 a1_0) ∧ w'.cell? ⟨gb738, 1, none⟩ = some (.int .i64 a1_1)) ∧ (Kd.R k29 29 w' w.heap.size (fun k_ => some k_ ≠ (s_.2.1 : Value).ownBlock ∧ some k_ ≠ (.slice Ao29 t745.length co29 : Value).ownBlock ∧ some k_ ≠ (.slice Ao35 t767.length co35 : Value).ownBlock ∧ some k_ ≠ (.slice Ao46 t756.length co46 : Value).ownBlock) s_.1 t772) ∧ (Kd.R k29 29 w' w.heap.size (fun k_ => some k_ ≠ (s_.1 : Value).ownBlock ∧ some k_ ≠ (.slice Ao29 t745.length co29 : Value).ownBlock ∧ some k_ ≠ (.slice Ao35 t767.length co35 : Value).ownBlock ∧ some k_ ≠ (.slice Ao46 t756.length co46 : Value).ownBlock) s_.2.1 t777) ∧ (Kd.R k29 29 w' w.heap.size (fun k_ => some k_ ≠ (s_.1 : Value).ownBlock ∧ some k_ ≠ (s_.2.1 : Value).ownBlock ∧ some k_ ≠ (.slice Ao35 t767.length co35 : Value).ownBlock ∧ some k_ ≠ (.slice Ao46 t756.length co46 : Value).ownBlock) (.slice Ao29 t745.length co29) t745) ∧ (Kd.R k29 29 w' w.heap.size (fun k_ => some k_ ≠ (s_.1 : Value).ownBlock ∧ some k_ ≠ (s_.2.1 : Value).ownBlock ∧ some k_ ≠ (.slice Ao29 t745.length co29 : Value).ownBlock ∧ some k_ ≠ (.slice Ao46 t756.length co46 : Value).ownBlock) (.slice Ao35 t767.length co35) t767) ∧ (Kd.R k29 29 w' w.heap.size (fun k_ => some k_ ≠ (s_.1 : Value).ownBlock ∧ some k_ ≠ (s_.2.1 : Value).ownBlock ∧ some k_ ≠ (.slice Ao29 t745.length co29 : Value).ownBlock ∧ some k_ ≠ (.slice Ao35 t767.length co35 : Value).ownBlock) (.slice Ao46 t756.length co46) t770) ∧ (w'.heap[gb737]? = some (.cells #[.slice A0_0 l0_0.length c0_0] 55 (0, 0))) ∧ (w'.heap[gb738]? = some (.cells #[.int .i64 a1_0, .int .i64 a1_1] 34 (0, 0))) ∧ (w'.heap[gb749]? = some (.cells #[.slice Ao29 t745.length co29] 45 (0, 0))) ∧ (w'.heap[gb753]? = some (.cells #[.slice Ao35 t767.length co35] 45 (0, 0))) ∧ (w'.heap[gb760]? = some (.cells #[.slice Ao46 t756.length co46] 45 (0, 0))) ∧ (w'.heap[s_.2.2]? = some (.cells #[.slice none 0 0] 45 (0, 0))) ∧ (w.heap.size ≤ s_.2.2) ∧ (w.heap.size ≤ s_.2.2) ∧ (gb737 ≠ s_.2.2) ∧ (s_.2.2 ≠ gb737) ∧ (gb738 ≠ s_.2.2) ∧ (s_.2.2 ≠ gb738) ∧ (gb749 ≠ s_.2.2) ∧ (s_.2.2 ≠ gb749) ∧ (gb753 ≠ s_.2.2) ∧ (s_.2.2 ≠ gb753) ∧ (gb760 ≠ s_.2.2) ∧ (s_.2.2 ≠ gb760) ∧ (Below w.heap.size w w')) ?_ ?_
                      rotate_left
                      · intro hCont
                        refine two_ (i := 1) (j := 8) (Ni := some 81) (Nj := some 14) #[true, true, true, false, false, false, false, false, false, false, false] #[true, false, true, false, false, false, false, false, true, false, false] rfl rfl rfl rfl (two_of HT_.out (by kernel_rfl)) (by decide) (by decide) (fun K hK => ?_) (fun K hK => ?_)
                        · skip
                          refine goes_ Try.func30 (by kernel_rfl) rfl #[.agg #[.slice A0_0 l0_0.length c0_0]] (by rfl) rfl rfl (by (try simp only [List.map_toArray, List.map_cons, List.map_nil]); first | done | rfl | (simp only [List.length_drop, List.length_take]; rfl)) ?_
                          with_reducible refine (laws_toMapTab.calls kj74 _ _ l0_0 t772 _ ?side1 ?side2 A114.out).mono ?_
                          (case side1 => repeat (first | exact (Kd.C_below HR0_0.out HB.out) | (with_reducible refine Kd.C_alloc ?_ _) | (with_reducible refine Kd.C_drewN ?_ _) | (with_reducible refine Kd.C_drew ?_)))
                          (case side2 => exact HC0_0.out)
                          rintro e w127 ⟨v773, rfl, ho0, hb⟩
                          refine ⟨_, rfl, ?_⟩
                          have n0_ := Aside0.mk (Kd.R_elder' (rs HO_750000) (Kd.R_base ho0) hb)
                          have n1_ := Aside0.mk (Kd.R_elder' (rs HO_754000) (Kd.R_base ho0) hb)
                          have n2_ := Aside0.mk (Kd.R_elder' (rs HO_761000) (Kd.R_base ho0) hb)
                          have n3_ := Aside0.mk (Kd.R_lower (Kd.R_new' (Kd.R_new' (Kd.R_new' ho0 (Kd.R_lt (rs HO_750000))) (Kd.R_lt (rs HO_754000))) (Kd.R_lt (rs HO_761000))) (below_size (bl HB)))
                          have n4_ := bkB BK737 hb
                          have n5_ := bkB BK738 hb
                          have n6_ := bkB BK749 hb
                          have n7_ := bkB BK753 hb
                          have n8_ := bkB BK760 hb
                          have n9_ := Aside0.mk (below_step (bl HB) hb)
                          clear HO_750000
                          clear HO_754000
                          clear HO_761000
                          clear BK737
                          clear BK738
                          clear BK749
                          clear BK753
                          clear BK760
                          clear HB
                          have HO_750000 := n0_
                          have HO_754000 := n1_
                          have HO_761000 := n2_
                          have HO774 := n3_
                          have BK737 := n4_
                          have BK738 := n5_
                          have BK749 := n6_
                          have BK753 := n7_
                          have BK760 := n8_
                          have HB := n9_
                          clear n0_ n1_ n2_ n3_ n4_ n5_ n6_ n7_ n8_ n9_
                          (try clear hb)
                          (try clear hb2)
                          (try clear hk)
                          (try clear hi)
                          (try clear ho0)
                          refine hK.out _ _ ⟨(blk_cell BK737.out 0).trans rfl, (blk_cell BK738.out 0).trans rfl, (blk_cell BK738.out 1).trans rfl⟩ (fun hHeld => ?_)
                          clear hK K
                          refine norm_ (a' := ?_) ?_ ?_
                          rotate_left
                          · show Act.put _ (some 81) _ = _
                            simp only [Act.put, List.setIfInBounds_toArray, List.set_cons_zero, List.set_cons_succ, i64_w, i32_w]
                            rfl
                          refine two_ (i := 3) (j := 8) (Ni := some 83) (Nj := some 14) #[true, true, true, true, false, false, false, false, false, false, false] #[true, true, true, false, false, false, false, false, true, false, false] rfl rfl rfl rfl (two_of HT_.out (by kernel_rfl)) (by decide) (by decide) (fun K hK => ?_) (fun K hK => ?_)
                          · skip
                            refine goes_ Try.func19 (by kernel_rfl) rfl #[.agg #[.int .i64 a1_0, .int .i64 a1_1]] (by rfl) rfl rfl (by (try simp only [List.map_toArray, List.map_cons, List.map_nil]); first | done | rfl | (simp only [List.length_drop, List.length_take]; rfl)) ?_
                            with_reducible refine (laws_toEndPoint.calls a1_0 a1_1 t775 t776 _ A115.out).mono ?_
                            rintro e w128 ⟨rfl, hb⟩
                            refine ⟨_, rfl, ?_⟩
                            have n0_ := Aside0.mk (Kd.R_below (rs HO_750000) hb)
                            have n1_ := Aside0.mk (Kd.R_below (rs HO_754000) hb)
                            have n2_ := Aside0.mk (Kd.R_below (rs HO_761000) hb)
                            have n3_ := Aside0.mk (Kd.R_below (rs HO774) hb)
                            have n4_ := bkB BK737 hb
                            have n5_ := bkB BK738 hb
                            have n6_ := bkB BK749 hb
                            have n7_ := bkB BK753 hb
                            have n8_ := bkB BK760 hb
                            have n9_ := Aside0.mk (below_step (bl HB) hb)
                            clear HO_750000
                            clear HO_754000
                            clear HO_761000
                            clear HO774
                            clear BK737
                            clear BK738
                            clear BK749
                            clear BK753
                            clear BK760
                            clear HB
                            have HO_750000 := n0_
                            have HO_754000 := n1_
                            have HO_761000 := n2_
                            have HO774 := n3_
                            have BK737 := n4_
                            have BK738 := n5_
                            have BK749 := n6_
                            have BK753 := n7_
                            have BK760 := n8_
                            have HB := n9_
                            clear n0_ n1_ n2_ n3_ n4_ n5_ n6_ n7_ n8_ n9_
                            (try clear hb)
                            (try clear hb2)
                            (try clear hk)
                            (try clear hi)
                            obtain ⟨Ao129, co129, eo129⟩ := Kd.R_slice HO774.out
                            (first | subst eo129 | (injection eo129 with f1_ f2_ f3_; have f4_ := f1_.symm; have f5_ := f3_.symm; clear f1_ f2_ f3_; subst f4_; subst f5_))
                            refine hK.out _ _ ⟨(blk_cell BK737.out 0).trans rfl, (blk_cell BK738.out 0).trans rfl, (blk_cell BK738.out 1).trans rfl⟩ (fun hHeld => ?_)
                            clear hK K
                            refine norm_ (a' := ?_) ?_ ?_
                            rotate_left
                            · show Act.put _ (some 83) _ = _
                              simp only [Act.put, List.setIfInBounds_toArray, List.set_cons_zero, List.set_cons_succ, i64_w, i32_w]
                              rfl
                            refine two_ (i := 4) (j := 8) (Ni := some 84) (Nj := some 14) #[true, true, true, true, true, false, false, false, false, false, false] #[true, true, true, true, false, false, false, false, true, false, false] rfl rfl rfl rfl (two_of HT_.out (by kernel_rfl)) (by decide) (by decide) (fun K hK => ?_) (fun K hK => ?_)
                            · skip
                              refine goes_ Try.func26 (by kernel_rfl) rfl #[.agg #[.slice Ao129 t772.length co129], .agg #[.int .i64 t775, .int .i64 t776]] (by rfl) rfl rfl (by (try simp only [List.map_toArray, List.map_cons, List.map_nil]); first | done | rfl | (simp only [List.length_drop, List.length_take]; rfl)) ?_
                              with_reducible refine (impl_MapPut.calls kj74 _ _ t772 t775 t776 t777 t780 _ ?side1 ?side2 A116.out).mono ?_
                              (case side1 => repeat (first | exact (Kd.R_reads' HO774.out).2.2 | (with_reducible refine Kd.C_alloc ?_ _) | (with_reducible refine Kd.C_drewN ?_ _) | (with_reducible refine Kd.C_drew ?_)))
                              (case side2 => exact (Kd.R_reads' HO774.out).2.1)
                              rintro e w130 ⟨v778, rfl, ho0, hb⟩
                              refine ⟨_, rfl, ?_⟩
                              have n0_ := Aside0.mk (Kd.R_elder' (rs HO_750000) (Kd.R_base ho0) hb)
                              have n1_ := Aside0.mk (Kd.R_elder' (rs HO_754000) (Kd.R_base ho0) hb)
                              have n2_ := Aside0.mk (Kd.R_elder' (rs HO_761000) (Kd.R_base ho0) hb)
                              have n3_ := Aside0.mk (Kd.R_elder' (rs HO774) (Kd.R_base ho0) hb)
                              have n4_ := Aside0.mk (Kd.R_lower (Kd.R_new' (Kd.R_new' (Kd.R_new' (Kd.R_new' ho0 (Kd.R_lt (rs HO_750000))) (Kd.R_lt (rs HO_754000))) (Kd.R_lt (rs HO_761000))) (Kd.R_lt (rs HO774))) (below_size (bl HB)))
                              have n5_ := bkB BK737 hb
                              have n6_ := bkB BK738 hb
                              have n7_ := bkB BK749 hb
                              have n8_ := bkB BK753 hb
                              have n9_ := bkB BK760 hb
                              have n10_ := Aside0.mk (below_step (bl HB) hb)
                              clear HO_750000
                              clear HO_754000
                              clear HO_761000
                              clear HO774
                              clear BK737
                              clear BK738
                              clear BK749
                              clear BK753
                              clear BK760
                              clear HB
                              have HO_750000 := n0_
                              have HO_754000 := n1_
                              have HO_761000 := n2_
                              have HO774 := n3_
                              have HO779 := n4_
                              have BK737 := n5_
                              have BK738 := n6_
                              have BK749 := n7_
                              have BK753 := n8_
                              have BK760 := n9_
                              have HB := n10_
                              clear n0_ n1_ n2_ n3_ n4_ n5_ n6_ n7_ n8_ n9_ n10_
                              (try clear hb)
                              (try clear hb2)
                              (try clear hk)
                              (try clear hi)
                              (try clear ho0)
                              refine hK.out _ _ ⟨(blk_cell BK737.out 0).trans rfl, (blk_cell BK738.out 0).trans rfl, (blk_cell BK738.out 1).trans rfl⟩ (fun hHeld => ?_)
                              clear hK K
                              refine norm_ (a' := ?_) ?_ ?_
                              rotate_left
                              · show Act.put _ (some 84) _ = _
                                simp only [Act.put, List.setIfInBounds_toArray, List.set_cons_zero, List.set_cons_succ, i64_w, i32_w]
                                rfl
                              refine pure_ (i := 5) (N := some 79) (v := ?_) (a' := ?_) #[true, true, true, true, true, true, false, false, false, false, false] rfl rfl (any_of HT_.out (by kernel_rfl)) (fun _ _ _ h => h) (Or.inl ⟨by rfl, ?_⟩) ?_ ?_
                              rotate_left
                              · intro w'
                                go_simp
                                with_reducible rfl
                              rotate_left
                              · simp only [Act.put, List.setIfInBounds_toArray, List.set_cons_zero, List.set_cons_succ, i64_w, i32_w]
                                rfl
                              refine pure_ (i := 6) (N := some 85) (v := ?_) (a' := ?_) #[true, true, true, true, true, true, true, false, false, false, false] rfl rfl (any_of HT_.out (by kernel_rfl)) (fun _ _ _ h => h) (Or.inl ⟨by rfl, ?_⟩) ?_ ?_
                              rotate_left
                              · intro w'
                                go_simp
                                with_reducible rfl
                              rotate_left
                              · simp only [Act.put, List.setIfInBounds_toArray, List.set_cons_zero, List.set_cons_succ, i64_w, i32_w]
                                rfl
                              refine pure_ (i := 7) (N := some 86) (v := ?_) (a' := ?_) #[true, true, true, true, true, true, true, true, false, false, false] rfl rfl (any_of HT_.out (by kernel_rfl)) (fun _ _ _ h => h) (Or.inl ⟨by rfl, ?_⟩) ?_ ?_
                              rotate_left
                              · intro w'
                                go_simp
                                with_reducible rfl
                              rotate_left
                              · simp only [Act.put, List.setIfInBounds_toArray, List.set_cons_zero, List.set_cons_succ, i64_w, i32_w]
                                rfl
                              refine one_ (i := 8) (N := some 14) #[true, true, true, true, true, true, true, true, true, false, false] rfl rfl (one_of HT_.out (by kernel_rfl)) (by decide) (fun K hK => ?_)
                              refine box_step ?hg (N := 14) ?hd (cs := #[.slice none 0 0]) (t := 45) ?hr ?_; (case hd => rfl); (case hg => rfl); (case hr => first | (go_simp; done) | (go_simp; rfl))
                              intro gb781 hg w131 hbox hb
                              have n0_ := Aside0.mk (Kd.R_below (rs HO_750000) hb)
                              have n1_ := Aside0.mk (Kd.R_below (rs HO_754000) hb)
                              have n2_ := Aside0.mk (Kd.R_below (rs HO_761000) hb)
                              have n3_ := Aside0.mk (Kd.R_below (rs HO774) hb)
                              have n4_ := Aside0.mk (Kd.R_below (rs HO779) hb)
                              have n5_ := bkB BK737 hb
                              have n6_ := bkB BK738 hb
                              have n7_ := bkB BK749 hb
                              have n8_ := bkB BK753 hb
                              have n9_ := bkB BK760 hb
                              have n10_ := Aside0.mk (below_step (bl HB) hb)
                              have n11_ := Aside0.mk (hbox)
                              have n12_ := Aside0.mk ((by rw [hg]; exact (below_size (bl HB)) : w.heap.size ≤ gb781))
                              have n13_ := Aside0.mk ((by rw [hg]; exact (below_size (bl HB)) : w.heap.size ≤ gb781))
                              have n14_ := Aside0.mk ((by rw [hg]; exact Nat.ne_of_lt (bkL BK737) : gb737 ≠ gb781))
                              have n15_ := Aside0.mk ((by rw [hg]; exact Nat.ne_of_gt (bkL BK737) : gb781 ≠ gb737))
                              have n16_ := Aside0.mk ((by rw [hg]; exact Nat.ne_of_lt (bkL BK738) : gb738 ≠ gb781))
                              have n17_ := Aside0.mk ((by rw [hg]; exact Nat.ne_of_gt (bkL BK738) : gb781 ≠ gb738))
                              have n18_ := Aside0.mk ((by rw [hg]; exact Nat.ne_of_lt (bkL BK749) : gb749 ≠ gb781))
                              have n19_ := Aside0.mk ((by rw [hg]; exact Nat.ne_of_gt (bkL BK749) : gb781 ≠ gb749))
                              have n20_ := Aside0.mk ((by rw [hg]; exact Nat.ne_of_lt (bkL BK753) : gb753 ≠ gb781))
                              have n21_ := Aside0.mk ((by rw [hg]; exact Nat.ne_of_gt (bkL BK753) : gb781 ≠ gb753))
                              have n22_ := Aside0.mk ((by rw [hg]; exact Nat.ne_of_lt (bkL BK760) : gb760 ≠ gb781))
                              have n23_ := Aside0.mk ((by rw [hg]; exact Nat.ne_of_gt (bkL BK760) : gb781 ≠ gb760))
                              clear HO_750000
                              clear HO_754000
                              clear HO_761000
                              clear HO774
                              clear HO779
                              clear BK737
                              clear BK738
                              clear BK749
                              clear BK753
                              clear BK760
                              clear HB
                              have HO_750000 := n0_
                              have HO_754000 := n1_
                              have HO_761000 := n2_
                              have HO774 := n3_
                              have HO779 := n4_
                              have BK737 := n5_
                              have BK738 := n6_
                              have BK749 := n7_
                              have BK753 := n8_
                              have BK760 := n9_
                              have HB := n10_
                              have BK781 := n11_
                              have GW781 := n12_
                              have GE781 := n13_
                              have NB737_781 := n14_
                              have NB781_737 := n15_
                              have NB738_781 := n16_
                              have NB781_738 := n17_
                              have NB749_781 := n18_
                              have NB781_749 := n19_
                              have NB753_781 := n20_
                              have NB781_753 := n21_
                              have NB760_781 := n22_
                              have NB781_760 := n23_
                              clear n0_ n1_ n2_ n3_ n4_ n5_ n6_ n7_ n8_ n9_ n10_ n11_ n12_ n13_ n14_ n15_ n16_ n17_ n18_ n19_ n20_ n21_ n22_ n23_
                              clear hb hbox hg
                              refine hK.out _ _ ⟨(blk_cell BK737.out 0).trans rfl, (blk_cell BK738.out 0).trans rfl, (blk_cell BK738.out 1).trans rfl⟩ (fun hHeld => ?_)
                              clear hK K
                              refine norm_ (a' := ?_) ?_ ?_
                              rotate_left
                              · show Act.put _ (some 14) _ = _
                                simp only [Act.put, List.setIfInBounds_toArray, List.set_cons_zero, List.set_cons_succ, i64_w, i32_w]
                                rfl
                              exact norm_ (by simp only [putAll, Act.put, List.setIfInBounds_toArray, List.set_cons_zero, List.set_cons_succ]) (hCont (.slice Ao129 t772.length co129, v778, gb781) _ ⟨hHeld, (by (with_reducible repeat apply ru); exact Kd.R_mono HO774.out (fun _ hk => ⟨hk.2, ⟨hk.1.1.1.2, ⟨hk.1.1.2, hk.1.2⟩⟩⟩)), (by (with_reducible repeat apply ru); exact Kd.R_mono HO779.out (fun _ hk => ⟨hk.2, ⟨hk.1.1.1.2, ⟨hk.1.1.2, hk.1.2⟩⟩⟩)), (by (with_reducible repeat apply ru); exact Kd.R_mono HO_750000.out (fun _ hk => ⟨hk.1.2, ⟨hk.2, ⟨hk.1.1.1, hk.1.1.2⟩⟩⟩)), (by (with_reducible repeat apply ru); exact Kd.R_mono HO_754000.out (fun _ hk => ⟨hk.1.2, ⟨hk.2, ⟨hk.1.1.1, hk.1.1.2⟩⟩⟩)), (by (with_reducible repeat apply ru); exact Kd.R_mono HO_761000.out (fun _ hk => ⟨hk.1.2, ⟨hk.2, ⟨hk.1.1.1, hk.1.1.2⟩⟩⟩)), (bk BK737), (bk BK738), (bk BK749), (bk BK753), (bk BK760), (bk BK781), GW781.out, GE781.out, NB737_781.out, NB781_737.out, NB738_781.out, NB781_738.out, NB749_781.out, NB781_749.out, NB753_781.out, NB781_753.out, NB760_781.out, NB781_760.out, (bl HB)⟩)
                            · skip
                              refine box_step ?hg (N := 14) ?hd (cs := #[.slice none 0 0]) (t := 45) ?hr ?_; (case hd => rfl); (case hg => rfl); (case hr => first | (go_simp; done) | (go_simp; rfl))
                              intro gb781 hg w129 hbox hb
                              have n0_ := Aside0.mk (Kd.R_below (rs HO_750000) hb)
                              have n1_ := Aside0.mk (Kd.R_below (rs HO_754000) hb)
                              have n2_ := Aside0.mk (Kd.R_below (rs HO_761000) hb)
                              have n3_ := Aside0.mk (Kd.R_below (rs HO774) hb)
                              have n4_ := bkB BK737 hb
                              have n5_ := bkB BK738 hb
                              have n6_ := bkB BK749 hb
                              have n7_ := bkB BK753 hb
                              have n8_ := bkB BK760 hb
                              have n9_ := Aside0.mk (below_step (bl HB) hb)
                              have n10_ := Aside0.mk (hbox)
                              have n11_ := Aside0.mk ((by rw [hg]; exact (below_size (bl HB)) : w.heap.size ≤ gb781))
                              have n12_ := Aside0.mk ((by rw [hg]; exact (below_size (bl HB)) : w.heap.size ≤ gb781))
                              have n13_ := Aside0.mk ((by rw [hg]; exact Nat.ne_of_lt (bkL BK737) : gb737 ≠ gb781))
                              have n14_ := Aside0.mk ((by rw [hg]; exact Nat.ne_of_gt (bkL BK737) : gb781 ≠ gb737))
                              have n15_ := Aside0.mk ((by rw [hg]; exact Nat.ne_of_lt (bkL BK738) : gb738 ≠ gb781))
                              have n16_ := Aside0.mk ((by rw [hg]; exact Nat.ne_of_gt (bkL BK738) : gb781 ≠ gb738))
                              have n17_ := Aside0.mk ((by rw [hg]; exact Nat.ne_of_lt (bkL BK749) : gb749 ≠ gb781))
                              have n18_ := Aside0.mk ((by rw [hg]; exact Nat.ne_of_gt (bkL BK749) : gb781 ≠ gb749))
                              have n19_ := Aside0.mk ((by rw [hg]; exact Nat.ne_of_lt (bkL BK753) : gb753 ≠ gb781))
                              have n20_ := Aside0.mk ((by rw [hg]; exact Nat.ne_of_gt (bkL BK753) : gb781 ≠ gb753))
                              have n21_ := Aside0.mk ((by rw [hg]; exact Nat.ne_of_lt (bkL BK760) : gb760 ≠ gb781))
                              have n22_ := Aside0.mk ((by rw [hg]; exact Nat.ne_of_gt (bkL BK760) : gb781 ≠ gb760))
                              clear HO_750000
                              clear HO_754000
                              clear HO_761000
                              clear HO774
                              clear BK737
                              clear BK738
                              clear BK749
                              clear BK753
                              clear BK760
                              clear HB
                              have HO_750000 := n0_
                              have HO_754000 := n1_
                              have HO_761000 := n2_
                              have HO774 := n3_
                              have BK737 := n4_
                              have BK738 := n5_
                              have BK749 := n6_
                              have BK753 := n7_
                              have BK760 := n8_
                              have HB := n9_
                              have BK781 := n10_
                              have GW781 := n11_
                              have GE781 := n12_
                              have NB737_781 := n13_
                              have NB781_737 := n14_
                              have NB738_781 := n15_
                              have NB781_738 := n16_
                              have NB749_781 := n17_
                              have NB781_749 := n18_
                              have NB753_781 := n19_
                              have NB781_753 := n20_
                              have NB760_781 := n21_
                              have NB781_760 := n22_
                              clear n0_ n1_ n2_ n3_ n4_ n5_ n6_ n7_ n8_ n9_ n10_ n11_ n12_ n13_ n14_ n15_ n16_ n17_ n18_ n19_ n20_ n21_ n22_
                              clear hb hbox hg
                              obtain ⟨Ao130, co130, eo130⟩ := Kd.R_slice HO774.out
                              (first | subst eo130 | (injection eo130 with f1_ f2_ f3_; have f4_ := f1_.symm; have f5_ := f3_.symm; clear f1_ f2_ f3_; subst f4_; subst f5_))
                              refine hK.out _ _ ⟨(blk_cell BK737.out 0).trans rfl, (blk_cell BK738.out 0).trans rfl, (blk_cell BK738.out 1).trans rfl⟩ (fun hHeld => ?_)
                              clear hK K
                              refine norm_ (a' := ?_) ?_ ?_
                              rotate_left
                              · show Act.put _ (some 14) _ = _
                                simp only [Act.put, List.setIfInBounds_toArray, List.set_cons_zero, List.set_cons_succ, i64_w, i32_w]
                                rfl
                              refine one_ (i := 4) (N := some 84) #[true, true, true, true, true, false, false, false, true, false, false] rfl rfl (one_of HT_.out (by kernel_rfl)) (by decide) (fun K hK => ?_)
                              refine goes_ Try.func26 (by kernel_rfl) rfl #[.agg #[.slice Ao130 t772.length co130], .agg #[.int .i64 t775, .int .i64 t776]] (by rfl) rfl rfl (by (try simp only [List.map_toArray, List.map_cons, List.map_nil]); first | done | rfl | (simp only [List.length_drop, List.length_take]; rfl)) ?_
                              with_reducible refine (impl_MapPut.calls kj74 _ _ t772 t775 t776 t777 t780 _ ?side1 ?side2 A116.out).mono ?_
                              (case side1 => repeat (first | exact (Kd.R_reads' HO774.out).2.2 | (with_reducible refine Kd.C_alloc ?_ _) | (with_reducible refine Kd.C_drewN ?_ _) | (with_reducible refine Kd.C_drew ?_)))
                              (case side2 => exact (Kd.R_reads' HO774.out).2.1)
                              rintro e w131 ⟨v778, rfl, ho0, hb⟩
                              refine ⟨_, rfl, ?_⟩
                              have n0_ := Aside0.mk (Kd.R_elder' (rs HO_750000) (Kd.R_base ho0) hb)
                              have n1_ := Aside0.mk (Kd.R_elder' (rs HO_754000) (Kd.R_base ho0) hb)
                              have n2_ := Aside0.mk (Kd.R_elder' (rs HO_761000) (Kd.R_base ho0) hb)
                              have n3_ := Aside0.mk (Kd.R_elder' (rs HO774) (Kd.R_base ho0) hb)
                              have n4_ := Aside0.mk (Kd.R_lower (Kd.R_new' (Kd.R_new' (Kd.R_new' (Kd.R_new' ho0 (Kd.R_lt (rs HO_750000))) (Kd.R_lt (rs HO_754000))) (Kd.R_lt (rs HO_761000))) (Kd.R_lt (rs HO774))) (below_size (bl HB)))
                              have n5_ := bkB BK737 hb
                              have n6_ := bkB BK738 hb
                              have n7_ := bkB BK749 hb
                              have n8_ := bkB BK753 hb
                              have n9_ := bkB BK760 hb
                              have n10_ := bkB BK781 hb
                              have n11_ := Aside0.mk (below_step (bl HB) hb)
                              clear HO_750000
                              clear HO_754000
                              clear HO_761000
                              clear HO774
                              clear BK737
                              clear BK738
                              clear BK749
                              clear BK753
                              clear BK760
                              clear BK781
                              clear HB
                              have HO_750000 := n0_
                              have HO_754000 := n1_
                              have HO_761000 := n2_
                              have HO774 := n3_
                              have HO779 := n4_
                              have BK737 := n5_
                              have BK738 := n6_
                              have BK749 := n7_
                              have BK753 := n8_
                              have BK760 := n9_
                              have BK781 := n10_
                              have HB := n11_
                              clear n0_ n1_ n2_ n3_ n4_ n5_ n6_ n7_ n8_ n9_ n10_ n11_
                              (try clear hb)
                              (try clear hb2)
                              (try clear hk)
                              (try clear hi)
                              (try clear ho0)
                              refine hK.out _ _ ⟨(blk_cell BK737.out 0).trans rfl, (blk_cell BK738.out 0).trans rfl, (blk_cell BK738.out 1).trans rfl⟩ (fun hHeld => ?_)
                              clear hK K
                              refine norm_ (a' := ?_) ?_ ?_
                              rotate_left
                              · show Act.put _ (some 84) _ = _
                                simp only [Act.put, List.setIfInBounds_toArray, List.set_cons_zero, List.set_cons_succ, i64_w, i32_w]
                                rfl
                              refine pure_ (i := 5) (N := some 79) (v := ?_) (a' := ?_) #[true, true, true, true, true, true, false, false, true, false, false] rfl rfl (any_of HT_.out (by kernel_rfl)) (fun _ _ _ h => h) (Or.inl ⟨by rfl, ?_⟩) ?_ ?_
                              rotate_left
                              · intro w'
                                go_simp
                                with_reducible rfl
                              rotate_left
                              · simp only [Act.put, List.setIfInBounds_toArray, List.set_cons_zero, List.set_cons_succ, i64_w, i32_w]
                                rfl
                              refine pure_ (i := 6) (N := some 85) (v := ?_) (a' := ?_) #[true, true, true, true, true, true, true, false, true, false, false] rfl rfl (any_of HT_.out (by kernel_rfl)) (fun _ _ _ h => h) (Or.inl ⟨by rfl, ?_⟩) ?_ ?_
                              rotate_left
                              · intro w'
                                go_simp
                                with_reducible rfl
                              rotate_left
                              · simp only [Act.put, List.setIfInBounds_toArray, List.set_cons_zero, List.set_cons_succ, i64_w, i32_w]
                                rfl
                              refine pure_ (i := 7) (N := some 86) (v := ?_) (a' := ?_) #[true, true, true, true, true, true, true, true, true, false, false] rfl rfl (any_of HT_.out (by kernel_rfl)) (fun _ _ _ h => h) (Or.inl ⟨by rfl, ?_⟩) ?_ ?_
                              rotate_left
                              · intro w'
                                go_simp
                                with_reducible rfl
                              rotate_left
                              · simp only [Act.put, List.setIfInBounds_toArray, List.set_cons_zero, List.set_cons_succ, i64_w, i32_w]
                                rfl
                              exact norm_ (by simp only [putAll, Act.put, List.setIfInBounds_toArray, List.set_cons_zero, List.set_cons_succ]) (hCont (.slice Ao130 t772.length co130, v778, gb781) _ ⟨hHeld, (by (with_reducible repeat apply ru); exact Kd.R_mono HO774.out (fun _ hk => ⟨hk.2, ⟨hk.1.1.1.2, ⟨hk.1.1.2, hk.1.2⟩⟩⟩)), (by (with_reducible repeat apply ru); exact Kd.R_mono HO779.out (fun _ hk => ⟨hk.2, ⟨hk.1.1.1.2, ⟨hk.1.1.2, hk.1.2⟩⟩⟩)), (by (with_reducible repeat apply ru); exact Kd.R_mono HO_750000.out (fun _ hk => ⟨hk.1.2, ⟨hk.2, ⟨hk.1.1.1, hk.1.1.2⟩⟩⟩)), (by (with_reducible repeat apply ru); exact Kd.R_mono HO_754000.out (fun _ hk => ⟨hk.1.2, ⟨hk.2, ⟨hk.1.1.1, hk.1.1.2⟩⟩⟩)), (by (with_reducible repeat apply ru); exact Kd.R_mono HO_761000.out (fun _ hk => ⟨hk.1.2, ⟨hk.2, ⟨hk.1.1.1, hk.1.1.2⟩⟩⟩)), (bk BK737), (bk BK738), (bk BK749), (bk BK753), (bk BK760), (bk BK781), GW781.out, GE781.out, NB737_781.out, NB781_737.out, NB738_781.out, NB781_738.out, NB749_781.out, NB781_749.out, NB753_781.out, NB781_753.out, NB760_781.out, NB781_760.out, (bl HB)⟩)
                          · skip
                            refine box_step ?hg (N := 14) ?hd (cs := #[.slice none 0 0]) (t := 45) ?hr ?_; (case hd => rfl); (case hg => rfl); (case hr => first | (go_simp; done) | (go_simp; rfl))
                            intro gb781 hg w128 hbox hb
                            have n0_ := Aside0.mk (Kd.R_below (rs HO_750000) hb)
                            have n1_ := Aside0.mk (Kd.R_below (rs HO_754000) hb)
                            have n2_ := Aside0.mk (Kd.R_below (rs HO_761000) hb)
                            have n3_ := Aside0.mk (Kd.R_below (rs HO774) hb)
                            have n4_ := bkB BK737 hb
                            have n5_ := bkB BK738 hb
                            have n6_ := bkB BK749 hb
                            have n7_ := bkB BK753 hb
                            have n8_ := bkB BK760 hb
                            have n9_ := Aside0.mk (below_step (bl HB) hb)
                            have n10_ := Aside0.mk (hbox)
                            have n11_ := Aside0.mk ((by rw [hg]; exact (below_size (bl HB)) : w.heap.size ≤ gb781))
                            have n12_ := Aside0.mk ((by rw [hg]; exact (below_size (bl HB)) : w.heap.size ≤ gb781))
                            have n13_ := Aside0.mk ((by rw [hg]; exact Nat.ne_of_lt (bkL BK737) : gb737 ≠ gb781))
                            have n14_ := Aside0.mk ((by rw [hg]; exact Nat.ne_of_gt (bkL BK737) : gb781 ≠ gb737))
                            have n15_ := Aside0.mk ((by rw [hg]; exact Nat.ne_of_lt (bkL BK738) : gb738 ≠ gb781))
                            have n16_ := Aside0.mk ((by rw [hg]; exact Nat.ne_of_gt (bkL BK738) : gb781 ≠ gb738))
                            have n17_ := Aside0.mk ((by rw [hg]; exact Nat.ne_of_lt (bkL BK749) : gb749 ≠ gb781))
                            have n18_ := Aside0.mk ((by rw [hg]; exact Nat.ne_of_gt (bkL BK749) : gb781 ≠ gb749))
                            have n19_ := Aside0.mk ((by rw [hg]; exact Nat.ne_of_lt (bkL BK753) : gb753 ≠ gb781))
                            have n20_ := Aside0.mk ((by rw [hg]; exact Nat.ne_of_gt (bkL BK753) : gb781 ≠ gb753))
                            have n21_ := Aside0.mk ((by rw [hg]; exact Nat.ne_of_lt (bkL BK760) : gb760 ≠ gb781))
                            have n22_ := Aside0.mk ((by rw [hg]; exact Nat.ne_of_gt (bkL BK760) : gb781 ≠ gb760))
                            clear HO_750000
                            clear HO_754000
                            clear HO_761000
                            clear HO774
                            clear BK737
                            clear BK738
                            clear BK749
                            clear BK753
                            clear BK760
                            clear HB
                            have HO_750000 := n0_
                            have HO_754000 := n1_
                            have HO_761000 := n2_
                            have HO774 := n3_
                            have BK737 := n4_
                            have BK738 := n5_
                            have BK749 := n6_
                            have BK753 := n7_
                            have BK760 := n8_
                            have HB := n9_
                            have BK781 := n10_
                            have GW781 := n11_
                            have GE781 := n12_
                            have NB737_781 := n13_
                            have NB781_737 := n14_
                            have NB738_781 := n15_
                            have NB781_738 := n16_
                            have NB749_781 := n17_
                            have NB781_749 := n18_
                            have NB753_781 := n19_
                            have NB781_753 := n20_
                            have NB760_781 := n21_
                            have NB781_760 := n22_
                            clear n0_ n1_ n2_ n3_ n4_ n5_ n6_ n7_ n8_ n9_ n10_ n11_ n12_ n13_ n14_ n15_ n16_ n17_ n18_ n19_ n20_ n21_ n22_
                            clear hb hbox hg
                            refine hK.out _ _ ⟨(blk_cell BK737.out 0).trans rfl, (blk_cell BK738.out 0).trans rfl, (blk_cell BK738.out 1).trans rfl⟩ (fun hHeld => ?_)
                            clear hK K
                            refine norm_ (a' := ?_) ?_ ?_
                            rotate_left
                            · show Act.put _ (some 14) _ = _
                              simp only [Act.put, List.setIfInBounds_toArray, List.set_cons_zero, List.set_cons_succ, i64_w, i32_w]
                              rfl
                            refine one_ (i := 3) (N := some 83) #[true, true, true, true, false, false, false, false, true, false, false] rfl rfl (one_of HT_.out (by kernel_rfl)) (by decide) (fun K hK => ?_)
                            refine goes_ Try.func19 (by kernel_rfl) rfl #[.agg #[.int .i64 a1_0, .int .i64 a1_1]] (by rfl) rfl rfl (by (try simp only [List.map_toArray, List.map_cons, List.map_nil]); first | done | rfl | (simp only [List.length_drop, List.length_take]; rfl)) ?_
                            with_reducible refine (laws_toEndPoint.calls a1_0 a1_1 t775 t776 _ A115.out).mono ?_
                            rintro e w129 ⟨rfl, hb⟩
                            refine ⟨_, rfl, ?_⟩
                            have n0_ := Aside0.mk (Kd.R_below (rs HO_750000) hb)
                            have n1_ := Aside0.mk (Kd.R_below (rs HO_754000) hb)
                            have n2_ := Aside0.mk (Kd.R_below (rs HO_761000) hb)
                            have n3_ := Aside0.mk (Kd.R_below (rs HO774) hb)
                            have n4_ := bkB BK737 hb
                            have n5_ := bkB BK738 hb
                            have n6_ := bkB BK749 hb
                            have n7_ := bkB BK753 hb
                            have n8_ := bkB BK760 hb
                            have n9_ := bkB BK781 hb
                            have n10_ := Aside0.mk (below_step (bl HB) hb)
                            clear HO_750000
                            clear HO_754000
                            clear HO_761000
                            clear HO774
                            clear BK737
                            clear BK738
                            clear BK749
                            clear BK753
                            clear BK760
                            clear BK781
                            clear HB
                            have HO_750000 := n0_
                            have HO_754000 := n1_
                            have HO_761000 := n2_
                            have HO774 := n3_
                            have BK737 := n4_
                            have BK738 := n5_
                            have BK749 := n6_
                            have BK753 := n7_
                            have BK760 := n8_
                            have BK781 := n9_
                            have HB := n10_
                            clear n0_ n1_ n2_ n3_ n4_ n5_ n6_ n7_ n8_ n9_ n10_
                            (try clear hb)
                            (try clear hb2)
                            (try clear hk)
                            (try clear hi)
                            obtain ⟨Ao130, co130, eo130⟩ := Kd.R_slice HO774.out
                            (first | subst eo130 | (injection eo130 with f1_ f2_ f3_; have f4_ := f1_.symm; have f5_ := f3_.symm; clear f1_ f2_ f3_; subst f4_; subst f5_))
                            refine hK.out _ _ ⟨(blk_cell BK737.out 0).trans rfl, (blk_cell BK738.out 0).trans rfl, (blk_cell BK738.out 1).trans rfl⟩ (fun hHeld => ?_)
                            clear hK K
                            refine norm_ (a' := ?_) ?_ ?_
                            rotate_left
                            · show Act.put _ (some 83) _ = _
                              simp only [Act.put, List.setIfInBounds_toArray, List.set_cons_zero, List.set_cons_succ, i64_w, i32_w]
                              rfl
                            refine one_ (i := 4) (N := some 84) #[true, true, true, true, true, false, false, false, true, false, false] rfl rfl (one_of HT_.out (by kernel_rfl)) (by decide) (fun K hK => ?_)
                            refine goes_ Try.func26 (by kernel_rfl) rfl #[.agg #[.slice Ao130 t772.length co130], .agg #[.int .i64 t775, .int .i64 t776]] (by rfl) rfl rfl (by (try simp only [List.map_toArray, List.map_cons, List.map_nil]); first | done | rfl | (simp only [List.length_drop, List.length_take]; rfl)) ?_
                            with_reducible refine (impl_MapPut.calls kj74 _ _ t772 t775 t776 t777 t780 _ ?side1 ?side2 A116.out).mono ?_
                            (case side1 => repeat (first | exact (Kd.R_reads' HO774.out).2.2 | (with_reducible refine Kd.C_alloc ?_ _) | (with_reducible refine Kd.C_drewN ?_ _) | (with_reducible refine Kd.C_drew ?_)))
                            (case side2 => exact (Kd.R_reads' HO774.out).2.1)
                            rintro e w131 ⟨v778, rfl, ho0, hb⟩
                            refine ⟨_, rfl, ?_⟩
                            have n0_ := Aside0.mk (Kd.R_elder' (rs HO_750000) (Kd.R_base ho0) hb)
                            have n1_ := Aside0.mk (Kd.R_elder' (rs HO_754000) (Kd.R_base ho0) hb)
                            have n2_ := Aside0.mk (Kd.R_elder' (rs HO_761000) (Kd.R_base ho0) hb)
                            have n3_ := Aside0.mk (Kd.R_elder' (rs HO774) (Kd.R_base ho0) hb)
                            have n4_ := Aside0.mk (Kd.R_lower (Kd.R_new' (Kd.R_new' (Kd.R_new' (Kd.R_new' ho0 (Kd.R_lt (rs HO_750000))) (Kd.R_lt (rs HO_754000))) (Kd.R_lt (rs HO_761000))) (Kd.R_lt (rs HO774))) (below_size (bl HB)))
                            have n5_ := bkB BK737 hb
                            have n6_ := bkB BK738 hb
                            have n7_ := bkB BK749 hb
                            have n8_ := bkB BK753 hb
                            have n9_ := bkB BK760 hb
                            have n10_ := bkB BK781 hb
                            have n11_ := Aside0.mk (below_step (bl HB) hb)
                            clear HO_750000
                            clear HO_754000
                            clear HO_761000
                            clear HO774
                            clear BK737
                            clear BK738
                            clear BK749
                            clear BK753
                            clear BK760
                            clear BK781
                            clear HB
                            have HO_750000 := n0_
                            have HO_754000 := n1_
                            have HO_761000 := n2_
                            have HO774 := n3_
                            have HO779 := n4_
                            have BK737 := n5_
                            have BK738 := n6_
                            have BK749 := n7_
                            have BK753 := n8_
                            have BK760 := n9_
                            have BK781 := n10_
                            have HB := n11_
                            clear n0_ n1_ n2_ n3_ n4_ n5_ n6_ n7_ n8_ n9_ n10_ n11_
                            (try clear hb)
                            (try clear hb2)
                            (try clear hk)
                            (try clear hi)
                            (try clear ho0)
                            refine hK.out _ _ ⟨(blk_cell BK737.out 0).trans rfl, (blk_cell BK738.out 0).trans rfl, (blk_cell BK738.out 1).trans rfl⟩ (fun hHeld => ?_)
                            clear hK K
                            refine norm_ (a' := ?_) ?_ ?_
                            rotate_left
                            · show Act.put _ (some 84) _ = _
                              simp only [Act.put, List.setIfInBounds_toArray, List.set_cons_zero, List.set_cons_succ, i64_w, i32_w]
                              rfl
                            refine pure_ (i := 5) (N := some 79) (v := ?_) (a' := ?_) #[true, true, true, true, true, true, false, false, true, false, false] rfl rfl (any_of HT_.out (by kernel_rfl)) (fun _ _ _ h => h) (Or.inl ⟨by rfl, ?_⟩) ?_ ?_
                            rotate_left
                            · intro w'
                              go_simp
                              with_reducible rfl
                            rotate_left
                            · simp only [Act.put, List.setIfInBounds_toArray, List.set_cons_zero, List.set_cons_succ, i64_w, i32_w]
                              rfl
                            refine pure_ (i := 6) (N := some 85) (v := ?_) (a' := ?_) #[true, true, true, true, true, true, true, false, true, false, false] rfl rfl (any_of HT_.out (by kernel_rfl)) (fun _ _ _ h => h) (Or.inl ⟨by rfl, ?_⟩) ?_ ?_
                            rotate_left
                            · intro w'
                              go_simp
                              with_reducible rfl
                            rotate_left
                            · simp only [Act.put, List.setIfInBounds_toArray, List.set_cons_zero, List.set_cons_succ, i64_w, i32_w]
                              rfl
                            refine pure_ (i := 7) (N := some 86) (v := ?_) (a' := ?_) #[true, true, true, true, true, true, true, true, true, false, false] rfl rfl (any_of HT_.out (by kernel_rfl)) (fun _ _ _ h => h) (Or.inl ⟨by rfl, ?_⟩) ?_ ?_
                            rotate_left
                            · intro w'
                              go_simp
                              with_reducible rfl
                            rotate_left
                            · simp only [Act.put, List.setIfInBounds_toArray, List.set_cons_zero, List.set_cons_succ, i64_w, i32_w]
                              rfl
                            exact norm_ (by simp only [putAll, Act.put, List.setIfInBounds_toArray, List.set_cons_zero, List.set_cons_succ]) (hCont (.slice Ao130 t772.length co130, v778, gb781) _ ⟨hHeld, (by (with_reducible repeat apply ru); exact Kd.R_mono HO774.out (fun _ hk => ⟨hk.2, ⟨hk.1.1.1.2, ⟨hk.1.1.2, hk.1.2⟩⟩⟩)), (by (with_reducible repeat apply ru); exact Kd.R_mono HO779.out (fun _ hk => ⟨hk.2, ⟨hk.1.1.1.2, ⟨hk.1.1.2, hk.1.2⟩⟩⟩)), (by (with_reducible repeat apply ru); exact Kd.R_mono HO_750000.out (fun _ hk => ⟨hk.1.2, ⟨hk.2, ⟨hk.1.1.1, hk.1.1.2⟩⟩⟩)), (by (with_reducible repeat apply ru); exact Kd.R_mono HO_754000.out (fun _ hk => ⟨hk.1.2, ⟨hk.2, ⟨hk.1.1.1, hk.1.1.2⟩⟩⟩)), (by (with_reducible repeat apply ru); exact Kd.R_mono HO_761000.out (fun _ hk => ⟨hk.1.2, ⟨hk.2, ⟨hk.1.1.1, hk.1.1.2⟩⟩⟩)), (bk BK737), (bk BK738), (bk BK749), (bk BK753), (bk BK760), (bk BK781), GW781.out, GE781.out, NB737_781.out, NB781_737.out, NB738_781.out, NB781_738.out, NB749_781.out, NB781_749.out, NB753_781.out, NB781_753.out, NB760_781.out, NB781_760.out, (bl HB)⟩)
                        · skip
                          refine box_step ?hg (N := 14) ?hd (cs := #[.slice none 0 0]) (t := 45) ?hr ?_; (case hd => rfl); (case hg => rfl); (case hr => first | (go_simp; done) | (go_simp; rfl))
                          intro gb781 hg w127 hbox hb
                          have n0_ := Aside0.mk (Kd.R_below (rs HO_750000) hb)
                          have n1_ := Aside0.mk (Kd.R_below (rs HO_754000) hb)
                          have n2_ := Aside0.mk (Kd.R_below (rs HO_761000) hb)
                          have n3_ := bkB BK737 hb
                          have n4_ := bkB BK738 hb
                          have n5_ := bkB BK749 hb
                          have n6_ := bkB BK753 hb
                          have n7_ := bkB BK760 hb
                          have n8_ := Aside0.mk (below_step (bl HB) hb)
                          have n9_ := Aside0.mk (hbox)
                          have n10_ := Aside0.mk ((by rw [hg]; exact (below_size (bl HB)) : w.heap.size ≤ gb781))
                          have n11_ := Aside0.mk ((by rw [hg]; exact (below_size (bl HB)) : w.heap.size ≤ gb781))
                          have n12_ := Aside0.mk ((by rw [hg]; exact Nat.ne_of_lt (bkL BK737) : gb737 ≠ gb781))
                          have n13_ := Aside0.mk ((by rw [hg]; exact Nat.ne_of_gt (bkL BK737) : gb781 ≠ gb737))
                          have n14_ := Aside0.mk ((by rw [hg]; exact Nat.ne_of_lt (bkL BK738) : gb738 ≠ gb781))
                          have n15_ := Aside0.mk ((by rw [hg]; exact Nat.ne_of_gt (bkL BK738) : gb781 ≠ gb738))
                          have n16_ := Aside0.mk ((by rw [hg]; exact Nat.ne_of_lt (bkL BK749) : gb749 ≠ gb781))
                          have n17_ := Aside0.mk ((by rw [hg]; exact Nat.ne_of_gt (bkL BK749) : gb781 ≠ gb749))
                          have n18_ := Aside0.mk ((by rw [hg]; exact Nat.ne_of_lt (bkL BK753) : gb753 ≠ gb781))
                          have n19_ := Aside0.mk ((by rw [hg]; exact Nat.ne_of_gt (bkL BK753) : gb781 ≠ gb753))
                          have n20_ := Aside0.mk ((by rw [hg]; exact Nat.ne_of_lt (bkL BK760) : gb760 ≠ gb781))
                          have n21_ := Aside0.mk ((by rw [hg]; exact Nat.ne_of_gt (bkL BK760) : gb781 ≠ gb760))
                          clear HO_750000
                          clear HO_754000
                          clear HO_761000
                          clear BK737
                          clear BK738
                          clear BK749
                          clear BK753
                          clear BK760
                          clear HB
                          have HO_750000 := n0_
                          have HO_754000 := n1_
                          have HO_761000 := n2_
                          have BK737 := n3_
                          have BK738 := n4_
                          have BK749 := n5_
                          have BK753 := n6_
                          have BK760 := n7_
                          have HB := n8_
                          have BK781 := n9_
                          have GW781 := n10_
                          have GE781 := n11_
                          have NB737_781 := n12_
                          have NB781_737 := n13_
                          have NB738_781 := n14_
                          have NB781_738 := n15_
                          have NB749_781 := n16_
                          have NB781_749 := n17_
                          have NB753_781 := n18_
                          have NB781_753 := n19_
                          have NB760_781 := n20_
                          have NB781_760 := n21_
                          clear n0_ n1_ n2_ n3_ n4_ n5_ n6_ n7_ n8_ n9_ n10_ n11_ n12_ n13_ n14_ n15_ n16_ n17_ n18_ n19_ n20_ n21_
                          clear hb hbox hg
                          refine hK.out _ _ ⟨(blk_cell BK737.out 0).trans rfl, (blk_cell BK738.out 0).trans rfl, (blk_cell BK738.out 1).trans rfl⟩ (fun hHeld => ?_)
                          clear hK K
                          refine norm_ (a' := ?_) ?_ ?_
                          rotate_left
                          · show Act.put _ (some 14) _ = _
                            simp only [Act.put, List.setIfInBounds_toArray, List.set_cons_zero, List.set_cons_succ, i64_w, i32_w]
                            rfl
                          refine one_ (i := 1) (N := some 81) #[true, true, true, false, false, false, false, false, true, false, false] rfl rfl (one_of HT_.out (by kernel_rfl)) (by decide) (fun K hK => ?_)
                          refine goes_ Try.func30 (by kernel_rfl) rfl #[.agg #[.slice A0_0 l0_0.length c0_0]] (by rfl) rfl rfl (by (try simp only [List.map_toArray, List.map_cons, List.map_nil]); first | done | rfl | (simp only [List.length_drop, List.length_take]; rfl)) ?_
                          with_reducible refine (laws_toMapTab.calls kj74 _ _ l0_0 t772 _ ?side1 ?side2 A114.out).mono ?_
                          (case side1 => repeat (first | exact (Kd.C_below HR0_0.out HB.out) | (with_reducible refine Kd.C_alloc ?_ _) | (with_reducible refine Kd.C_drewN ?_ _) | (with_reducible refine Kd.C_drew ?_)))
                          (case side2 => exact HC0_0.out)
                          rintro e w128 ⟨v773, rfl, ho0, hb⟩
                          refine ⟨_, rfl, ?_⟩
                          have n0_ := Aside0.mk (Kd.R_elder' (rs HO_750000) (Kd.R_base ho0) hb)
                          have n1_ := Aside0.mk (Kd.R_elder' (rs HO_754000) (Kd.R_base ho0) hb)
                          have n2_ := Aside0.mk (Kd.R_elder' (rs HO_761000) (Kd.R_base ho0) hb)
                          have n3_ := Aside0.mk (Kd.R_lower (Kd.R_new' (Kd.R_new' (Kd.R_new' ho0 (Kd.R_lt (rs HO_750000))) (Kd.R_lt (rs HO_754000))) (Kd.R_lt (rs HO_761000))) (below_size (bl HB)))
                          have n4_ := bkB BK737 hb
                          have n5_ := bkB BK738 hb
                          have n6_ := bkB BK749 hb
                          have n7_ := bkB BK753 hb
                          have n8_ := bkB BK760 hb
                          have n9_ := bkB BK781 hb
                          have n10_ := Aside0.mk (below_step (bl HB) hb)
                          clear HO_750000
                          clear HO_754000
                          clear HO_761000
                          clear BK737
                          clear BK738
                          clear BK749
                          clear BK753
                          clear BK760
                          clear BK781
                          clear HB
                          have HO_750000 := n0_
                          have HO_754000 := n1_
                          have HO_761000 := n2_
                          have HO774 := n3_
                          have BK737 := n4_
                          have BK738 := n5_
                          have BK749 := n6_
                          have BK753 := n7_
                          have BK760 := n8_
                          have BK781 := n9_
                          have HB := n10_
                          clear n0_ n1_ n2_ n3_ n4_ n5_ n6_ n7_ n8_ n9_ n10_
                          (try clear hb)
                          (try clear hb2)
                          (try clear hk)
                          (try clear hi)
                          (try clear ho0)
                          refine hK.out _ _ ⟨(blk_cell BK737.out 0).trans rfl, (blk_cell BK738.out 0).trans rfl, (blk_cell BK738.out 1).trans rfl⟩ (fun hHeld => ?_)
                          clear hK K
                          refine norm_ (a' := ?_) ?_ ?_
                          rotate_left
                          · show Act.put _ (some 81) _ = _
                            simp only [Act.put, List.setIfInBounds_toArray, List.set_cons_zero, List.set_cons_succ, i64_w, i32_w]
                            rfl
                          refine one_ (i := 3) (N := some 83) #[true, true, true, true, false, false, false, false, true, false, false] rfl rfl (one_of HT_.out (by kernel_rfl)) (by decide) (fun K hK => ?_)
                          refine goes_ Try.func19 (by kernel_rfl) rfl #[.agg #[.int .i64 a1_0, .int .i64 a1_1]] (by rfl) rfl rfl (by (try simp only [List.map_toArray, List.map_cons, List.map_nil]); first | done | rfl | (simp only [List.length_drop, List.length_take]; rfl)) ?_
                          with_reducible refine (laws_toEndPoint.calls a1_0 a1_1 t775 t776 _ A115.out).mono ?_
                          rintro e w129 ⟨rfl, hb⟩
                          refine ⟨_, rfl, ?_⟩
                          have n0_ := Aside0.mk (Kd.R_below (rs HO_750000) hb)
                          have n1_ := Aside0.mk (Kd.R_below (rs HO_754000) hb)
                          have n2_ := Aside0.mk (Kd.R_below (rs HO_761000) hb)
                          have n3_ := Aside0.mk (Kd.R_below (rs HO774) hb)
                          have n4_ := bkB BK737 hb
                          have n5_ := bkB BK738 hb
                          have n6_ := bkB BK749 hb
                          have n7_ := bkB BK753 hb
                          have n8_ := bkB BK760 hb
                          have n9_ := bkB BK781 hb
                          have n10_ := Aside0.mk (below_step (bl HB) hb)
                          clear HO_750000
                          clear HO_754000
                          clear HO_761000
                          clear HO774
                          clear BK737
                          clear BK738
                          clear BK749
                          clear BK753
                          clear BK760
                          clear BK781
                          clear HB
                          have HO_750000 := n0_
                          have HO_754000 := n1_
                          have HO_761000 := n2_
                          have HO774 := n3_
                          have BK737 := n4_
                          have BK738 := n5_
                          have BK749 := n6_
                          have BK753 := n7_
                          have BK760 := n8_
                          have BK781 := n9_
                          have HB := n10_
                          clear n0_ n1_ n2_ n3_ n4_ n5_ n6_ n7_ n8_ n9_ n10_
                          (try clear hb)
                          (try clear hb2)
                          (try clear hk)
                          (try clear hi)
                          obtain ⟨Ao130, co130, eo130⟩ := Kd.R_slice HO774.out
                          (first | subst eo130 | (injection eo130 with f1_ f2_ f3_; have f4_ := f1_.symm; have f5_ := f3_.symm; clear f1_ f2_ f3_; subst f4_; subst f5_))
                          refine hK.out _ _ ⟨(blk_cell BK737.out 0).trans rfl, (blk_cell BK738.out 0).trans rfl, (blk_cell BK738.out 1).trans rfl⟩ (fun hHeld => ?_)
                          clear hK K
                          refine norm_ (a' := ?_) ?_ ?_
                          rotate_left
                          · show Act.put _ (some 83) _ = _
                            simp only [Act.put, List.setIfInBounds_toArray, List.set_cons_zero, List.set_cons_succ, i64_w, i32_w]
                            rfl
                          refine one_ (i := 4) (N := some 84) #[true, true, true, true, true, false, false, false, true, false, false] rfl rfl (one_of HT_.out (by kernel_rfl)) (by decide) (fun K hK => ?_)
                          refine goes_ Try.func26 (by kernel_rfl) rfl #[.agg #[.slice Ao130 t772.length co130], .agg #[.int .i64 t775, .int .i64 t776]] (by rfl) rfl rfl (by (try simp only [List.map_toArray, List.map_cons, List.map_nil]); first | done | rfl | (simp only [List.length_drop, List.length_take]; rfl)) ?_
                          with_reducible refine (impl_MapPut.calls kj74 _ _ t772 t775 t776 t777 t780 _ ?side1 ?side2 A116.out).mono ?_
                          (case side1 => repeat (first | exact (Kd.R_reads' HO774.out).2.2 | (with_reducible refine Kd.C_alloc ?_ _) | (with_reducible refine Kd.C_drewN ?_ _) | (with_reducible refine Kd.C_drew ?_)))
                          (case side2 => exact (Kd.R_reads' HO774.out).2.1)
                          rintro e w131 ⟨v778, rfl, ho0, hb⟩
                          refine ⟨_, rfl, ?_⟩
                          have n0_ := Aside0.mk (Kd.R_elder' (rs HO_750000) (Kd.R_base ho0) hb)
                          have n1_ := Aside0.mk (Kd.R_elder' (rs HO_754000) (Kd.R_base ho0) hb)
                          have n2_ := Aside0.mk (Kd.R_elder' (rs HO_761000) (Kd.R_base ho0) hb)
                          have n3_ := Aside0.mk (Kd.R_elder' (rs HO774) (Kd.R_base ho0) hb)
                          have n4_ := Aside0.mk (Kd.R_lower (Kd.R_new' (Kd.R_new' (Kd.R_new' (Kd.R_new' ho0 (Kd.R_lt (rs HO_750000))) (Kd.R_lt (rs HO_754000))) (Kd.R_lt (rs HO_761000))) (Kd.R_lt (rs HO774))) (below_size (bl HB)))
                          have n5_ := bkB BK737 hb
                          have n6_ := bkB BK738 hb
                          have n7_ := bkB BK749 hb
                          have n8_ := bkB BK753 hb
                          have n9_ := bkB BK760 hb
                          have n10_ := bkB BK781 hb
                          have n11_ := Aside0.mk (below_step (bl HB) hb)
                          clear HO_750000
                          clear HO_754000
                          clear HO_761000
                          clear HO774
                          clear BK737
                          clear BK738
                          clear BK749
                          clear BK753
                          clear BK760
                          clear BK781
                          clear HB
                          have HO_750000 := n0_
                          have HO_754000 := n1_
                          have HO_761000 := n2_
                          have HO774 := n3_
                          have HO779 := n4_
                          have BK737 := n5_
                          have BK738 := n6_
                          have BK749 := n7_
                          have BK753 := n8_
                          have BK760 := n9_
                          have BK781 := n10_
                          have HB := n11_
                          clear n0_ n1_ n2_ n3_ n4_ n5_ n6_ n7_ n8_ n9_ n10_ n11_
                          (try clear hb)
                          (try clear hb2)
                          (try clear hk)
                          (try clear hi)
                          (try clear ho0)
                          refine hK.out _ _ ⟨(blk_cell BK737.out 0).trans rfl, (blk_cell BK738.out 0).trans rfl, (blk_cell BK738.out 1).trans rfl⟩ (fun hHeld => ?_)
                          clear hK K
                          refine norm_ (a' := ?_) ?_ ?_
                          rotate_left
                          · show Act.put _ (some 84) _ = _
                            simp only [Act.put, List.setIfInBounds_toArray, List.set_cons_zero, List.set_cons_succ, i64_w, i32_w]
                            rfl
                          refine pure_ (i := 5) (N := some 79) (v := ?_) (a' := ?_) #[true, true, true, true, true, true, false, false, true, false, false] rfl rfl (any_of HT_.out (by kernel_rfl)) (fun _ _ _ h => h) (Or.inl ⟨by rfl, ?_⟩) ?_ ?_
                          rotate_left
                          · intro w'
                            go_simp
                            with_reducible rfl
                          rotate_left
                          · simp only [Act.put, List.setIfInBounds_toArray, List.set_cons_zero, List.set_cons_succ, i64_w, i32_w]
                            rfl
                          refine pure_ (i := 6) (N := some 85) (v := ?_) (a' := ?_) #[true, true, true, true, true, true, true, false, true, false, false] rfl rfl (any_of HT_.out (by kernel_rfl)) (fun _ _ _ h => h) (Or.inl ⟨by rfl, ?_⟩) ?_ ?_
                          rotate_left
                          · intro w'
                            go_simp
                            with_reducible rfl
                          rotate_left
                          · simp only [Act.put, List.setIfInBounds_toArray, List.set_cons_zero, List.set_cons_succ, i64_w, i32_w]
                            rfl
                          refine pure_ (i := 7) (N := some 86) (v := ?_) (a' := ?_) #[true, true, true, true, true, true, true, true, true, false, false] rfl rfl (any_of HT_.out (by kernel_rfl)) (fun _ _ _ h => h) (Or.inl ⟨by rfl, ?_⟩) ?_ ?_
                          rotate_left
                          · intro w'
                            go_simp
                            with_reducible rfl
                          rotate_left
                          · simp only [Act.put, List.setIfInBounds_toArray, List.set_cons_zero, List.set_cons_succ, i64_w, i32_w]
                            rfl
                          exact norm_ (by simp only [putAll, Act.put, List.setIfInBounds_toArray, List.set_cons_zero, List.set_cons_succ]) (hCont (.slice Ao130 t772.length co130, v778, gb781) _ ⟨hHeld, (by (with_reducible repeat apply ru); exact Kd.R_mono HO774.out (fun _ hk => ⟨hk.2, ⟨hk.1.1.1.2, ⟨hk.1.1.2, hk.1.2⟩⟩⟩)), (by (with_reducible repeat apply ru); exact Kd.R_mono HO779.out (fun _ hk => ⟨hk.2, ⟨hk.1.1.1.2, ⟨hk.1.1.2, hk.1.2⟩⟩⟩)), (by (with_reducible repeat apply ru); exact Kd.R_mono HO_750000.out (fun _ hk => ⟨hk.1.2, ⟨hk.2, ⟨hk.1.1.1, hk.1.1.2⟩⟩⟩)), (by (with_reducible repeat apply ru); exact Kd.R_mono HO_754000.out (fun _ hk => ⟨hk.1.2, ⟨hk.2, ⟨hk.1.1.1, hk.1.1.2⟩⟩⟩)), (by (with_reducible repeat apply ru); exact Kd.R_mono HO_761000.out (fun _ hk => ⟨hk.1.2, ⟨hk.2, ⟨hk.1.1.1, hk.1.1.2⟩⟩⟩)), (bk BK737), (bk BK738), (bk BK749), (bk BK753), (bk BK760), (bk BK781), GW781.out, GE781.out, NB737_781.out, NB781_737.out, NB738_781.out, NB781_738.out, NB749_781.out, NB781_749.out, NB753_781.out, NB781_753.out, NB760_781.out, NB781_760.out, (bl HB)⟩)
                      rintro ⟨v773, v778, gb781⟩ w132 ⟨hS_, h0_, h1_, h2_, h3_, h4_, h5_, h6_, h7_, h8_, h9_, h10_, h11_, h12_, h13_, h14_, h15_, h16_, h17_, h18_, h19_, h20_, h21_, h22_, h23_⟩
                      have n0_ : Aside0 (Kd.R k29 29 w132 w.heap.size (fun k_ => some k_ ≠ (v778 : Value).ownBlock ∧ some k_ ≠ (.slice Ao29 t745.length co29 : Value).ownBlock ∧ some k_ ≠ (.slice Ao35 t767.length co35 : Value).ownBlock ∧ some k_ ≠ (.slice Ao46 t756.length co46 : Value).ownBlock) v773 t772) := ⟨h0_⟩
                      have n1_ : Aside0 (Kd.R k29 29 w132 w.heap.size (fun k_ => some k_ ≠ (v773 : Value).ownBlock ∧ some k_ ≠ (.slice Ao29 t745.length co29 : Value).ownBlock ∧ some k_ ≠ (.slice Ao35 t767.length co35 : Value).ownBlock ∧ some k_ ≠ (.slice Ao46 t756.length co46 : Value).ownBlock) v778 t777) := ⟨h1_⟩
                      have n2_ : Aside0 (Kd.R k29 29 w132 w.heap.size (fun k_ => some k_ ≠ (v773 : Value).ownBlock ∧ some k_ ≠ (v778 : Value).ownBlock ∧ some k_ ≠ (.slice Ao35 t767.length co35 : Value).ownBlock ∧ some k_ ≠ (.slice Ao46 t756.length co46 : Value).ownBlock) (.slice Ao29 t745.length co29) t745) := ⟨h2_⟩
                      have n3_ : Aside0 (Kd.R k29 29 w132 w.heap.size (fun k_ => some k_ ≠ (v773 : Value).ownBlock ∧ some k_ ≠ (v778 : Value).ownBlock ∧ some k_ ≠ (.slice Ao29 t745.length co29 : Value).ownBlock ∧ some k_ ≠ (.slice Ao46 t756.length co46 : Value).ownBlock) (.slice Ao35 t767.length co35) t767) := ⟨h3_⟩
                      have n4_ : Aside0 (Kd.R k29 29 w132 w.heap.size (fun k_ => some k_ ≠ (v773 : Value).ownBlock ∧ some k_ ≠ (v778 : Value).ownBlock ∧ some k_ ≠ (.slice Ao29 t745.length co29 : Value).ownBlock ∧ some k_ ≠ (.slice Ao35 t767.length co35 : Value).ownBlock) (.slice Ao46 t756.length co46) t770) := ⟨h4_⟩
                      have n5_ : Aside0 (w132.heap[gb737]? = some (.cells #[.slice A0_0 l0_0.length c0_0] 55 (0, 0))) := ⟨h5_⟩
                      have n6_ : Aside0 (w132.heap[gb738]? = some (.cells #[.int .i64 a1_0, .int .i64 a1_1] 34 (0, 0))) := ⟨h6_⟩
                      have n7_ : Aside0 (w132.heap[gb749]? = some (.cells #[.slice Ao29 t745.length co29] 45 (0, 0))) := ⟨h7_⟩
                      have n8_ : Aside0 (w132.heap[gb753]? = some (.cells #[.slice Ao35 t767.length co35] 45 (0, 0))) := ⟨h8_⟩
                      have n9_ : Aside0 (w132.heap[gb760]? = some (.cells #[.slice Ao46 t756.length co46] 45 (0, 0))) := ⟨h9_⟩
                      have n10_ : Aside0 (w132.heap[gb781]? = some (.cells #[.slice none 0 0] 45 (0, 0))) := ⟨h10_⟩
                      have n11_ : Aside0 (w.heap.size ≤ gb781) := ⟨h11_⟩
                      have n12_ : Aside0 (w.heap.size ≤ gb781) := ⟨h12_⟩
                      have n13_ : Aside0 (gb737 ≠ gb781) := ⟨h13_⟩
                      have n14_ : Aside0 (gb781 ≠ gb737) := ⟨h14_⟩
                      have n15_ : Aside0 (gb738 ≠ gb781) := ⟨h15_⟩
                      have n16_ : Aside0 (gb781 ≠ gb738) := ⟨h16_⟩
                      have n17_ : Aside0 (gb749 ≠ gb781) := ⟨h17_⟩
                      have n18_ : Aside0 (gb781 ≠ gb749) := ⟨h18_⟩
                      have n19_ : Aside0 (gb753 ≠ gb781) := ⟨h19_⟩
                      have n20_ : Aside0 (gb781 ≠ gb753) := ⟨h20_⟩
                      have n21_ : Aside0 (gb760 ≠ gb781) := ⟨h21_⟩
                      have n22_ : Aside0 (gb781 ≠ gb760) := ⟨h22_⟩
                      have n23_ : Aside0 (Below w.heap.size w w132) := ⟨h23_⟩
                      clear HO_750000
                      clear HO_754000
                      clear HO_761000
                      clear BK737
                      clear BK738
                      clear BK749
                      clear BK753
                      clear BK760
                      clear HB
                      clear h0_ h1_ h2_ h3_ h4_ h5_ h6_ h7_ h8_ h9_ h10_ h11_ h12_ h13_ h14_ h15_ h16_ h17_ h18_ h19_ h20_ h21_ h22_ h23_
                      have HO774 := n0_
                      have HO779 := n1_
                      have HO_750000 := n2_
                      have HO_754000 := n3_
                      have HO_761000 := n4_
                      have BK737 := n5_
                      have BK738 := n6_
                      have BK749 := n7_
                      have BK753 := n8_
                      have BK760 := n9_
                      have BK781 := n10_
                      have GW781 := n11_
                      have GE781 := n12_
                      have NB737_781 := n13_
                      have NB781_737 := n14_
                      have NB738_781 := n15_
                      have NB781_738 := n16_
                      have NB749_781 := n17_
                      have NB781_749 := n18_
                      have NB753_781 := n19_
                      have NB781_753 := n20_
                      have NB760_781 := n21_
                      have NB781_760 := n22_
                      have HB := n23_
                      clear n0_ n1_ n2_ n3_ n4_ n5_ n6_ n7_ n8_ n9_ n10_ n11_ n12_ n13_ n14_ n15_ n16_ n17_ n18_ n19_ n20_ n21_ n22_ n23_
                      have hHeld : w132.cell? ⟨gb737, 0, none⟩ = some (.slice A0_0 l0_0.length c0_0) ∧ w132.cell? ⟨gb738, 0, none⟩ = some (.int .i64 a1_0) ∧ w132.cell? ⟨gb738, 1, none⟩ = some (.int .i64 a1_1) := hS_
                      obtain ⟨Ao133, co133, eo133⟩ := Kd.R_slice HO779.out
                      (first | subst eo133 | (injection eo133 with f1_ f2_ f3_; have f4_ := f1_.symm; have f5_ := f3_.symm; clear f1_ f2_ f3_; subst f4_; subst f5_))
                      refine norm_ (a' := ?_) ?_ ?_
                      rotate_left
                      · simp only [putAll, Act.put, List.setIfInBounds_toArray, List.set_cons_zero, List.set_cons_succ]
                        rfl
                      refine one_ (i := 9) (N := none) #[true, true, true, true, true, true, true, true, true, true, false] rfl rfl (one_of HT_.out (by kernel_rfl)) (by decide) (fun K hK => ?_)
                      have hs134 : w132.cell? ⟨gb781, 0, none⟩ = some (.slice none 0 0) := (blk_cell BK781.out 0).trans rfl
                      have hfs134 := blk_frozen BK781.out 0
                      have hns134_0 := NB737_781.out
                      have hns134_1 := NB738_781.out
                      have hns134_2 := NB749_781.out
                      have hns134_3 := NB753_781.out
                      have hns134_4 := NB760_781.out
                      have hms134_0 := NB781_737.out
                      have hms134_1 := NB781_738.out
                      have hms134_2 := NB781_749.out
                      have hms134_3 := NB781_753.out
                      have hms134_4 := NB781_760.out
                      refine skip_ (w1 := ?_) (by rfl) rfl ?_ ?_
                      rotate_left
                      · go_simp
                        rfl
                      refine hK.out _ _ ⟨((cell_far (p := ⟨gb781, _, none⟩) NB737_781.out _).trans (hHeld.1)), ((cell_far (p := ⟨gb781, _, none⟩) NB738_781.out _).trans (hHeld.2.1)), ((cell_far (p := ⟨gb781, _, none⟩) NB738_781.out _).trans (hHeld.2.2))⟩ (fun hHeld => ?_)
                      clear hK K
                      refine pure_ (i := 10) (N := some 15) (v := ?_) (a' := ?_) #[true, true, true, true, true, true, true, true, true, true, true] rfl rfl (any_of HT_.out (by kernel_rfl)) (fun _ _ _ h => h) (Or.inl ⟨by rfl, ?_⟩) ?_ ?_
                      rotate_left
                      · intro w'
                        go_simp
                        with_reducible rfl
                      rotate_left
                      · simp only [Act.put, List.setIfInBounds_toArray, List.set_cons_zero, List.set_cons_succ, i64_w, i32_w]
                        rfl
                      refine done_ (done_of HT_.out (by kernel_rfl)) ?_
                      go_upto_region 25 with (fail)
                      go_cut [95] (fun v95 wc => ∃ (kq : Nat) (x95_116 : Bool), v95 = .bool x95_116 ∧ Aside0 (laws_FnExactMapPut.j2 kq t769 x95_116 t770 = some r) ∧ Aside0 (kq ≤ kj74) ∧ Aside0 (Kd.R k29 29 wc w.heap.size (fun k_ => some k_ ≠ ((.slice Ao35 t767.length co35) : Value).ownBlock ∧ some k_ ≠ ((.slice Ao46 t756.length co46) : Value).ownBlock ∧ some k_ ≠ ((.slice Ao133 t777.length co133) : Value).ownBlock) (.slice Ao29 t745.length co29) t745) ∧ Aside0 (Kd.R k29 29 wc w.heap.size (fun k_ => some k_ ≠ ((.slice Ao29 t745.length co29) : Value).ownBlock ∧ some k_ ≠ ((.slice Ao46 t756.length co46) : Value).ownBlock ∧ some k_ ≠ ((.slice Ao133 t777.length co133) : Value).ownBlock) (.slice Ao35 t767.length co35) t767) ∧ Aside0 (Kd.R k29 29 wc w.heap.size (fun k_ => some k_ ≠ ((.slice Ao29 t745.length co29) : Value).ownBlock ∧ some k_ ≠ ((.slice Ao35 t767.length co35) : Value).ownBlock ∧ some k_ ≠ ((.slice Ao133 t777.length co133) : Value).ownBlock) (.slice Ao46 t756.length co46) t770) ∧ Aside0 (Kd.R k29 29 wc w.heap.size (fun k_ => some k_ ≠ ((.slice Ao29 t745.length co29) : Value).ownBlock ∧ some k_ ≠ ((.slice Ao35 t767.length co35) : Value).ownBlock ∧ some k_ ≠ ((.slice Ao46 t756.length co46) : Value).ownBlock) (.slice Ao133 t777.length co133) t777) ∧ Aside0 (wc.heap[gb737]? = some (.cells #[(.slice A0_0 l0_0.length c0_0)] 55 (0, 0))) ∧ Aside0 (wc.heap[gb738]? = some (.cells #[.int .i64 a1_0, .int .i64 a1_1] 34 (0, 0))) ∧ Aside0 (wc.heap[gb749]? = some (.cells #[(.slice Ao29 t745.length co29)] 45 (0, 0))) ∧ Aside0 (wc.heap[gb753]? = some (.cells #[(.slice Ao35 t767.length co35)] 45 (0, 0))) ∧ Aside0 (wc.heap[gb760]? = some (.cells #[(.slice Ao46 t756.length co46)] 45 (0, 0))) ∧ Aside0 (wc.heap[gb781]? = some (.cells #[(.slice Ao133 t777.length co133)] 45 (0, 0))) ∧ Aside0 (Below w.heap.size w wc))
                      case first =>
                        have H := HC117.out
                        clear HC117
                        replace H := Option.bind_eq_some_iff.mp H
                        obtain ⟨t782, A1350, H⟩ := H
                        replace H : (if t782 = true then (laws_FnExactMapPut.j2 kj74 t769 (t780 != t748) t770) else (laws_FnExactMapPut.j2 kj74 t769 true t770)) = some r := H
                        have A135 := Aside0.mk A1350
                        clear A1350
                        by_cases c136 : t782 = true
                        · subst c136
                          have H1 : (laws_FnExactMapPut.j2 kj74 t769 (t780 != t748) t770) = some r := by rw [if_pos rfl] at H; exact H
                          clear H
                          have H := H1
                          clear H1
                          have H' := Aside0.mk H
                          clear H
                          have hnb137 := NB781_737.out
                          have hnc137 := NB737_781.out
                          have hnb138 := NB781_738.out
                          have hnc138 := NB738_781.out
                          have hnb139 := NB781_749.out
                          have hnc139 := NB749_781.out
                          have hnb140 := NB781_753.out
                          have hnc140 := NB753_781.out
                          have hnb141 := NB781_760.out
                          have hnc141 := NB760_781.out
                          have hcz142_0 : w132.cell? ⟨gb781, 0, none⟩ = some (.slice none 0 0) := (blk_cell BK781.out 0).trans rfl
                          have hfz142_0 := blk_frozen BK781.out 0
                          have hnb143 := NB749_737.out
                          have hnc143 := NB737_749.out
                          have hnb144 := NB749_738.out
                          have hnc144 := NB738_749.out
                          have hnb145 := NB749_753.out
                          have hnc145 := NB753_749.out
                          have hnb146 := NB749_760.out
                          have hnc146 := NB760_749.out
                          have hcz147_0 : w132.cell? ⟨gb749, 0, none⟩ = some (.slice Ao29 t745.length co29) := (blk_cell BK749.out 0).trans rfl
                          have hfz147_0 := blk_frozen BK749.out 0
                          go_wp2_with (first | ((with_reducible refine gate_callee (f := 31) rfl ?_); refine goesL_ (some 89) rfl rfl Try.func31 (by kernel_rfl) rfl #[.agg #[.slice Ao133 t777.length co133], .agg #[.slice Ao29 t745.length co29]] rfl (by (try simp only [List.map_toArray, List.map_cons, List.map_nil]); first | done | rfl | (simp only [List.length_drop, List.length_take]; rfl)) ?_; (with_reducible refine (laws_eqMapTab.calls kj74 _ _ t777 _ _ t745 true _ ?side1 ?side2 ?side3 ?side4 A135.out).mono ?_); (case side1 => refine (Kd.R_reads' (e := 29) (base := w.heap.size) (ok := fun k_ => (some k_ ≠ (v773 : Value).ownBlock ∧ (some k_ ≠ (.slice Ao29 t745.length co29 : Value).ownBlock ∧ (some k_ ≠ (.slice Ao35 t767.length co35 : Value).ownBlock ∧ some k_ ≠ (.slice Ao46 t756.length co46 : Value).ownBlock)))) (n := t777.length) (c := co133) ?_).2.2; exact (by (with_reducible repeat apply ru); exact (Kd.R_mono (Kd.R_far (p := ⟨gb781, 0, none⟩) (Kd.R_types HO779.out BK781.out (by decide)) (fun _ hk => hk.2) (.slice Ao133 t777.length co133)) (fun _ h_ => h_.1)))); (case side2 => exact (Kd.R_reads' HO779.out).2.1); (case side3 => refine (Kd.R_reads' (e := 29) (base := w.heap.size) (ok := fun k_ => (some k_ ≠ (v773 : Value).ownBlock ∧ (some k_ ≠ (.slice Ao133 t777.length co133 : Value).ownBlock ∧ (some k_ ≠ (.slice Ao35 t767.length co35 : Value).ownBlock ∧ some k_ ≠ (.slice Ao46 t756.length co46 : Value).ownBlock)))) (n := t745.length) (c := co29) ?_).2.2; exact (by (with_reducible repeat apply ru); exact (Kd.R_mono (Kd.R_far (p := ⟨gb781, 0, none⟩) (Kd.R_types HO_750000.out BK781.out (by decide)) (fun _ hk => hk.2) (.slice Ao133 t777.length co133)) (fun _ h_ => h_.1)))); (case side4 => exact (Kd.R_reads' HO_750000.out).2.1); rintro e w148 ⟨rfl, hb⟩; refine ⟨_, rfl, ?_⟩; have n0_ := Aside0.mk (Kd.R_below (by (with_reducible repeat apply ru); exact (Kd.R_mono (Kd.R_far (p := ⟨gb781, 0, none⟩) (Kd.R_types HO_750000.out BK781.out (by decide)) (fun _ hk => hk.2) (.slice Ao133 t777.length co133)) (fun _ h_ => h_.1))) hb); have n1_ := Aside0.mk (Kd.R_below (by (with_reducible repeat apply ru); exact (Kd.R_mono (Kd.R_far (p := ⟨gb781, 0, none⟩) (Kd.R_types HO_754000.out BK781.out (by decide)) (fun _ hk => hk.2) (.slice Ao133 t777.length co133)) (fun _ h_ => h_.1))) hb); have n2_ := Aside0.mk (Kd.R_below (by (with_reducible repeat apply ru); exact (Kd.R_mono (Kd.R_far (p := ⟨gb781, 0, none⟩) (Kd.R_types HO_761000.out BK781.out (by decide)) (fun _ hk => hk.2) (.slice Ao133 t777.length co133)) (fun _ h_ => h_.1))) hb); have n3_ := Aside0.mk (Kd.R_below (by (with_reducible repeat apply ru); exact (Kd.R_mono (Kd.R_far (p := ⟨gb781, 0, none⟩) (Kd.R_types HO774.out BK781.out (by decide)) (fun _ hk => hk.2) (.slice Ao133 t777.length co133)) (fun _ h_ => h_.1))) hb); have n4_ := Aside0.mk (Kd.R_below (by (with_reducible repeat apply ru); exact (Kd.R_mono (Kd.R_far (p := ⟨gb781, 0, none⟩) (Kd.R_types HO779.out BK781.out (by decide)) (fun _ hk => hk.2) (.slice Ao133 t777.length co133)) (fun _ h_ => h_.1))) hb); have n5_ := Aside0.mk (blk_below (g := gb737) (o := .cells #[.slice A0_0 l0_0.length c0_0] 55 (0, 0)) (by (with_reducible repeat refine bu ?_); refine blk_far ?_ NB737_781.out _; (with_reducible repeat refine bu ?_); exact BK737.out) hb); have n6_ := Aside0.mk (blk_below (g := gb738) (o := .cells #[.int .i64 a1_0, .int .i64 a1_1] 34 (0, 0)) (by (with_reducible repeat refine bu ?_); refine blk_far ?_ NB738_781.out _; (with_reducible repeat refine bu ?_); exact BK738.out) hb); have n7_ := Aside0.mk (blk_below (g := gb749) (o := .cells #[.slice Ao29 t745.length co29] 45 (0, 0)) (by (with_reducible repeat refine bu ?_); refine blk_far ?_ NB749_781.out _; (with_reducible repeat refine bu ?_); exact BK749.out) hb); have n8_ := Aside0.mk (blk_below (g := gb753) (o := .cells #[.slice Ao35 t767.length co35] 45 (0, 0)) (by (with_reducible repeat refine bu ?_); refine blk_far ?_ NB753_781.out _; (with_reducible repeat refine bu ?_); exact BK753.out) hb); have n9_ := Aside0.mk (blk_below (g := gb760) (o := .cells #[.slice Ao46 t756.length co46] 45 (0, 0)) (by (with_reducible repeat refine bu ?_); refine blk_far ?_ NB760_781.out _; (with_reducible repeat refine bu ?_); exact BK760.out) hb); have n10_ := Aside0.mk (blk_below (g := gb781) (o := .cells #[.slice Ao133 t777.length co133] 45 (0, 0)) (by (with_reducible repeat refine bu ?_); refine blk_put (cs := #[.slice none 0 0]) ?_ 0 _ rfl; (with_reducible repeat refine bu ?_); exact BK781.out) hb); have n11_ := Aside0.mk (below_step (bl HB) hb); clear HO_750000; clear HO_754000; clear HO_761000; clear HO774; clear HO779; clear BK737; clear BK738; clear BK749; clear BK753; clear BK760; clear BK781; clear HB; have HO_750000 := n0_; have HO_754000 := n1_; have HO_761000 := n2_; have HO774 := n3_; have HO779 := n4_; have BK737 := n5_; have BK738 := n6_; have BK749 := n7_; have BK753 := n8_; have BK760 := n9_; have BK781 := n10_; have HB := n11_; clear n0_ n1_ n2_ n3_ n4_ n5_ n6_ n7_ n8_ n9_ n10_ n11_; (try clear hb); (try clear hb2); (try clear hk); (try clear hi)))
                          go_meet
                          case rel => exact ⟨_, ((t780 != t748)), (by first | rfl | (simp; done) | (simp [*]; done)), H', ⟨by have := HJ15.out; have := HJ74.out; first | omega | exact Nat.le_refl _⟩, ⟨by (try simp only [hl754000_74]); (with_reducible repeat apply ru); exact Kd.R_mono HO_750000.out (fun _ hk => ⟨hk.2.2.1, ⟨hk.2.2.2, hk.2.1⟩⟩)⟩, ⟨by (try simp only [hl754000_74]); (with_reducible repeat apply ru); exact Kd.R_mono HO_754000.out (fun _ hk => ⟨hk.2.2.1, ⟨hk.2.2.2, hk.2.1⟩⟩)⟩, ⟨by (try simp only [hl754000_74]); (with_reducible repeat apply ru); exact Kd.R_mono HO_761000.out (fun _ hk => ⟨hk.2.2.1, ⟨hk.2.2.2, hk.2.1⟩⟩)⟩, ⟨by (try simp only [hl754000_74]); (with_reducible repeat apply ru); exact Kd.R_mono HO779.out (fun _ hk => ⟨hk.2.1, ⟨hk.2.2.1, hk.2.2.2⟩⟩)⟩, ⟨by (try simp only [hl754000_74]); (with_reducible repeat refine bu ?_); exact BK737.out⟩, ⟨by (try simp only [hl754000_74]); (with_reducible repeat refine bu ?_); exact BK738.out⟩, ⟨by (try simp only [hl754000_74]); (with_reducible repeat refine bu ?_); exact BK749.out⟩, ⟨by (try simp only [hl754000_74]); (with_reducible repeat refine bu ?_); exact BK753.out⟩, ⟨by (try simp only [hl754000_74]); (with_reducible repeat refine bu ?_); exact BK760.out⟩, ⟨by (try simp only [hl754000_74]); (with_reducible repeat refine bu ?_); exact BK781.out⟩, ⟨by repeat (first | (with_reducible first | exact HB.out | apply below_alloc | apply pw_below_drewN | apply below_drew1 | refine below_set ?_ GE737.out | refine below_set ?_ GE738.out | refine below_set ?_ GE749.out | refine below_set ?_ GE753.out | refine below_set ?_ GE760.out | refine below_set ?_ GE781.out) | exact HB.out)⟩⟩
                        · replace c136 := Bool.eq_false_iff.mpr c136
                          subst c136
                          have H1 : (laws_FnExactMapPut.j2 kj74 t769 true t770) = some r := by rw [if_neg (show ¬ (false = true) by decide)] at H; exact H
                          clear H
                          have H := H1
                          clear H1
                          have H' := Aside0.mk H
                          clear H
                          have hnb149 := NB781_737.out
                          have hnc149 := NB737_781.out
                          have hnb150 := NB781_738.out
                          have hnc150 := NB738_781.out
                          have hnb151 := NB781_749.out
                          have hnc151 := NB749_781.out
                          have hnb152 := NB781_753.out
                          have hnc152 := NB753_781.out
                          have hnb153 := NB781_760.out
                          have hnc153 := NB760_781.out
                          have hcz154_0 : w132.cell? ⟨gb781, 0, none⟩ = some (.slice none 0 0) := (blk_cell BK781.out 0).trans rfl
                          have hfz154_0 := blk_frozen BK781.out 0
                          have hnb155 := NB749_737.out
                          have hnc155 := NB737_749.out
                          have hnb156 := NB749_738.out
                          have hnc156 := NB738_749.out
                          have hnb157 := NB749_753.out
                          have hnc157 := NB753_749.out
                          have hnb158 := NB749_760.out
                          have hnc158 := NB760_749.out
                          have hcz159_0 : w132.cell? ⟨gb749, 0, none⟩ = some (.slice Ao29 t745.length co29) := (blk_cell BK749.out 0).trans rfl
                          have hfz159_0 := blk_frozen BK749.out 0
                          go_wp2_with (first | ((with_reducible refine gate_callee (f := 31) rfl ?_); refine goesL_ (some 89) rfl rfl Try.func31 (by kernel_rfl) rfl #[.agg #[.slice Ao133 t777.length co133], .agg #[.slice Ao29 t745.length co29]] rfl (by (try simp only [List.map_toArray, List.map_cons, List.map_nil]); first | done | rfl | (simp only [List.length_drop, List.length_take]; rfl)) ?_; (with_reducible refine (laws_eqMapTab.calls kj74 _ _ t777 _ _ t745 false _ ?side1 ?side2 ?side3 ?side4 A135.out).mono ?_); (case side1 => refine (Kd.R_reads' (e := 29) (base := w.heap.size) (ok := fun k_ => (some k_ ≠ (v773 : Value).ownBlock ∧ (some k_ ≠ (.slice Ao29 t745.length co29 : Value).ownBlock ∧ (some k_ ≠ (.slice Ao35 t767.length co35 : Value).ownBlock ∧ some k_ ≠ (.slice Ao46 t756.length co46 : Value).ownBlock)))) (n := t777.length) (c := co133) ?_).2.2; exact (by (with_reducible repeat apply ru); exact (Kd.R_mono (Kd.R_far (p := ⟨gb781, 0, none⟩) (Kd.R_types HO779.out BK781.out (by decide)) (fun _ hk => hk.2) (.slice Ao133 t777.length co133)) (fun _ h_ => h_.1)))); (case side2 => exact (Kd.R_reads' HO779.out).2.1); (case side3 => refine (Kd.R_reads' (e := 29) (base := w.heap.size) (ok := fun k_ => (some k_ ≠ (v773 : Value).ownBlock ∧ (some k_ ≠ (.slice Ao133 t777.length co133 : Value).ownBlock ∧ (some k_ ≠ (.slice Ao35 t767.length co35 : Value).ownBlock ∧ some k_ ≠ (.slice Ao46 t756.length co46 : Value).ownBlock)))) (n := t745.length) (c := co29) ?_).2.2; exact (by (with_reducible repeat apply ru); exact (Kd.R_mono (Kd.R_far (p := ⟨gb781, 0, none⟩) (Kd.R_types HO_750000.out BK781.out (by decide)) (fun _ hk => hk.2) (.slice Ao133 t777.length co133)) (fun _ h_ => h_.1)))); (case side4 => exact (Kd.R_reads' HO_750000.out).2.1); rintro e w160 ⟨rfl, hb⟩; refine ⟨_, rfl, ?_⟩; have n0_ := Aside0.mk (Kd.R_below (by (with_reducible repeat apply ru); exact (Kd.R_mono (Kd.R_far (p := ⟨gb781, 0, none⟩) (Kd.R_types HO_750000.out BK781.out (by decide)) (fun _ hk => hk.2) (.slice Ao133 t777.length co133)) (fun _ h_ => h_.1))) hb); have n1_ := Aside0.mk (Kd.R_below (by (with_reducible repeat apply ru); exact (Kd.R_mono (Kd.R_far (p := ⟨gb781, 0, none⟩) (Kd.R_types HO_754000.out BK781.out (by decide)) (fun _ hk => hk.2) (.slice Ao133 t777.length co133)) (fun _ h_ => h_.1))) hb); have n2_ := Aside0.mk (Kd.R_below (by (with_reducible repeat apply ru); exact (Kd.R_mono (Kd.R_far (p := ⟨gb781, 0, none⟩) (Kd.R_types HO_761000.out BK781.out (by decide)) (fun _ hk => hk.2) (.slice Ao133 t777.length co133)) (fun _ h_ => h_.1))) hb); have n3_ := Aside0.mk (Kd.R_below (by (with_reducible repeat apply ru); exact (Kd.R_mono (Kd.R_far (p := ⟨gb781, 0, none⟩) (Kd.R_types HO774.out BK781.out (by decide)) (fun _ hk => hk.2) (.slice Ao133 t777.length co133)) (fun _ h_ => h_.1))) hb); have n4_ := Aside0.mk (Kd.R_below (by (with_reducible repeat apply ru); exact (Kd.R_mono (Kd.R_far (p := ⟨gb781, 0, none⟩) (Kd.R_types HO779.out BK781.out (by decide)) (fun _ hk => hk.2) (.slice Ao133 t777.length co133)) (fun _ h_ => h_.1))) hb); have n5_ := Aside0.mk (blk_below (g := gb737) (o := .cells #[.slice A0_0 l0_0.length c0_0] 55 (0, 0)) (by (with_reducible repeat refine bu ?_); refine blk_far ?_ NB737_781.out _; (with_reducible repeat refine bu ?_); exact BK737.out) hb); have n6_ := Aside0.mk (blk_below (g := gb738) (o := .cells #[.int .i64 a1_0, .int .i64 a1_1] 34 (0, 0)) (by (with_reducible repeat refine bu ?_); refine blk_far ?_ NB738_781.out _; (with_reducible repeat refine bu ?_); exact BK738.out) hb); have n7_ := Aside0.mk (blk_below (g := gb749) (o := .cells #[.slice Ao29 t745.length co29] 45 (0, 0)) (by (with_reducible repeat refine bu ?_); refine blk_far ?_ NB749_781.out _; (with_reducible repeat refine bu ?_); exact BK749.out) hb); have n8_ := Aside0.mk (blk_below (g := gb753) (o := .cells #[.slice Ao35 t767.length co35] 45 (0, 0)) (by (with_reducible repeat refine bu ?_); refine blk_far ?_ NB753_781.out _; (with_reducible repeat refine bu ?_); exact BK753.out) hb); have n9_ := Aside0.mk (blk_below (g := gb760) (o := .cells #[.slice Ao46 t756.length co46] 45 (0, 0)) (by (with_reducible repeat refine bu ?_); refine blk_far ?_ NB760_781.out _; (with_reducible repeat refine bu ?_); exact BK760.out) hb); have n10_ := Aside0.mk (blk_below (g := gb781) (o := .cells #[.slice Ao133 t777.length co133] 45 (0, 0)) (by (with_reducible repeat refine bu ?_); refine blk_put (cs := #[.slice none 0 0]) ?_ 0 _ rfl; (with_reducible repeat refine bu ?_); exact BK781.out) hb); have n11_ := Aside0.mk (below_step (bl HB) hb); clear HO_750000; clear HO_754000; clear HO_761000; clear HO774; clear HO779; clear BK737; clear BK738; clear BK749; clear BK753; clear BK760; clear BK781; clear HB; have HO_750000 := n0_; have HO_754000 := n1_; have HO_761000 := n2_; have HO774 := n3_; have HO779 := n4_; have BK737 := n5_; have BK738 := n6_; have BK749 := n7_; have BK753 := n8_; have BK760 := n9_; have BK781 := n10_; have HB := n11_; clear n0_ n1_ n2_ n3_ n4_ n5_ n6_ n7_ n8_ n9_ n10_ n11_; (try clear hb); (try clear hb2); (try clear hk); (try clear hi)))
                          go_meet
                          case rel => exact ⟨_, (true), (by first | rfl | (simp; done) | (simp [*]; done)), H', ⟨by have := HJ15.out; have := HJ74.out; first | omega | exact Nat.le_refl _⟩, ⟨by (try simp only [hl754000_74]); (with_reducible repeat apply ru); exact Kd.R_mono HO_750000.out (fun _ hk => ⟨hk.2.2.1, ⟨hk.2.2.2, hk.2.1⟩⟩)⟩, ⟨by (try simp only [hl754000_74]); (with_reducible repeat apply ru); exact Kd.R_mono HO_754000.out (fun _ hk => ⟨hk.2.2.1, ⟨hk.2.2.2, hk.2.1⟩⟩)⟩, ⟨by (try simp only [hl754000_74]); (with_reducible repeat apply ru); exact Kd.R_mono HO_761000.out (fun _ hk => ⟨hk.2.2.1, ⟨hk.2.2.2, hk.2.1⟩⟩)⟩, ⟨by (try simp only [hl754000_74]); (with_reducible repeat apply ru); exact Kd.R_mono HO779.out (fun _ hk => ⟨hk.2.1, ⟨hk.2.2.1, hk.2.2.2⟩⟩)⟩, ⟨by (try simp only [hl754000_74]); (with_reducible repeat refine bu ?_); exact BK737.out⟩, ⟨by (try simp only [hl754000_74]); (with_reducible repeat refine bu ?_); exact BK738.out⟩, ⟨by (try simp only [hl754000_74]); (with_reducible repeat refine bu ?_); exact BK749.out⟩, ⟨by (try simp only [hl754000_74]); (with_reducible repeat refine bu ?_); exact BK753.out⟩, ⟨by (try simp only [hl754000_74]); (with_reducible repeat refine bu ?_); exact BK760.out⟩, ⟨by (try simp only [hl754000_74]); (with_reducible repeat refine bu ?_); exact BK781.out⟩, ⟨by repeat (first | (with_reducible first | exact HB.out | apply below_alloc | apply pw_below_drewN | apply below_drew1 | refine below_set ?_ GE737.out | refine below_set ?_ GE738.out | refine below_set ?_ GE749.out | refine below_set ?_ GE753.out | refine below_set ?_ GE760.out | refine below_set ?_ GE781.out) | exact HB.out)⟩⟩
                      case rest =>
                        clear HC117
                        try clear c1
                        try clear c2
                        try clear p2
                        try clear c3
                        try clear c13
                        try clear c14
                        try clear c15
                        try clear c19
                        try clear c26
                        try clear c30
                        try clear c31
                        try clear c136
                        try clear c137
                        try clear c138
                        try clear c139
                        try clear c140
                        try clear c141
                        try clear c143
                        try clear c144
                        try clear c145
                        try clear c146
                        try clear c149
                        try clear c150
                        try clear c151
                        try clear c152
                        try clear c153
                        try clear c155
                        try clear c156
                        try clear c157
                        try clear c158
                        try clear hcz142_0
                        try clear hcz147_0
                        try clear hcz154_0
                        try clear hcz159_0
                        try clear hfz142_0
                        try clear hfz147_0
                        try clear hfz154_0
                        try clear hfz159_0
                        obtain ⟨kq, x95_116, rfl, HA, HJ116, HO_750000, HO_754000, HO_761000, HO_782000, BK737, BK738, BK749, BK753, BK760, BK781, HB⟩ := hcut
                        have hl761000_116 := (Kd.R_reads' HO_761000.out).1
                        rw [hl761000_116] at HO_761000
                        (try simp only [hl761000_116])
                        (try simp only [hl761000_116] at BK737)
                        (try simp only [hl761000_116] at BK738)
                        (try simp only [hl761000_116] at BK749)
                        (try simp only [hl761000_116] at BK753)
                        (try simp only [hl761000_116] at BK760)
                        (try simp only [hl761000_116] at BK781)
                        (try simp only [hl761000_116] at HO_750000)
                        (try simp only [hl761000_116] at HO_754000)
                        (try simp only [hl761000_116] at HO_782000)
                        cases kq with
                        | zero => exact absurd HA.out (by simp [laws_FnExactMapPut.j2])
                        | succ kj116 =>
                          have H := HA.out
                          clear HA
                          simp only [laws_FnExactMapPut.j2] at H
                          by_cases c161 : x95_116 = true
                          · subst c161
                            have H1 : (some false) = some r := by rw [if_pos rfl] at H; exact H
                            clear H
                            have H := H1
                            clear H1
                            exact absurd ((Option.some.inj H).trans hrt.out) (by decide)
                          · replace c161 := Bool.eq_false_iff.mpr c161
                            subst c161
                            have H1 : ((laws_heldMapTab.f kj116 t770 1).bind fun t783 => (if t783 < 0 then (some false) else (if t783 = t769 then (some true) else (some false)))) = some r := by rw [if_neg (show ¬ (false = true) by decide)] at H; exact H
                            clear H
                            have H := H1
                            clear H1
                            replace H := Option.bind_eq_some_iff.mp H
                            obtain ⟨t783, A1620, H⟩ := H
                            replace H : (if t783 < 0 then (some false) else (if t783 = t769 then (some true) else (some false))) = some r := H
                            have A162 := Aside0.mk A1620
                            clear A1620
                            by_cases c163 : t783 < 0
                            · rw [if_pos c163] at H
                              have c163b0 : decide (t783 < 0) = true := decide_eq_true c163
                              clear c163
                              exact absurd ((Option.some.inj H).trans hrt.out) (by decide)
                            · rw [if_neg c163] at H
                              have c163b0 : decide (t783 < 0) = false := decide_eq_false c163
                              clear c163
                              by_cases c164 : t783 = t769
                              · rw [if_pos c164] at H
                                have c164b0 : (t783 == t769) = true := beq_iff_eq.mpr c164
                                have c164b1 : (t783 != t769) = false := bne_eq_false_iff_eq.mpr c164
                                clear c164
                                obtain rfl := Option.some.inj H
                                have hnb165 := NB760_737.out
                                have hnc165 := NB737_760.out
                                have hnb166 := NB760_738.out
                                have hnc166 := NB738_760.out
                                have hnb167 := NB760_749.out
                                have hnc167 := NB749_760.out
                                have hnb168 := NB760_753.out
                                have hnc168 := NB753_760.out
                                have hnb169 := NB760_781.out
                                have hnc169 := NB781_760.out
                                have hcz170_0 : wc.cell? ⟨gb760, 0, none⟩ = some (.slice Ao46 t770.length co46) := (blk_cell BK760.out 0).trans rfl
                                have hfz170_0 := blk_frozen BK760.out 0
                                go_wp2_with (first | ((with_reducible refine gate_callee (f := 33) rfl ?_); refine goesL_ (some 98) rfl rfl Try.func33 (by kernel_rfl) rfl #[.agg #[.slice Ao46 t770.length co46], .int .i64 1] rfl (by (try simp only [List.map_toArray, List.map_cons, List.map_nil]); first | done | rfl | (simp only [List.length_drop, List.length_take]; rfl)) ?_; (with_reducible refine (laws_heldMapTab.calls kj116 _ _ t770 1 t783 _ ?side1 ?side2 A162.out).mono ?_); (case side1 => repeat (first | exact (Kd.R_reads' HO_761000.out).2.2 | (with_reducible refine Kd.C_alloc ?_ _) | (with_reducible refine Kd.C_drewN ?_ _) | (with_reducible refine Kd.C_drew ?_))); (case side2 => exact (Kd.R_reads' HO_761000.out).2.1); rintro e w171 ⟨rfl, hb⟩; refine ⟨_, rfl, ?_⟩; have n0_ := Aside0.mk (Kd.R_below (rs HO_750000) hb); have n1_ := Aside0.mk (Kd.R_below (rs HO_754000) hb); have n2_ := Aside0.mk (Kd.R_below (rs HO_761000) hb); have n3_ := Aside0.mk (Kd.R_below (rs HO_782000) hb); have n4_ := bkB BK737 hb; have n5_ := bkB BK738 hb; have n6_ := bkB BK749 hb; have n7_ := bkB BK753 hb; have n8_ := bkB BK760 hb; have n9_ := bkB BK781 hb; have n10_ := Aside0.mk (below_step (bl HB) hb); clear HO_750000; clear HO_754000; clear HO_761000; clear HO_782000; clear BK737; clear BK738; clear BK749; clear BK753; clear BK760; clear BK781; clear HB; have HO_750000 := n0_; have HO_754000 := n1_; have HO_761000 := n2_; have HO_782000 := n3_; have BK737 := n4_; have BK738 := n5_; have BK749 := n6_; have BK753 := n7_; have BK760 := n8_; have BK781 := n9_; have HB := n10_; clear n0_ n1_ n2_ n3_ n4_ n5_ n6_ n7_ n8_ n9_ n10_; (try clear hb); (try clear hb2); (try clear hk); (try clear hi)))
                                go_ret
                                exact ⟨by first | rfl | (simp [errW_none, errW_some] <;> rfl) | (simp [*, errW_none, errW_some] <;> rfl), by repeat (first | (with_reducible first | exact HB.out | apply below_alloc | apply pw_below_drewN | apply below_drew1 | refine below_set ?_ GE737.out | refine below_set ?_ GE738.out | refine below_set ?_ GE749.out | refine below_set ?_ GE753.out | refine below_set ?_ GE760.out | refine below_set ?_ GE781.out) | exact HB.out)⟩
                              · rw [if_neg c164] at H
                                have c164b0 : (t783 == t769) = false := beq_eq_false_iff_ne.mpr c164
                                have c164b1 : (t783 != t769) = true := bne_iff_ne.mpr c164
                                exact absurd ((Option.some.inj H).trans hrt.out) (by decide)
                    · rw [if_neg c113] at H
                      have c113b0 : (t771 == t769) = false := beq_eq_false_iff_ne.mpr c113
                      have c113b1 : (t771 != t769) = true := bne_iff_ne.mpr c113
                      exact absurd ((Option.some.inj H).trans hrt.out) (by decide)
          · replace c73 := Bool.eq_false_iff.mpr c73
            subst c73
            have H1 : (some false) = some r := by rw [if_neg (show ¬ (false = true) by decide)] at H; exact H
            clear H
            have H := H1
            clear H1
            exact absurd ((Option.some.inj H).trans hrt.out) (by decide)

end Go.Proofs.Ytiocgkggegahhaa.P
