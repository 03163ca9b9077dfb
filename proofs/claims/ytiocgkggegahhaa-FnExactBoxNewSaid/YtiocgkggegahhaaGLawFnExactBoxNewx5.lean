import Derived.Test.YtiocgkggegahhaaGLawFnExactBoxNewx4
-- written by hw.py for this claim
namespace Go.Proofs.Ytiocgkggegahhaa.P
open Go.RowKit Go.Proofs.YtiocgkggegahhaaUFnExactBoxNew.PrintWords Go.Proofs.YtiocgkggegahhaaUFnExactBoxNew.PrintLast Go.Proofs.YtiocgkggegahhaaUFnExactBoxNew.PrintMore
attribute [local go_sem] max2_int min2_int max_two min_two max_three min_three max_four min_four
set_option linter.unusedVariables false
set_option linter.unusedSimpArgs false

/-! ### laws_heldBoxConnS: function 81 -/
def laws_heldBoxConnS.l0 : Nat → List (S119) → Int → Int → Option (Int)
  | 0, _, _, _ => none
  | k + 1, x0, x1, x5 => if x5 < (x0.length : Int) then (if 0 ≤ x5 then (if ((rd_T119 x0 x5).f0.f0) = x1 then (if ((rd_T119 x0 x5).f0.f1) = (wrap64 (x1 + 1)) then (if ((rd_T119 x0 x5).f1.f0) = (wrap64 ((wrap64 (x1 + 1)) + 1)) then (if ((rd_T119 x0 x5).f1.f1) = (wrap64 ((wrap64 ((wrap64 (x1 + 1)) + 1)) + 1)) then ((laws_markText.f k (wrap64 ((wrap64 ((wrap64 ((wrap64 (x1 + 1)) + 1)) + 1)) + 1))).bind fun t895 => (if ((rd_T119 x0 x5).f2).toList = t895.toList then ((laws_markText.f k (wrap64 ((wrap64 ((wrap64 ((wrap64 ((wrap64 (x1 + 1)) + 1)) + 1)) + 1)) + 1))).bind fun t897 => (if ((rd_T119 x0 x5).f3).toList = t897.toList then ((laws_markText.f k (wrap64 ((wrap64 ((wrap64 ((wrap64 ((wrap64 ((wrap64 (x1 + 1)) + 1)) + 1)) + 1)) + 1)) + 1))).bind fun t899 => (if ((rd_T119 x0 x5).f4).toList = t899.toList then (laws_heldBoxConnS.l0 k x0 (wrap64 ((wrap64 ((wrap64 ((wrap64 ((wrap64 ((wrap64 ((wrap64 (x1 + 1)) + 1)) + 1)) + 1)) + 1)) + 1)) + 1)) (wrap64 (x5 + 1))) else (some (-1)))) else (some (-1)))) else (some (-1)))) else (some (-1))) else (some (-1))) else (some (-1))) else (some (-1))) else (none)) else (some x1)
def laws_heldBoxConnS.f (k : Nat) (l0 : List (S119)) (a1 : Int) : Option (Int) := laws_heldBoxConnS.l0 k l0 a1 0
theorem laws_heldBoxConnS.mono_l : ∀ k, (∀ y0 y1 y2, LeO (laws_heldBoxConnS.l0 k y0 y1 y2) (laws_heldBoxConnS.l0 (k + 1) y0 y1 y2))
  | 0 => fun _ _ _ r h => by simp [laws_heldBoxConnS.l0] at h
  | k + 1 => by
    have ih0 := laws_heldBoxConnS.mono_l k
    · intro y0 y1 y2
      unfold laws_heldBoxConnS.l0
      repeat' first
      | (with_reducible exact ih0 _ _ _)
      | (with_reducible exact laws_markText.mono _ _)
      | (with_reducible exact LeO.refl _)
      | (with_reducible exact LeO.none _)
      | (with_reducible refine LeO.ite ?_ ?_)
      | (with_reducible refine LeO.bind ?_ (fun _ => ?_))
      | exact ih0 _ _ _
      | exact laws_markText.mono _ _
      | exact LeO.none _
      | refine LeO.ite ?_ ?_
      | refine LeO.bind ?_ (fun _ => ?_)
theorem laws_heldBoxConnS.mono : ∀ a0 a1 k, LeO (laws_heldBoxConnS.f k a0 a1) (laws_heldBoxConnS.f (k + 1) a0 a1) := by
  intro a0 a1 k
  have ih0 := laws_heldBoxConnS.mono_l k
  unfold laws_heldBoxConnS.f
  repeat' first
      | (with_reducible exact ih0 _ _ _)
      | (with_reducible exact laws_markText.mono _ _)
      | (with_reducible exact LeO.refl _)
      | (with_reducible exact LeO.none _)
      | (with_reducible refine LeO.ite ?_ ?_)
      | (with_reducible refine LeO.bind ?_ (fun _ => ?_))
      | exact ih0 _ _ _
      | exact laws_markText.mono _ _
      | exact LeO.none _
      | refine LeO.ite ?_ ?_
      | refine LeO.bind ?_ (fun _ => ?_)
def laws_heldBoxConnS.T16 : Bool × List (List Nat × List Nat) := (true, [([], []), ([], []), ([0, 1], [0, 1]), ([2], [2]), ([3], [3]), ([], []), ([5], [5]), ([4, 6], [4, 6])])
def laws_heldBoxConnS.B16 : List Nat := [0, 0, 3, 7, 15, 0, 32, 127]
theorem laws_heldBoxConnS.tab16 : rtab .any (opsOf Try.f81 16) = laws_heldBoxConnS.T16 := by kernel_rfl
theorem laws_heldBoxConnS.bits16 : waitsOk laws_heldBoxConnS.T16.2 laws_heldBoxConnS.B16 = true := by kernel_rfl
def laws_heldBoxConnS.T19 : Bool × List (List Nat × List Nat) := (true, [([], []), ([], []), ([0, 1], [0, 1]), ([2], [2]), ([3], [3]), ([], []), ([5], [5]), ([4, 6], [4, 6])])
def laws_heldBoxConnS.B19 : List Nat := [0, 0, 3, 7, 15, 0, 32, 127]
theorem laws_heldBoxConnS.tab19 : rtab .any (opsOf Try.f81 19) = laws_heldBoxConnS.T19 := by kernel_rfl
theorem laws_heldBoxConnS.bits19 : waitsOk laws_heldBoxConnS.T19.2 laws_heldBoxConnS.B19 = true := by kernel_rfl
def laws_heldBoxConnS.T22 : Bool × List (List Nat × List Nat) := (true, [([], []), ([], []), ([0, 1], [0, 1]), ([2], [2]), ([3], [3]), ([], []), ([5], [5]), ([4, 6], [4, 6])])
def laws_heldBoxConnS.B22 : List Nat := [0, 0, 3, 7, 15, 0, 32, 127]
theorem laws_heldBoxConnS.tab22 : rtab .any (opsOf Try.f81 22) = laws_heldBoxConnS.T22 := by kernel_rfl
theorem laws_heldBoxConnS.bits22 : waitsOk laws_heldBoxConnS.T22.2 laws_heldBoxConnS.B22 = true := by kernel_rfl
set_option maxHeartbeats 8000000 in
set_option maxRecDepth 100000 in
theorem laws_heldBoxConnS.calls (k : Nat) (A0 : Option Addr) (c0 : Nat) (l0 : List (S119)) (a1 : Int) (r : Int) (w : World) (hr0 : Kd.C k119 w A0 l0.length l0) (hc0 : l0.length ≤ c0) (h : laws_heldBoxConnS.f k l0 a1 = some r) :
    Calls Try.prog 81 #[.slice A0 l0.length c0, .int .i64 a1] w fun e w' => e = .returned (.int .i64 r) ∧ Below w.heap.size w w' := by
  have HR0 := Aside0.mk hr0
  have HC0 := Aside0.mk hc0
  clear hr0 hc0
  have HB := Aside0.mk (Below.refl w.heap.size w)
  have H : (laws_heldBoxConnS.l0 k l0 a1 0) = some r := h
  clear h
  have H' := Aside0.mk H
  clear H
  go_enter Try.func81, Try.ntmps81
  go_wp2
  go_loopg [1, 5] k (fun kq v1 v5 w' => ∃ (x1_1 : Int) (x5_1 : Int), v1 = .int .i64 x1_1 ∧ v5 = .int .i64 x5_1 ∧ Aside0 (laws_heldBoxConnS.l0 kq l0 x1_1 x5_1 = some r) ∧ Aside0 (kq ≤ k) ∧ Aside0 (Below w.heap.size w w'))
  case atStart => exact ⟨(a1), (0), (by first | rfl | (simp; done) | (simp [*]; done)), (by first | rfl | (simp; done) | (simp [*]; done)), H', ⟨Nat.le_refl _⟩, ⟨by repeat (first | (with_reducible first | exact HB.out | apply below_alloc | apply pw_below_drewN | apply below_drew1) | exact HB.out)⟩⟩
  case round =>
    clear H'
    try clear p2
    obtain ⟨x1_1, x5_1, rfl, rfl, HA, HK1, HB⟩ := hrel
    cases gk with
    | zero => exact absurd HA.out (by simp [laws_heldBoxConnS.l0])
    | succ k1 =>
      have H := HA.out
      clear HA
      simp only [laws_heldBoxConnS.l0] at H
      by_cases c3 : x5_1 < (l0.length : Int)
      · rw [if_pos c3] at H
        have c3b0 : decide (x5_1 < (l0.length : Int)) = true := decide_eq_true c3
        clear c3
        by_cases c4 : 0 ≤ x5_1
        · rw [if_pos c4] at H
          have c4b0 : decide (0 ≤ x5_1) = true := decide_eq_true c4
          clear c4
          by_cases c5 : ((rd_T119 l0 x5_1).f0.f0) = x1_1
          · rw [if_pos c5] at H
            have c5b0 : (((rd_T119 l0 x5_1).f0.f0) == x1_1) = true := beq_iff_eq.mpr c5
            have c5b1 : (((rd_T119 l0 x5_1).f0.f0) != x1_1) = false := bne_eq_false_iff_eq.mpr c5
            clear c5
            by_cases c6 : ((rd_T119 l0 x5_1).f0.f1) = (wrap64 (x1_1 + 1))
            · rw [if_pos c6] at H
              have c6b0 : (((rd_T119 l0 x5_1).f0.f1) == (wrap64 (x1_1 + 1))) = true := beq_iff_eq.mpr c6
              have c6b1 : (((rd_T119 l0 x5_1).f0.f1) != (wrap64 (x1_1 + 1))) = false := bne_eq_false_iff_eq.mpr c6
              clear c6
              by_cases c7 : ((rd_T119 l0 x5_1).f1.f0) = (wrap64 ((wrap64 (x1_1 + 1)) + 1))
              · rw [if_pos c7] at H
                have c7b0 : (((rd_T119 l0 x5_1).f1.f0) == (wrap64 ((wrap64 (x1_1 + 1)) + 1))) = true := beq_iff_eq.mpr c7
                have c7b1 : (((rd_T119 l0 x5_1).f1.f0) != (wrap64 ((wrap64 (x1_1 + 1)) + 1))) = false := bne_eq_false_iff_eq.mpr c7
                clear c7
                by_cases c8 : ((rd_T119 l0 x5_1).f1.f1) = (wrap64 ((wrap64 ((wrap64 (x1_1 + 1)) + 1)) + 1))
                · rw [if_pos c8] at H
                  have c8b0 : (((rd_T119 l0 x5_1).f1.f1) == (wrap64 ((wrap64 ((wrap64 (x1_1 + 1)) + 1)) + 1))) = true := beq_iff_eq.mpr c8
                  have c8b1 : (((rd_T119 l0 x5_1).f1.f1) != (wrap64 ((wrap64 ((wrap64 (x1_1 + 1)) + 1)) + 1))) = false := bne_eq_false_iff_eq.mpr c8
                  clear c8
                  replace H := Option.bind_eq_some_iff.mp H
                  obtain ⟨t895, A90, H⟩ := H
                  replace H : (if ((rd_T119 l0 x5_1).f2).toList = t895.toList then ((laws_markText.f k1 (wrap64 ((wrap64 ((wrap64 ((wrap64 ((wrap64 (x1_1 + 1)) + 1)) + 1)) + 1)) + 1))).bind fun t897 => (if ((rd_T119 l0 x5_1).f3).toList = t897.toList then ((laws_markText.f k1 (wrap64 ((wrap64 ((wrap64 ((wrap64 ((wrap64 ((wrap64 (x1_1 + 1)) + 1)) + 1)) + 1)) + 1)) + 1))).bind fun t899 => (if ((rd_T119 l0 x5_1).f4).toList = t899.toList then (laws_heldBoxConnS.l0 k1 l0 (wrap64 ((wrap64 ((wrap64 ((wrap64 ((wrap64 ((wrap64 ((wrap64 (x1_1 + 1)) + 1)) + 1)) + 1)) + 1)) + 1)) + 1)) (wrap64 (x5_1 + 1))) else (some (-1)))) else (some (-1)))) else (some (-1))) = some r := H
                  have A9 := Aside0.mk A90
                  clear A90
                  by_cases c10 : ((rd_T119 l0 x5_1).f2).toList = t895.toList
                  · rw [if_pos c10] at H
                    have c10b0 : (((rd_T119 l0 x5_1).f2).toList == t895.toList) = true := beq_iff_eq.mpr c10
                    have c10b1 : (((rd_T119 l0 x5_1).f2).toList != t895.toList) = false := bne_eq_false_iff_eq.mpr c10
                    clear c10
                    replace H := Option.bind_eq_some_iff.mp H
                    obtain ⟨t897, A110, H⟩ := H
                    replace H : (if ((rd_T119 l0 x5_1).f3).toList = t897.toList then ((laws_markText.f k1 (wrap64 ((wrap64 ((wrap64 ((wrap64 ((wrap64 ((wrap64 (x1_1 + 1)) + 1)) + 1)) + 1)) + 1)) + 1))).bind fun t899 => (if ((rd_T119 l0 x5_1).f4).toList = t899.toList then (laws_heldBoxConnS.l0 k1 l0 (wrap64 ((wrap64 ((wrap64 ((wrap64 ((wrap64 ((wrap64 ((wrap64 (x1_1 + 1)) + 1)) + 1)) + 1)) + 1)) + 1)) + 1)) (wrap64 (x5_1 + 1))) else (some (-1)))) else (some (-1))) = some r := H
                    have A11 := Aside0.mk A110
                    clear A110
                    by_cases c12 : ((rd_T119 l0 x5_1).f3).toList = t897.toList
                    · rw [if_pos c12] at H
                      have c12b0 : (((rd_T119 l0 x5_1).f3).toList == t897.toList) = true := beq_iff_eq.mpr c12
                      have c12b1 : (((rd_T119 l0 x5_1).f3).toList != t897.toList) = false := bne_eq_false_iff_eq.mpr c12
                      clear c12
                      replace H := Option.bind_eq_some_iff.mp H
                      obtain ⟨t899, A130, H⟩ := H
                      replace H : (if ((rd_T119 l0 x5_1).f4).toList = t899.toList then (laws_heldBoxConnS.l0 k1 l0 (wrap64 ((wrap64 ((wrap64 ((wrap64 ((wrap64 ((wrap64 ((wrap64 (x1_1 + 1)) + 1)) + 1)) + 1)) + 1)) + 1)) + 1)) (wrap64 (x5_1 + 1))) else (some (-1))) = some r := H
                      have A13 := Aside0.mk A130
                      clear A130
                      by_cases c14 : ((rd_T119 l0 x5_1).f4).toList = t899.toList
                      · rw [if_pos c14] at H
                        have c14b0 : (((rd_T119 l0 x5_1).f4).toList == t899.toList) = true := beq_iff_eq.mpr c14
                        have c14b1 : (((rd_T119 l0 x5_1).f4).toList != t899.toList) = false := bne_eq_false_iff_eq.mpr c14
                        clear c14
                        have H' := Aside0.mk H
                        clear H
                        have p890 : 0 ≤ (x5_1 : Int) := of_decide_eq_true (by first | (with_reducible assumption) | assumption)
                        have q890 : x5_1 < (l0.length : Int) := of_decide_eq_true (by first | (with_reducible assumption) | assumption)
                        obtain ⟨ad890, e890, hx890_0, hx890_1, hx890_2, hx890_3, hx890_4, hx890_5, hx890_6⟩ := at_T119 HR0.out x5_1 p890 q890
                        cases e890
                        replace hx890_0 := (HB.out.cell (World.block_lt_of_cell? w _ hx890_0)).trans hx890_0
                        replace hx890_1 := (HB.out.cell (World.block_lt_of_cell? w _ hx890_1)).trans hx890_1
                        replace hx890_2 := (HB.out.cell (World.block_lt_of_cell? w _ hx890_2)).trans hx890_2
                        replace hx890_3 := (HB.out.cell (World.block_lt_of_cell? w _ hx890_3)).trans hx890_3
                        replace hx890_4 := (HB.out.cell (World.block_lt_of_cell? w _ hx890_4)).trans hx890_4
                        replace hx890_5 := (HB.out.cell (World.block_lt_of_cell? w _ hx890_5)).trans hx890_5
                        replace hx890_6 := (HB.out.cell (World.block_lt_of_cell? w _ hx890_6)).trans hx890_6
                        replace p890 := eq_true p890
                        replace q890 := eq_true q890
                        have p891 : 0 ≤ (x5_1 : Int) := of_decide_eq_true (by first | (with_reducible assumption) | assumption)
                        have q891 : x5_1 < (l0.length : Int) := of_decide_eq_true (by first | (with_reducible assumption) | assumption)
                        obtain ⟨ad891, e891, hx891_0, hx891_1, hx891_2, hx891_3, hx891_4, hx891_5, hx891_6⟩ := at_T119 HR0.out x5_1 p891 q891
                        obtain rfl : ad890 = ad891 := (by injection e891)
                        replace hx891_0 := (HB.out.cell (World.block_lt_of_cell? w _ hx891_0)).trans hx891_0
                        replace hx891_1 := (HB.out.cell (World.block_lt_of_cell? w _ hx891_1)).trans hx891_1
                        replace hx891_2 := (HB.out.cell (World.block_lt_of_cell? w _ hx891_2)).trans hx891_2
                        replace hx891_3 := (HB.out.cell (World.block_lt_of_cell? w _ hx891_3)).trans hx891_3
                        replace hx891_4 := (HB.out.cell (World.block_lt_of_cell? w _ hx891_4)).trans hx891_4
                        replace hx891_5 := (HB.out.cell (World.block_lt_of_cell? w _ hx891_5)).trans hx891_5
                        replace hx891_6 := (HB.out.cell (World.block_lt_of_cell? w _ hx891_6)).trans hx891_6
                        replace p891 := eq_true p891
                        replace q891 := eq_true q891
                        have p892 : 0 ≤ (x5_1 : Int) := of_decide_eq_true (by first | (with_reducible assumption) | assumption)
                        have q892 : x5_1 < (l0.length : Int) := of_decide_eq_true (by first | (with_reducible assumption) | assumption)
                        obtain ⟨ad892, e892, hx892_0, hx892_1, hx892_2, hx892_3, hx892_4, hx892_5, hx892_6⟩ := at_T119 HR0.out x5_1 p892 q892
                        obtain rfl : ad890 = ad892 := (by injection e892)
                        replace hx892_0 := (HB.out.cell (World.block_lt_of_cell? w _ hx892_0)).trans hx892_0
                        replace hx892_1 := (HB.out.cell (World.block_lt_of_cell? w _ hx892_1)).trans hx892_1
                        replace hx892_2 := (HB.out.cell (World.block_lt_of_cell? w _ hx892_2)).trans hx892_2
                        replace hx892_3 := (HB.out.cell (World.block_lt_of_cell? w _ hx892_3)).trans hx892_3
                        replace hx892_4 := (HB.out.cell (World.block_lt_of_cell? w _ hx892_4)).trans hx892_4
                        replace hx892_5 := (HB.out.cell (World.block_lt_of_cell? w _ hx892_5)).trans hx892_5
                        replace hx892_6 := (HB.out.cell (World.block_lt_of_cell? w _ hx892_6)).trans hx892_6
                        replace p892 := eq_true p892
                        replace q892 := eq_true q892
                        have p893 : 0 ≤ (x5_1 : Int) := of_decide_eq_true (by first | (with_reducible assumption) | assumption)
                        have q893 : x5_1 < (l0.length : Int) := of_decide_eq_true (by first | (with_reducible assumption) | assumption)
                        obtain ⟨ad893, e893, hx893_0, hx893_1, hx893_2, hx893_3, hx893_4, hx893_5, hx893_6⟩ := at_T119 HR0.out x5_1 p893 q893
                        obtain rfl : ad890 = ad893 := (by injection e893)
                        replace hx893_0 := (HB.out.cell (World.block_lt_of_cell? w _ hx893_0)).trans hx893_0
                        replace hx893_1 := (HB.out.cell (World.block_lt_of_cell? w _ hx893_1)).trans hx893_1
                        replace hx893_2 := (HB.out.cell (World.block_lt_of_cell? w _ hx893_2)).trans hx893_2
                        replace hx893_3 := (HB.out.cell (World.block_lt_of_cell? w _ hx893_3)).trans hx893_3
                        replace hx893_4 := (HB.out.cell (World.block_lt_of_cell? w _ hx893_4)).trans hx893_4
                        replace hx893_5 := (HB.out.cell (World.block_lt_of_cell? w _ hx893_5)).trans hx893_5
                        replace hx893_6 := (HB.out.cell (World.block_lt_of_cell? w _ hx893_6)).trans hx893_6
                        replace p893 := eq_true p893
                        replace q893 := eq_true q893
                        try go_wp2
                        have n0_ := Aside0.mk (below_drew1 HB.out)
                        clear HB
                        have HB := n0_
                        clear n0_
                        have p894 : 0 ≤ (x5_1 : Int) := of_decide_eq_true (by first | (with_reducible assumption) | assumption)
                        have q894 : x5_1 < (l0.length : Int) := of_decide_eq_true (by first | (with_reducible assumption) | assumption)
                        obtain ⟨ad894, e894, hx894_0, hx894_1, hx894_2, hx894_3, hx894_4, hx894_5, hx894_6⟩ := at_T119 HR0.out x5_1 p894 q894
                        have hw894_6 := hx894_6
                        have hw894_5 := hx894_5
                        have hw894_4 := hx894_4
                        have hw894_3 := hx894_3
                        have hw894_2 := hx894_2
                        have hw894_1 := hx894_1
                        have hw894_0 := hx894_0
                        obtain rfl : ad890 = ad894 := (by injection e894)
                        replace hx894_0 := (HB.out.cell (World.block_lt_of_cell? w _ hx894_0)).trans hx894_0
                        replace hx894_1 := (HB.out.cell (World.block_lt_of_cell? w _ hx894_1)).trans hx894_1
                        replace hx894_2 := (HB.out.cell (World.block_lt_of_cell? w _ hx894_2)).trans hx894_2
                        replace hx894_3 := (HB.out.cell (World.block_lt_of_cell? w _ hx894_3)).trans hx894_3
                        replace hx894_4 := (HB.out.cell (World.block_lt_of_cell? w _ hx894_4)).trans hx894_4
                        replace hx894_5 := (HB.out.cell (World.block_lt_of_cell? w _ hx894_5)).trans hx894_5
                        replace hx894_6 := (HB.out.cell (World.block_lt_of_cell? w _ hx894_6)).trans hx894_6
                        replace p894 := eq_true p894
                        replace q894 := eq_true q894
                        refine start_ (n := 8) (S := fun w' => w'.cell? (ad890.add ((x5_1).toNat * 7)) = some (.int .i64 ((rd_T119 l0 x5_1).f0.f0)) ∧ w'.cell? ⟨(ad890.add ((x5_1).toNat * 7)).block, (ad890.add ((x5_1).toNat * 7)).off + 1, none⟩ = some (.int .i64 ((rd_T119 l0 x5_1).f0.f1)) ∧ w'.cell? ⟨(ad890.add ((x5_1).toNat * 7)).block, (ad890.add ((x5_1).toNat * 7)).off + 2, none⟩ = some (.int .i64 ((rd_T119 l0 x5_1).f1.f0)) ∧ w'.cell? ⟨(ad890.add ((x5_1).toNat * 7)).block, (ad890.add ((x5_1).toNat * 7)).off + 3, none⟩ = some (.int .i64 ((rd_T119 l0 x5_1).f1.f1)) ∧ w'.cell? ⟨(ad890.add ((x5_1).toNat * 7)).block, (ad890.add ((x5_1).toNat * 7)).off + 4, none⟩ = some (.string ((rd_T119 l0 x5_1).f2)) ∧ w'.cell? ⟨(ad890.add ((x5_1).toNat * 7)).block, (ad890.add ((x5_1).toNat * 7)).off + 5, none⟩ = some (.string ((rd_T119 l0 x5_1).f3)) ∧ w'.cell? ⟨(ad890.add ((x5_1).toNat * 7)).block, (ad890.add ((x5_1).toNat * 7)).off + 6, none⟩ = some (.string ((rd_T119 l0 x5_1).f4))) (ds := []) #[false, false, false, false, false, false, false, false] (by kernel_rfl) rfl rfl ⟨((HB.out.cell (World.block_lt_of_cell? w _ hw894_0)).trans hw894_0), ((HB.out.cell (World.block_lt_of_cell? w _ hw894_1)).trans hw894_1), ((HB.out.cell (World.block_lt_of_cell? w _ hw894_2)).trans hw894_2), ((HB.out.cell (World.block_lt_of_cell? w _ hw894_3)).trans hw894_3), ((HB.out.cell (World.block_lt_of_cell? w _ hw894_4)).trans hw894_4), ((HB.out.cell (World.block_lt_of_cell? w _ hw894_5)).trans hw894_5), ((HB.out.cell (World.block_lt_of_cell? w _ hw894_6)).trans hw894_6)⟩ (fun hHeld => ?_); refine with_tabW laws_heldBoxConnS.tab16 laws_heldBoxConnS.bits16 (fun HT_ HW_ => ?_)
                        generalize wr.drew = w15 at HB hx894_0 hx894_1 hx894_2 hx894_3 hx894_4 hx894_5 hx894_6 hHeld ⊢
                        refine pure_ (i := 0) (N := some 52) (v := ?_) (a' := ?_) #[true, false, false, false, false, false, false, false] rfl rfl (any_of HT_.out (by kernel_rfl)) (fun _ _ _ h => h) (Or.inl ⟨by rfl, ?_⟩) ?_ ?_
                        rotate_left
                        · intro w'
                          go_simp
                          with_reducible rfl
                        rotate_left
                        · simp only [Act.put, List.setIfInBounds_toArray, List.set_cons_zero, List.set_cons_succ, i64_w, i32_w]
                          rfl
                        refine pure_ (i := 1) (N := some 53) (v := ?_) (a' := ?_) #[true, true, false, false, false, false, false, false] rfl rfl (any_of HT_.out (by kernel_rfl)) (fun _ _ _ h => h) (Or.inl ⟨by rfl, ?_⟩) ?_ ?_
                        rotate_left
                        · intro w'
                          go_simp
                          with_reducible rfl
                        rotate_left
                        · simp only [Act.put, List.setIfInBounds_toArray, List.set_cons_zero, List.set_cons_succ, i64_w, i32_w]
                          rfl
                        refine pure_ (i := 2) (N := some 54) (v := ?_) (a' := ?_) #[true, true, true, false, false, false, false, false] rfl rfl (any_of HT_.out (by kernel_rfl)) (fun _ _ _ h => h) (Or.inl ⟨by rfl, ?_⟩) ?_ ?_
                        rotate_left
                        · intro w'
                          go_simp
                          with_reducible rfl
                        rotate_left
                        · simp only [Act.put, List.setIfInBounds_toArray, List.set_cons_zero, List.set_cons_succ, i64_w, i32_w]
                          rfl
                        refine pure_ (i := 3) (N := some 55) (v := ?_) (a' := ?_) #[true, true, true, true, false, false, false, false] rfl rfl (any_of HT_.out (by kernel_rfl)) (fun _ _ _ h => h) (Or.inl ⟨by rfl, ?_⟩) ?_ ?_
                        rotate_left
                        · intro w'
                          go_simp
                          with_reducible rfl
                        rotate_left
                        · simp only [Act.put, List.setIfInBounds_toArray, List.set_cons_zero, List.set_cons_succ, i64_w, i32_w]
                          rfl
                        refine pure_ (i := 5) (N := some 57) (v := ?_) (a' := ?_) #[true, true, true, true, false, true, false, false] rfl rfl (any_of HT_.out (by kernel_rfl)) (fun _ _ _ h => h) (Or.inl ⟨by rfl, ?_⟩) ?_ ?_
                        rotate_left
                        · intro w'
                          go_simp
                          with_reducible rfl
                        rotate_left
                        · simp only [Act.put, List.setIfInBounds_toArray, List.set_cons_zero, List.set_cons_succ, i64_w, i32_w]
                          rfl
                        refine take_ (i := 4) (N := some 56) (v := ?_) (a' := ?_) #[true, true, true, true, true, true, false, false] rfl rfl (take_ofW HT_.out HW_.out (by kernel_rfl)) (fun _ _ _ h => h) (Or.inl ⟨by rfl, ?_⟩) hHeld ?_ ?_
                        rotate_left
                        · rintro w' ⟨s0, s1, s2, s3, s4, s5, s6⟩
                          go_simp
                          with_reducible rfl
                        rotate_left
                        · simp only [Act.put, List.setIfInBounds_toArray, List.set_cons_zero, List.set_cons_succ, i64_w, i32_w]
                          rfl
                        refine one_ (i := 6) (N := some 58) #[true, true, true, true, true, true, true, false] rfl rfl (one_of HT_.out (by kernel_rfl)) (by decide) (fun K hK => ?_)
                        refine goes_ Try.func99 (by kernel_rfl) rfl #[.int .i64 (wrap64 ((wrap64 ((wrap64 ((wrap64 (x1_1 + 1)) + 1)) + 1)) + 1))] (by rfl) rfl rfl (by (try simp only [List.map_toArray, List.map_cons, List.map_nil]); first | done | rfl | (simp only [List.length_drop, List.length_take]; rfl)) ?_
                        with_reducible refine (laws_markText.calls k1 (wrap64 ((wrap64 ((wrap64 ((wrap64 (x1_1 + 1)) + 1)) + 1)) + 1)) t895 _ A9.out).mono ?_
                        rintro e w16 ⟨rfl, hb⟩
                        refine ⟨_, rfl, ?_⟩
                        have n0_ := Aside0.mk (below_step (bl HB) hb)
                        clear HB
                        have HB := n0_
                        clear n0_
                        (try clear hb)
                        (try clear hb2)
                        (try clear hk)
                        (try clear hi)
                        refine hK.out _ _ ⟨((HB.out.cell (World.block_lt_of_cell? w _ hw894_0)).trans hw894_0), ((HB.out.cell (World.block_lt_of_cell? w _ hw894_1)).trans hw894_1), ((HB.out.cell (World.block_lt_of_cell? w _ hw894_2)).trans hw894_2), ((HB.out.cell (World.block_lt_of_cell? w _ hw894_3)).trans hw894_3), ((HB.out.cell (World.block_lt_of_cell? w _ hw894_4)).trans hw894_4), ((HB.out.cell (World.block_lt_of_cell? w _ hw894_5)).trans hw894_5), ((HB.out.cell (World.block_lt_of_cell? w _ hw894_6)).trans hw894_6)⟩ (fun hHeld => ?_)
                        clear hK K
                        refine norm_ (a' := ?_) ?_ ?_
                        rotate_left
                        · show Act.put _ (some 58) _ = _
                          simp only [Act.put, List.setIfInBounds_toArray, List.set_cons_zero, List.set_cons_succ, i64_w, i32_w]
                          rfl
                        refine pure_ (i := 7) (N := some 59) (v := ?_) (a' := ?_) #[true, true, true, true, true, true, true, true] rfl rfl (any_of HT_.out (by kernel_rfl)) (fun _ _ _ h => h) (Or.inl ⟨by rfl, ?_⟩) ?_ ?_
                        rotate_left
                        · intro w'
                          go_simp
                          with_reducible rfl
                        rotate_left
                        · simp only [Act.put, List.setIfInBounds_toArray, List.set_cons_zero, List.set_cons_succ, i64_w, i32_w]
                          rfl
                        refine done_ (done_of HT_.out (by kernel_rfl)) ?_
                        try go_wp2
                        have n0_ := Aside0.mk (below_drew1 HB.out)
                        clear HB
                        have HB := n0_
                        clear n0_
                        have p896 : 0 ≤ (x5_1 : Int) := of_decide_eq_true (by first | (with_reducible assumption) | assumption)
                        have q896 : x5_1 < (l0.length : Int) := of_decide_eq_true (by first | (with_reducible assumption) | assumption)
                        obtain ⟨ad896, e896, hx896_0, hx896_1, hx896_2, hx896_3, hx896_4, hx896_5, hx896_6⟩ := at_T119 HR0.out x5_1 p896 q896
                        have hw896_6 := hx896_6
                        have hw896_5 := hx896_5
                        have hw896_4 := hx896_4
                        have hw896_3 := hx896_3
                        have hw896_2 := hx896_2
                        have hw896_1 := hx896_1
                        have hw896_0 := hx896_0
                        obtain rfl : ad890 = ad896 := (by injection e896)
                        replace hx896_0 := (HB.out.cell (World.block_lt_of_cell? w _ hx896_0)).trans hx896_0
                        replace hx896_1 := (HB.out.cell (World.block_lt_of_cell? w _ hx896_1)).trans hx896_1
                        replace hx896_2 := (HB.out.cell (World.block_lt_of_cell? w _ hx896_2)).trans hx896_2
                        replace hx896_3 := (HB.out.cell (World.block_lt_of_cell? w _ hx896_3)).trans hx896_3
                        replace hx896_4 := (HB.out.cell (World.block_lt_of_cell? w _ hx896_4)).trans hx896_4
                        replace hx896_5 := (HB.out.cell (World.block_lt_of_cell? w _ hx896_5)).trans hx896_5
                        replace hx896_6 := (HB.out.cell (World.block_lt_of_cell? w _ hx896_6)).trans hx896_6
                        replace p896 := eq_true p896
                        replace q896 := eq_true q896
                        refine start_ (n := 8) (S := fun w' => w'.cell? (ad890.add ((x5_1).toNat * 7)) = some (.int .i64 ((rd_T119 l0 x5_1).f0.f0)) ∧ w'.cell? ⟨(ad890.add ((x5_1).toNat * 7)).block, (ad890.add ((x5_1).toNat * 7)).off + 1, none⟩ = some (.int .i64 ((rd_T119 l0 x5_1).f0.f1)) ∧ w'.cell? ⟨(ad890.add ((x5_1).toNat * 7)).block, (ad890.add ((x5_1).toNat * 7)).off + 2, none⟩ = some (.int .i64 ((rd_T119 l0 x5_1).f1.f0)) ∧ w'.cell? ⟨(ad890.add ((x5_1).toNat * 7)).block, (ad890.add ((x5_1).toNat * 7)).off + 3, none⟩ = some (.int .i64 ((rd_T119 l0 x5_1).f1.f1)) ∧ w'.cell? ⟨(ad890.add ((x5_1).toNat * 7)).block, (ad890.add ((x5_1).toNat * 7)).off + 4, none⟩ = some (.string ((rd_T119 l0 x5_1).f2)) ∧ w'.cell? ⟨(ad890.add ((x5_1).toNat * 7)).block, (ad890.add ((x5_1).toNat * 7)).off + 5, none⟩ = some (.string ((rd_T119 l0 x5_1).f3)) ∧ w'.cell? ⟨(ad890.add ((x5_1).toNat * 7)).block, (ad890.add ((x5_1).toNat * 7)).off + 6, none⟩ = some (.string ((rd_T119 l0 x5_1).f4))) (ds := []) #[false, false, false, false, false, false, false, false] (by kernel_rfl) rfl rfl ⟨((HB.out.cell (World.block_lt_of_cell? w _ hw896_0)).trans hw896_0), ((HB.out.cell (World.block_lt_of_cell? w _ hw896_1)).trans hw896_1), ((HB.out.cell (World.block_lt_of_cell? w _ hw896_2)).trans hw896_2), ((HB.out.cell (World.block_lt_of_cell? w _ hw896_3)).trans hw896_3), ((HB.out.cell (World.block_lt_of_cell? w _ hw896_4)).trans hw896_4), ((HB.out.cell (World.block_lt_of_cell? w _ hw896_5)).trans hw896_5), ((HB.out.cell (World.block_lt_of_cell? w _ hw896_6)).trans hw896_6)⟩ (fun hHeld => ?_); refine with_tabW laws_heldBoxConnS.tab19 laws_heldBoxConnS.bits19 (fun HT_ HW_ => ?_)
                        generalize w16.drew = w17 at HB hx896_0 hx896_1 hx896_2 hx896_3 hx896_4 hx896_5 hx896_6 hHeld ⊢
                        refine pure_ (i := 0) (N := some 62) (v := ?_) (a' := ?_) #[true, false, false, false, false, false, false, false] rfl rfl (any_of HT_.out (by kernel_rfl)) (fun _ _ _ h => h) (Or.inl ⟨by rfl, ?_⟩) ?_ ?_
                        rotate_left
                        · intro w'
                          go_simp
                          with_reducible rfl
                        rotate_left
                        · simp only [Act.put, List.setIfInBounds_toArray, List.set_cons_zero, List.set_cons_succ, i64_w, i32_w]
                          rfl
                        refine pure_ (i := 1) (N := some 63) (v := ?_) (a' := ?_) #[true, true, false, false, false, false, false, false] rfl rfl (any_of HT_.out (by kernel_rfl)) (fun _ _ _ h => h) (Or.inl ⟨by rfl, ?_⟩) ?_ ?_
                        rotate_left
                        · intro w'
                          go_simp
                          with_reducible rfl
                        rotate_left
                        · simp only [Act.put, List.setIfInBounds_toArray, List.set_cons_zero, List.set_cons_succ, i64_w, i32_w]
                          rfl
                        refine pure_ (i := 2) (N := some 64) (v := ?_) (a' := ?_) #[true, true, true, false, false, false, false, false] rfl rfl (any_of HT_.out (by kernel_rfl)) (fun _ _ _ h => h) (Or.inl ⟨by rfl, ?_⟩) ?_ ?_
                        rotate_left
                        · intro w'
                          go_simp
                          with_reducible rfl
                        rotate_left
                        · simp only [Act.put, List.setIfInBounds_toArray, List.set_cons_zero, List.set_cons_succ, i64_w, i32_w]
                          rfl
                        refine pure_ (i := 3) (N := some 65) (v := ?_) (a' := ?_) #[true, true, true, true, false, false, false, false] rfl rfl (any_of HT_.out (by kernel_rfl)) (fun _ _ _ h => h) (Or.inl ⟨by rfl, ?_⟩) ?_ ?_
                        rotate_left
                        · intro w'
                          go_simp
                          with_reducible rfl
                        rotate_left
                        · simp only [Act.put, List.setIfInBounds_toArray, List.set_cons_zero, List.set_cons_succ, i64_w, i32_w]
                          rfl
                        refine pure_ (i := 5) (N := some 67) (v := ?_) (a' := ?_) #[true, true, true, true, false, true, false, false] rfl rfl (any_of HT_.out (by kernel_rfl)) (fun _ _ _ h => h) (Or.inl ⟨by rfl, ?_⟩) ?_ ?_
                        rotate_left
                        · intro w'
                          go_simp
                          with_reducible rfl
                        rotate_left
                        · simp only [Act.put, List.setIfInBounds_toArray, List.set_cons_zero, List.set_cons_succ, i64_w, i32_w]
                          rfl
                        refine take_ (i := 4) (N := some 66) (v := ?_) (a' := ?_) #[true, true, true, true, true, true, false, false] rfl rfl (take_ofW HT_.out HW_.out (by kernel_rfl)) (fun _ _ _ h => h) (Or.inl ⟨by rfl, ?_⟩) hHeld ?_ ?_
                        rotate_left
                        · rintro w' ⟨s0, s1, s2, s3, s4, s5, s6⟩
                          go_simp
                          with_reducible rfl
                        rotate_left
                        · simp only [Act.put, List.setIfInBounds_toArray, List.set_cons_zero, List.set_cons_succ, i64_w, i32_w]
                          rfl
                        refine one_ (i := 6) (N := some 68) #[true, true, true, true, true, true, true, false] rfl rfl (one_of HT_.out (by kernel_rfl)) (by decide) (fun K hK => ?_)
                        refine goes_ Try.func99 (by kernel_rfl) rfl #[.int .i64 (wrap64 ((wrap64 ((wrap64 ((wrap64 ((wrap64 (x1_1 + 1)) + 1)) + 1)) + 1)) + 1))] (by rfl) rfl rfl (by (try simp only [List.map_toArray, List.map_cons, List.map_nil]); first | done | rfl | (simp only [List.length_drop, List.length_take]; rfl)) ?_
                        with_reducible refine (laws_markText.calls k1 (wrap64 ((wrap64 ((wrap64 ((wrap64 ((wrap64 (x1_1 + 1)) + 1)) + 1)) + 1)) + 1)) t897 _ A11.out).mono ?_
                        rintro e w18 ⟨rfl, hb⟩
                        refine ⟨_, rfl, ?_⟩
                        have n0_ := Aside0.mk (below_step (bl HB) hb)
                        clear HB
                        have HB := n0_
                        clear n0_
                        (try clear hb)
                        (try clear hb2)
                        (try clear hk)
                        (try clear hi)
                        refine hK.out _ _ ⟨((HB.out.cell (World.block_lt_of_cell? w _ hw896_0)).trans hw896_0), ((HB.out.cell (World.block_lt_of_cell? w _ hw896_1)).trans hw896_1), ((HB.out.cell (World.block_lt_of_cell? w _ hw896_2)).trans hw896_2), ((HB.out.cell (World.block_lt_of_cell? w _ hw896_3)).trans hw896_3), ((HB.out.cell (World.block_lt_of_cell? w _ hw896_4)).trans hw896_4), ((HB.out.cell (World.block_lt_of_cell? w _ hw896_5)).trans hw896_5), ((HB.out.cell (World.block_lt_of_cell? w _ hw896_6)).trans hw896_6)⟩ (fun hHeld => ?_)
                        clear hK K
                        refine norm_ (a' := ?_) ?_ ?_
                        rotate_left
                        · show Act.put _ (some 68) _ = _
                          simp only [Act.put, List.setIfInBounds_toArray, List.set_cons_zero, List.set_cons_succ, i64_w, i32_w]
                          rfl
                        refine pure_ (i := 7) (N := some 69) (v := ?_) (a' := ?_) #[true, true, true, true, true, true, true, true] rfl rfl (any_of HT_.out (by kernel_rfl)) (fun _ _ _ h => h) (Or.inl ⟨by rfl, ?_⟩) ?_ ?_
                        rotate_left
                        · intro w'
                          go_simp
                          with_reducible rfl
                        rotate_left
                        · simp only [Act.put, List.setIfInBounds_toArray, List.set_cons_zero, List.set_cons_succ, i64_w, i32_w]
                          rfl
                        refine done_ (done_of HT_.out (by kernel_rfl)) ?_
                        try go_wp2
                        have n0_ := Aside0.mk (below_drew1 HB.out)
                        clear HB
                        have HB := n0_
                        clear n0_
                        have p898 : 0 ≤ (x5_1 : Int) := of_decide_eq_true (by first | (with_reducible assumption) | assumption)
                        have q898 : x5_1 < (l0.length : Int) := of_decide_eq_true (by first | (with_reducible assumption) | assumption)
                        obtain ⟨ad898, e898, hx898_0, hx898_1, hx898_2, hx898_3, hx898_4, hx898_5, hx898_6⟩ := at_T119 HR0.out x5_1 p898 q898
                        have hw898_6 := hx898_6
                        have hw898_5 := hx898_5
                        have hw898_4 := hx898_4
                        have hw898_3 := hx898_3
                        have hw898_2 := hx898_2
                        have hw898_1 := hx898_1
                        have hw898_0 := hx898_0
                        obtain rfl : ad890 = ad898 := (by injection e898)
                        replace hx898_0 := (HB.out.cell (World.block_lt_of_cell? w _ hx898_0)).trans hx898_0
                        replace hx898_1 := (HB.out.cell (World.block_lt_of_cell? w _ hx898_1)).trans hx898_1
                        replace hx898_2 := (HB.out.cell (World.block_lt_of_cell? w _ hx898_2)).trans hx898_2
                        replace hx898_3 := (HB.out.cell (World.block_lt_of_cell? w _ hx898_3)).trans hx898_3
                        replace hx898_4 := (HB.out.cell (World.block_lt_of_cell? w _ hx898_4)).trans hx898_4
                        replace hx898_5 := (HB.out.cell (World.block_lt_of_cell? w _ hx898_5)).trans hx898_5
                        replace hx898_6 := (HB.out.cell (World.block_lt_of_cell? w _ hx898_6)).trans hx898_6
                        replace p898 := eq_true p898
                        replace q898 := eq_true q898
                        refine start_ (n := 8) (S := fun w' => w'.cell? (ad890.add ((x5_1).toNat * 7)) = some (.int .i64 ((rd_T119 l0 x5_1).f0.f0)) ∧ w'.cell? ⟨(ad890.add ((x5_1).toNat * 7)).block, (ad890.add ((x5_1).toNat * 7)).off + 1, none⟩ = some (.int .i64 ((rd_T119 l0 x5_1).f0.f1)) ∧ w'.cell? ⟨(ad890.add ((x5_1).toNat * 7)).block, (ad890.add ((x5_1).toNat * 7)).off + 2, none⟩ = some (.int .i64 ((rd_T119 l0 x5_1).f1.f0)) ∧ w'.cell? ⟨(ad890.add ((x5_1).toNat * 7)).block, (ad890.add ((x5_1).toNat * 7)).off + 3, none⟩ = some (.int .i64 ((rd_T119 l0 x5_1).f1.f1)) ∧ w'.cell? ⟨(ad890.add ((x5_1).toNat * 7)).block, (ad890.add ((x5_1).toNat * 7)).off + 4, none⟩ = some (.string ((rd_T119 l0 x5_1).f2)) ∧ w'.cell? ⟨(ad890.add ((x5_1).toNat * 7)).block, (ad890.add ((x5_1).toNat * 7)).off + 5, none⟩ = some (.string ((rd_T119 l0 x5_1).f3)) ∧ w'.cell? ⟨(ad890.add ((x5_1).toNat * 7)).block, (ad890.add ((x5_1).toNat * 7)).off + 6, none⟩ = some (.string ((rd_T119 l0 x5_1).f4))) (ds := []) #[false, false, false, false, false, false, false, false] (by kernel_rfl) rfl rfl ⟨((HB.out.cell (World.block_lt_of_cell? w _ hw898_0)).trans hw898_0), ((HB.out.cell (World.block_lt_of_cell? w _ hw898_1)).trans hw898_1), ((HB.out.cell (World.block_lt_of_cell? w _ hw898_2)).trans hw898_2), ((HB.out.cell (World.block_lt_of_cell? w _ hw898_3)).trans hw898_3), ((HB.out.cell (World.block_lt_of_cell? w _ hw898_4)).trans hw898_4), ((HB.out.cell (World.block_lt_of_cell? w _ hw898_5)).trans hw898_5), ((HB.out.cell (World.block_lt_of_cell? w _ hw898_6)).trans hw898_6)⟩ (fun hHeld => ?_); refine with_tabW laws_heldBoxConnS.tab22 laws_heldBoxConnS.bits22 (fun HT_ HW_ => ?_)
                        generalize w18.drew = w19 at HB hx898_0 hx898_1 hx898_2 hx898_3 hx898_4 hx898_5 hx898_6 hHeld ⊢
                        refine pure_ (i := 0) (N := some 72) (v := ?_) (a' := ?_) #[true, false, false, false, false, false, false, false] rfl rfl (any_of HT_.out (by kernel_rfl)) (fun _ _ _ h => h) (Or.inl ⟨by rfl, ?_⟩) ?_ ?_
                        rotate_left
                        · intro w'
                          go_simp
                          with_reducible rfl
                        rotate_left
                        · simp only [Act.put, List.setIfInBounds_toArray, List.set_cons_zero, List.set_cons_succ, i64_w, i32_w]
                          rfl
                        refine pure_ (i := 1) (N := some 73) (v := ?_) (a' := ?_) #[true, true, false, false, false, false, false, false] rfl rfl (any_of HT_.out (by kernel_rfl)) (fun _ _ _ h => h) (Or.inl ⟨by rfl, ?_⟩) ?_ ?_
                        rotate_left
                        · intro w'
                          go_simp
                          with_reducible rfl
                        rotate_left
                        · simp only [Act.put, List.setIfInBounds_toArray, List.set_cons_zero, List.set_cons_succ, i64_w, i32_w]
                          rfl
                        refine pure_ (i := 2) (N := some 74) (v := ?_) (a' := ?_) #[true, true, true, false, false, false, false, false] rfl rfl (any_of HT_.out (by kernel_rfl)) (fun _ _ _ h => h) (Or.inl ⟨by rfl, ?_⟩) ?_ ?_
                        rotate_left
                        · intro w'
                          go_simp
                          with_reducible rfl
                        rotate_left
                        · simp only [Act.put, List.setIfInBounds_toArray, List.set_cons_zero, List.set_cons_succ, i64_w, i32_w]
                          rfl
                        refine pure_ (i := 3) (N := some 75) (v := ?_) (a' := ?_) #[true, true, true, true, false, false, false, false] rfl rfl (any_of HT_.out (by kernel_rfl)) (fun _ _ _ h => h) (Or.inl ⟨by rfl, ?_⟩) ?_ ?_
                        rotate_left
                        · intro w'
                          go_simp
                          with_reducible rfl
                        rotate_left
                        · simp only [Act.put, List.setIfInBounds_toArray, List.set_cons_zero, List.set_cons_succ, i64_w, i32_w]
                          rfl
                        refine pure_ (i := 5) (N := some 77) (v := ?_) (a' := ?_) #[true, true, true, true, false, true, false, false] rfl rfl (any_of HT_.out (by kernel_rfl)) (fun _ _ _ h => h) (Or.inl ⟨by rfl, ?_⟩) ?_ ?_
                        rotate_left
                        · intro w'
                          go_simp
                          with_reducible rfl
                        rotate_left
                        · simp only [Act.put, List.setIfInBounds_toArray, List.set_cons_zero, List.set_cons_succ, i64_w, i32_w]
                          rfl
                        refine take_ (i := 4) (N := some 76) (v := ?_) (a' := ?_) #[true, true, true, true, true, true, false, false] rfl rfl (take_ofW HT_.out HW_.out (by kernel_rfl)) (fun _ _ _ h => h) (Or.inl ⟨by rfl, ?_⟩) hHeld ?_ ?_
                        rotate_left
                        · rintro w' ⟨s0, s1, s2, s3, s4, s5, s6⟩
                          go_simp
                          with_reducible rfl
                        rotate_left
                        · simp only [Act.put, List.setIfInBounds_toArray, List.set_cons_zero, List.set_cons_succ, i64_w, i32_w]
                          rfl
                        refine one_ (i := 6) (N := some 78) #[true, true, true, true, true, true, true, false] rfl rfl (one_of HT_.out (by kernel_rfl)) (by decide) (fun K hK => ?_)
                        refine goes_ Try.func99 (by kernel_rfl) rfl #[.int .i64 (wrap64 ((wrap64 ((wrap64 ((wrap64 ((wrap64 ((wrap64 (x1_1 + 1)) + 1)) + 1)) + 1)) + 1)) + 1))] (by rfl) rfl rfl (by (try simp only [List.map_toArray, List.map_cons, List.map_nil]); first | done | rfl | (simp only [List.length_drop, List.length_take]; rfl)) ?_
                        with_reducible refine (laws_markText.calls k1 (wrap64 ((wrap64 ((wrap64 ((wrap64 ((wrap64 ((wrap64 (x1_1 + 1)) + 1)) + 1)) + 1)) + 1)) + 1)) t899 _ A13.out).mono ?_
                        rintro e w20 ⟨rfl, hb⟩
                        refine ⟨_, rfl, ?_⟩
                        have n0_ := Aside0.mk (below_step (bl HB) hb)
                        clear HB
                        have HB := n0_
                        clear n0_
                        (try clear hb)
                        (try clear hb2)
                        (try clear hk)
                        (try clear hi)
                        refine hK.out _ _ ⟨((HB.out.cell (World.block_lt_of_cell? w _ hw898_0)).trans hw898_0), ((HB.out.cell (World.block_lt_of_cell? w _ hw898_1)).trans hw898_1), ((HB.out.cell (World.block_lt_of_cell? w _ hw898_2)).trans hw898_2), ((HB.out.cell (World.block_lt_of_cell? w _ hw898_3)).trans hw898_3), ((HB.out.cell (World.block_lt_of_cell? w _ hw898_4)).trans hw898_4), ((HB.out.cell (World.block_lt_of_cell? w _ hw898_5)).trans hw898_5), ((HB.out.cell (World.block_lt_of_cell? w _ hw898_6)).trans hw898_6)⟩ (fun hHeld => ?_)
                        clear hK K
                        refine norm_ (a' := ?_) ?_ ?_
                        rotate_left
                        · show Act.put _ (some 78) _ = _
                          simp only [Act.put, List.setIfInBounds_toArray, List.set_cons_zero, List.set_cons_succ, i64_w, i32_w]
                          rfl
                        refine pure_ (i := 7) (N := some 79) (v := ?_) (a' := ?_) #[true, true, true, true, true, true, true, true] rfl rfl (any_of HT_.out (by kernel_rfl)) (fun _ _ _ h => h) (Or.inl ⟨by rfl, ?_⟩) ?_ ?_
                        rotate_left
                        · intro w'
                          go_simp
                          with_reducible rfl
                        rotate_left
                        · simp only [Act.put, List.setIfInBounds_toArray, List.set_cons_zero, List.set_cons_succ, i64_w, i32_w]
                          rfl
                        refine done_ (done_of HT_.out (by kernel_rfl)) ?_
                        try go_wp2
                        go_roundg k1
                        case measure => have := HK1.out; omega
                        case rel => exact ⟨(wrap64 ((wrap64 ((wrap64 ((wrap64 ((wrap64 ((wrap64 ((wrap64 (x1_1 + 1)) + 1)) + 1)) + 1)) + 1)) + 1)) + 1)), (wrap64 (x5_1 + 1)), (by first | rfl | (simp; done) | (simp [*]; done)), (by first | rfl | (simp; done) | (simp [*]; done)), H', ⟨by have := HK1.out; omega⟩, ⟨by repeat (first | (with_reducible first | exact HB.out | apply below_alloc | apply pw_below_drewN | apply below_drew1) | exact HB.out)⟩⟩
                      · rw [if_neg c14] at H
                        have c14b0 : (((rd_T119 l0 x5_1).f4).toList == t899.toList) = false := beq_eq_false_iff_ne.mpr c14
                        have c14b1 : (((rd_T119 l0 x5_1).f4).toList != t899.toList) = true := bne_iff_ne.mpr c14
                        obtain rfl := Option.some.inj H
                        have p890 : 0 ≤ (x5_1 : Int) := of_decide_eq_true (by first | (with_reducible assumption) | assumption)
                        have q890 : x5_1 < (l0.length : Int) := of_decide_eq_true (by first | (with_reducible assumption) | assumption)
                        obtain ⟨ad890, e890, hx890_0, hx890_1, hx890_2, hx890_3, hx890_4, hx890_5, hx890_6⟩ := at_T119 HR0.out x5_1 p890 q890
                        cases e890
                        replace hx890_0 := (HB.out.cell (World.block_lt_of_cell? w _ hx890_0)).trans hx890_0
                        replace hx890_1 := (HB.out.cell (World.block_lt_of_cell? w _ hx890_1)).trans hx890_1
                        replace hx890_2 := (HB.out.cell (World.block_lt_of_cell? w _ hx890_2)).trans hx890_2
                        replace hx890_3 := (HB.out.cell (World.block_lt_of_cell? w _ hx890_3)).trans hx890_3
                        replace hx890_4 := (HB.out.cell (World.block_lt_of_cell? w _ hx890_4)).trans hx890_4
                        replace hx890_5 := (HB.out.cell (World.block_lt_of_cell? w _ hx890_5)).trans hx890_5
                        replace hx890_6 := (HB.out.cell (World.block_lt_of_cell? w _ hx890_6)).trans hx890_6
                        replace p890 := eq_true p890
                        replace q890 := eq_true q890
                        have p891 : 0 ≤ (x5_1 : Int) := of_decide_eq_true (by first | (with_reducible assumption) | assumption)
                        have q891 : x5_1 < (l0.length : Int) := of_decide_eq_true (by first | (with_reducible assumption) | assumption)
                        obtain ⟨ad891, e891, hx891_0, hx891_1, hx891_2, hx891_3, hx891_4, hx891_5, hx891_6⟩ := at_T119 HR0.out x5_1 p891 q891
                        obtain rfl : ad890 = ad891 := (by injection e891)
                        replace hx891_0 := (HB.out.cell (World.block_lt_of_cell? w _ hx891_0)).trans hx891_0
                        replace hx891_1 := (HB.out.cell (World.block_lt_of_cell? w _ hx891_1)).trans hx891_1
                        replace hx891_2 := (HB.out.cell (World.block_lt_of_cell? w _ hx891_2)).trans hx891_2
                        replace hx891_3 := (HB.out.cell (World.block_lt_of_cell? w _ hx891_3)).trans hx891_3
                        replace hx891_4 := (HB.out.cell (World.block_lt_of_cell? w _ hx891_4)).trans hx891_4
                        replace hx891_5 := (HB.out.cell (World.block_lt_of_cell? w _ hx891_5)).trans hx891_5
                        replace hx891_6 := (HB.out.cell (World.block_lt_of_cell? w _ hx891_6)).trans hx891_6
                        replace p891 := eq_true p891
                        replace q891 := eq_true q891
                        have p892 : 0 ≤ (x5_1 : Int) := of_decide_eq_true (by first | (with_reducible assumption) | assumption)
                        have q892 : x5_1 < (l0.length : Int) := of_decide_eq_true (by first | (with_reducible assumption) | assumption)
                        obtain ⟨ad892, e892, hx892_0, hx892_1, hx892_2, hx892_3, hx892_4, hx892_5, hx892_6⟩ := at_T119 HR0.out x5_1 p892 q892
                        obtain rfl : ad890 = ad892 := (by injection e892)
                        replace hx892_0 := (HB.out.cell (World.block_lt_of_cell? w _ hx892_0)).trans hx892_0
                        replace hx892_1 := (HB.out.cell (World.block_lt_of_cell? w _ hx892_1)).trans hx892_1
                        replace hx892_2 := (HB.out.cell (World.block_lt_of_cell? w _ hx892_2)).trans hx892_2
                        replace hx892_3 := (HB.out.cell (World.block_lt_of_cell? w _ hx892_3)).trans hx892_3
                        replace hx892_4 := (HB.out.cell (World.block_lt_of_cell? w _ hx892_4)).trans hx892_4
                        replace hx892_5 := (HB.out.cell (World.block_lt_of_cell? w _ hx892_5)).trans hx892_5
                        replace hx892_6 := (HB.out.cell (World.block_lt_of_cell? w _ hx892_6)).trans hx892_6
                        replace p892 := eq_true p892
                        replace q892 := eq_true q892
                        have p893 : 0 ≤ (x5_1 : Int) := of_decide_eq_true (by first | (with_reducible assumption) | assumption)
                        have q893 : x5_1 < (l0.length : Int) := of_decide_eq_true (by first | (with_reducible assumption) | assumption)
                        obtain ⟨ad893, e893, hx893_0, hx893_1, hx893_2, hx893_3, hx893_4, hx893_5, hx893_6⟩ := at_T119 HR0.out x5_1 p893 q893
                        obtain rfl : ad890 = ad893 := (by injection e893)
                        replace hx893_0 := (HB.out.cell (World.block_lt_of_cell? w _ hx893_0)).trans hx893_0
                        replace hx893_1 := (HB.out.cell (World.block_lt_of_cell? w _ hx893_1)).trans hx893_1
                        replace hx893_2 := (HB.out.cell (World.block_lt_of_cell? w _ hx893_2)).trans hx893_2
                        replace hx893_3 := (HB.out.cell (World.block_lt_of_cell? w _ hx893_3)).trans hx893_3
                        replace hx893_4 := (HB.out.cell (World.block_lt_of_cell? w _ hx893_4)).trans hx893_4
                        replace hx893_5 := (HB.out.cell (World.block_lt_of_cell? w _ hx893_5)).trans hx893_5
                        replace hx893_6 := (HB.out.cell (World.block_lt_of_cell? w _ hx893_6)).trans hx893_6
                        replace p893 := eq_true p893
                        replace q893 := eq_true q893
                        try go_wp2
                        have n0_ := Aside0.mk (below_drew1 HB.out)
                        clear HB
                        have HB := n0_
                        clear n0_
                        have p894 : 0 ≤ (x5_1 : Int) := of_decide_eq_true (by first | (with_reducible assumption) | assumption)
                        have q894 : x5_1 < (l0.length : Int) := of_decide_eq_true (by first | (with_reducible assumption) | assumption)
                        obtain ⟨ad894, e894, hx894_0, hx894_1, hx894_2, hx894_3, hx894_4, hx894_5, hx894_6⟩ := at_T119 HR0.out x5_1 p894 q894
                        have hw894_6 := hx894_6
                        have hw894_5 := hx894_5
                        have hw894_4 := hx894_4
                        have hw894_3 := hx894_3
                        have hw894_2 := hx894_2
                        have hw894_1 := hx894_1
                        have hw894_0 := hx894_0
                        obtain rfl : ad890 = ad894 := (by injection e894)
                        replace hx894_0 := (HB.out.cell (World.block_lt_of_cell? w _ hx894_0)).trans hx894_0
                        replace hx894_1 := (HB.out.cell (World.block_lt_of_cell? w _ hx894_1)).trans hx894_1
                        replace hx894_2 := (HB.out.cell (World.block_lt_of_cell? w _ hx894_2)).trans hx894_2
                        replace hx894_3 := (HB.out.cell (World.block_lt_of_cell? w _ hx894_3)).trans hx894_3
                        replace hx894_4 := (HB.out.cell (World.block_lt_of_cell? w _ hx894_4)).trans hx894_4
                        replace hx894_5 := (HB.out.cell (World.block_lt_of_cell? w _ hx894_5)).trans hx894_5
                        replace hx894_6 := (HB.out.cell (World.block_lt_of_cell? w _ hx894_6)).trans hx894_6
                        replace p894 := eq_true p894
                        replace q894 := eq_true q894
                        refine start_ (n := 8) (S := fun w' => w'.cell? (ad890.add ((x5_1).toNat * 7)) = some (.int .i64 ((rd_T119 l0 x5_1).f0.f0)) ∧ w'.cell? ⟨(ad890.add ((x5_1).toNat * 7)).block, (ad890.add ((x5_1).toNat * 7)).off + 1, none⟩ = some (.int .i64 ((rd_T119 l0 x5_1).f0.f1)) ∧ w'.cell? ⟨(ad890.add ((x5_1).toNat * 7)).block, (ad890.add ((x5_1).toNat * 7)).off + 2, none⟩ = some (.int .i64 ((rd_T119 l0 x5_1).f1.f0)) ∧ w'.cell? ⟨(ad890.add ((x5_1).toNat * 7)).block, (ad890.add ((x5_1).toNat * 7)).off + 3, none⟩ = some (.int .i64 ((rd_T119 l0 x5_1).f1.f1)) ∧ w'.cell? ⟨(ad890.add ((x5_1).toNat * 7)).block, (ad890.add ((x5_1).toNat * 7)).off + 4, none⟩ = some (.string ((rd_T119 l0 x5_1).f2)) ∧ w'.cell? ⟨(ad890.add ((x5_1).toNat * 7)).block, (ad890.add ((x5_1).toNat * 7)).off + 5, none⟩ = some (.string ((rd_T119 l0 x5_1).f3)) ∧ w'.cell? ⟨(ad890.add ((x5_1).toNat * 7)).block, (ad890.add ((x5_1).toNat * 7)).off + 6, none⟩ = some (.string ((rd_T119 l0 x5_1).f4))) (ds := []) #[false, false, false, false, false, false, false, false] (by kernel_rfl) rfl rfl ⟨((HB.out.cell (World.block_lt_of_cell? w _ hw894_0)).trans hw894_0), ((HB.out.cell (World.block_lt_of_cell? w _ hw894_1)).trans hw894_1), ((HB.out.cell (World.block_lt_of_cell? w _ hw894_2)).trans hw894_2), ((HB.out.cell (World.block_lt_of_cell? w _ hw894_3)).trans hw894_3), ((HB.out.cell (World.block_lt_of_cell? w _ hw894_4)).trans hw894_4), ((HB.out.cell (World.block_lt_of_cell? w _ hw894_5)).trans hw894_5), ((HB.out.cell (World.block_lt_of_cell? w _ hw894_6)).trans hw894_6)⟩ (fun hHeld => ?_); refine with_tabW laws_heldBoxConnS.tab16 laws_heldBoxConnS.bits16 (fun HT_ HW_ => ?_)
                        generalize wr.drew = w21 at HB hx894_0 hx894_1 hx894_2 hx894_3 hx894_4 hx894_5 hx894_6 hHeld ⊢
                        refine pure_ (i := 0) (N := some 52) (v := ?_) (a' := ?_) #[true, false, false, false, false, false, false, false] rfl rfl (any_of HT_.out (by kernel_rfl)) (fun _ _ _ h => h) (Or.inl ⟨by rfl, ?_⟩) ?_ ?_
                        rotate_left
                        · intro w'
                          go_simp
                          with_reducible rfl
                        rotate_left
                        · simp only [Act.put, List.setIfInBounds_toArray, List.set_cons_zero, List.set_cons_succ, i64_w, i32_w]
                          rfl
                        refine pure_ (i := 1) (N := some 53) (v := ?_) (a' := ?_) #[true, true, false, false, false, false, false, false] rfl rfl (any_of HT_.out (by kernel_rfl)) (fun _ _ _ h => h) (Or.inl ⟨by rfl, ?_⟩) ?_ ?_
                        rotate_left
                        · intro w'
                          go_simp
                          with_reducible rfl
                        rotate_left
                        · simp only [Act.put, List.setIfInBounds_toArray, List.set_cons_zero, List.set_cons_succ, i64_w, i32_w]
                          rfl
                        refine pure_ (i := 2) (N := some 54) (v := ?_) (a' := ?_) #[true, true, true, false, false, false, false, false] rfl rfl (any_of HT_.out (by kernel_rfl)) (fun _ _ _ h => h) (Or.inl ⟨by rfl, ?_⟩) ?_ ?_
                        rotate_left
                        · intro w'
                          go_simp
                          with_reducible rfl
                        rotate_left
                        · simp only [Act.put, List.setIfInBounds_toArray, List.set_cons_zero, List.set_cons_succ, i64_w, i32_w]
                          rfl
                        refine pure_ (i := 3) (N := some 55) (v := ?_) (a' := ?_) #[true, true, true, true, false, false, false, false] rfl rfl (any_of HT_.out (by kernel_rfl)) (fun _ _ _ h => h) (Or.inl ⟨by rfl, ?_⟩) ?_ ?_
                        rotate_left
                        · intro w'
                          go_simp
                          with_reducible rfl
                        rotate_left
                        · simp only [Act.put, List.setIfInBounds_toArray, List.set_cons_zero, List.set_cons_succ, i64_w, i32_w]
                          rfl
                        refine pure_ (i := 5) (N := some 57) (v := ?_) (a' := ?_) #[true, true, true, true, false, true, false, false] rfl rfl (any_of HT_.out (by kernel_rfl)) (fun _ _ _ h => h) (Or.inl ⟨by rfl, ?_⟩) ?_ ?_
                        rotate_left
                        · intro w'
                          go_simp
                          with_reducible rfl
                        rotate_left
                        · simp only [Act.put, List.setIfInBounds_toArray, List.set_cons_zero, List.set_cons_succ, i64_w, i32_w]
                          rfl
                        refine take_ (i := 4) (N := some 56) (v := ?_) (a' := ?_) #[true, true, true, true, true, true, false, false] rfl rfl (take_ofW HT_.out HW_.out (by kernel_rfl)) (fun _ _ _ h => h) (Or.inl ⟨by rfl, ?_⟩) hHeld ?_ ?_
                        rotate_left
                        · rintro w' ⟨s0, s1, s2, s3, s4, s5, s6⟩
                          go_simp
                          with_reducible rfl
                        rotate_left
                        · simp only [Act.put, List.setIfInBounds_toArray, List.set_cons_zero, List.set_cons_succ, i64_w, i32_w]
                          rfl
                        refine one_ (i := 6) (N := some 58) #[true, true, true, true, true, true, true, false] rfl rfl (one_of HT_.out (by kernel_rfl)) (by decide) (fun K hK => ?_)
                        refine goes_ Try.func99 (by kernel_rfl) rfl #[.int .i64 (wrap64 ((wrap64 ((wrap64 ((wrap64 (x1_1 + 1)) + 1)) + 1)) + 1))] (by rfl) rfl rfl (by (try simp only [List.map_toArray, List.map_cons, List.map_nil]); first | done | rfl | (simp only [List.length_drop, List.length_take]; rfl)) ?_
                        with_reducible refine (laws_markText.calls k1 (wrap64 ((wrap64 ((wrap64 ((wrap64 (x1_1 + 1)) + 1)) + 1)) + 1)) t895 _ A9.out).mono ?_
                        rintro e w22 ⟨rfl, hb⟩
                        refine ⟨_, rfl, ?_⟩
                        have n0_ := Aside0.mk (below_step (bl HB) hb)
                        clear HB
                        have HB := n0_
                        clear n0_
                        (try clear hb)
                        (try clear hb2)
                        (try clear hk)
                        (try clear hi)
                        refine hK.out _ _ ⟨((HB.out.cell (World.block_lt_of_cell? w _ hw894_0)).trans hw894_0), ((HB.out.cell (World.block_lt_of_cell? w _ hw894_1)).trans hw894_1), ((HB.out.cell (World.block_lt_of_cell? w _ hw894_2)).trans hw894_2), ((HB.out.cell (World.block_lt_of_cell? w _ hw894_3)).trans hw894_3), ((HB.out.cell (World.block_lt_of_cell? w _ hw894_4)).trans hw894_4), ((HB.out.cell (World.block_lt_of_cell? w _ hw894_5)).trans hw894_5), ((HB.out.cell (World.block_lt_of_cell? w _ hw894_6)).trans hw894_6)⟩ (fun hHeld => ?_)
                        clear hK K
                        refine norm_ (a' := ?_) ?_ ?_
                        rotate_left
                        · show Act.put _ (some 58) _ = _
                          simp only [Act.put, List.setIfInBounds_toArray, List.set_cons_zero, List.set_cons_succ, i64_w, i32_w]
                          rfl
                        refine pure_ (i := 7) (N := some 59) (v := ?_) (a' := ?_) #[true, true, true, true, true, true, true, true] rfl rfl (any_of HT_.out (by kernel_rfl)) (fun _ _ _ h => h) (Or.inl ⟨by rfl, ?_⟩) ?_ ?_
                        rotate_left
                        · intro w'
                          go_simp
                          with_reducible rfl
                        rotate_left
                        · simp only [Act.put, List.setIfInBounds_toArray, List.set_cons_zero, List.set_cons_succ, i64_w, i32_w]
                          rfl
                        refine done_ (done_of HT_.out (by kernel_rfl)) ?_
                        try go_wp2
                        have n0_ := Aside0.mk (below_drew1 HB.out)
                        clear HB
                        have HB := n0_
                        clear n0_
                        have p896 : 0 ≤ (x5_1 : Int) := of_decide_eq_true (by first | (with_reducible assumption) | assumption)
                        have q896 : x5_1 < (l0.length : Int) := of_decide_eq_true (by first | (with_reducible assumption) | assumption)
                        obtain ⟨ad896, e896, hx896_0, hx896_1, hx896_2, hx896_3, hx896_4, hx896_5, hx896_6⟩ := at_T119 HR0.out x5_1 p896 q896
                        have hw896_6 := hx896_6
                        have hw896_5 := hx896_5
                        have hw896_4 := hx896_4
                        have hw896_3 := hx896_3
                        have hw896_2 := hx896_2
                        have hw896_1 := hx896_1
                        have hw896_0 := hx896_0
                        obtain rfl : ad890 = ad896 := (by injection e896)
                        replace hx896_0 := (HB.out.cell (World.block_lt_of_cell? w _ hx896_0)).trans hx896_0
                        replace hx896_1 := (HB.out.cell (World.block_lt_of_cell? w _ hx896_1)).trans hx896_1
                        replace hx896_2 := (HB.out.cell (World.block_lt_of_cell? w _ hx896_2)).trans hx896_2
                        replace hx896_3 := (HB.out.cell (World.block_lt_of_cell? w _ hx896_3)).trans hx896_3
                        replace hx896_4 := (HB.out.cell (World.block_lt_of_cell? w _ hx896_4)).trans hx896_4
                        replace hx896_5 := (HB.out.cell (World.block_lt_of_cell? w _ hx896_5)).trans hx896_5
                        replace hx896_6 := (HB.out.cell (World.block_lt_of_cell? w _ hx896_6)).trans hx896_6
                        replace p896 := eq_true p896
                        replace q896 := eq_true q896
                        refine start_ (n := 8) (S := fun w' => w'.cell? (ad890.add ((x5_1).toNat * 7)) = some (.int .i64 ((rd_T119 l0 x5_1).f0.f0)) ∧ w'.cell? ⟨(ad890.add ((x5_1).toNat * 7)).block, (ad890.add ((x5_1).toNat * 7)).off + 1, none⟩ = some (.int .i64 ((rd_T119 l0 x5_1).f0.f1)) ∧ w'.cell? ⟨(ad890.add ((x5_1).toNat * 7)).block, (ad890.add ((x5_1).toNat * 7)).off + 2, none⟩ = some (.int .i64 ((rd_T119 l0 x5_1).f1.f0)) ∧ w'.cell? ⟨(ad890.add ((x5_1).toNat * 7)).block, (ad890.add ((x5_1).toNat * 7)).off + 3, none⟩ = some (.int .i64 ((rd_T119 l0 x5_1).f1.f1)) ∧ w'.cell? ⟨(ad890.add ((x5_1).toNat * 7)).block, (ad890.add ((x5_1).toNat * 7)).off + 4, none⟩ = some (.string ((rd_T119 l0 x5_1).f2)) ∧ w'.cell? ⟨(ad890.add ((x5_1).toNat * 7)).block, (ad890.add ((x5_1).toNat * 7)).off + 5, none⟩ = some (.string ((rd_T119 l0 x5_1).f3)) ∧ w'.cell? ⟨(ad890.add ((x5_1).toNat * 7)).block, (ad890.add ((x5_1).toNat * 7)).off + 6, none⟩ = some (.string ((rd_T119 l0 x5_1).f4))) (ds := []) #[false, false, false, false, false, false, false, false] (by kernel_rfl) rfl rfl ⟨((HB.out.cell (World.block_lt_of_cell? w _ hw896_0)).trans hw896_0), ((HB.out.cell (World.block_lt_of_cell? w _ hw896_1)).trans hw896_1), ((HB.out.cell (World.block_lt_of_cell? w _ hw896_2)).trans hw896_2), ((HB.out.cell (World.block_lt_of_cell? w _ hw896_3)).trans hw896_3), ((HB.out.cell (World.block_lt_of_cell? w _ hw896_4)).trans hw896_4), ((HB.out.cell (World.block_lt_of_cell? w _ hw896_5)).trans hw896_5), ((HB.out.cell (World.block_lt_of_cell? w _ hw896_6)).trans hw896_6)⟩ (fun hHeld => ?_); refine with_tabW laws_heldBoxConnS.tab19 laws_heldBoxConnS.bits19 (fun HT_ HW_ => ?_)
                        generalize w22.drew = w23 at HB hx896_0 hx896_1 hx896_2 hx896_3 hx896_4 hx896_5 hx896_6 hHeld ⊢
                        refine pure_ (i := 0) (N := some 62) (v := ?_) (a' := ?_) #[true, false, false, false, false, false, false, false] rfl rfl (any_of HT_.out (by kernel_rfl)) (fun _ _ _ h => h) (Or.inl ⟨by rfl, ?_⟩) ?_ ?_
                        rotate_left
                        · intro w'
                          go_simp
                          with_reducible rfl
                        rotate_left
                        · simp only [Act.put, List.setIfInBounds_toArray, List.set_cons_zero, List.set_cons_succ, i64_w, i32_w]
                          rfl
                        refine pure_ (i := 1) (N := some 63) (v := ?_) (a' := ?_) #[true, true, false, false, false, false, false, false] rfl rfl (any_of HT_.out (by kernel_rfl)) (fun _ _ _ h => h) (Or.inl ⟨by rfl, ?_⟩) ?_ ?_
                        rotate_left
                        · intro w'
                          go_simp
                          with_reducible rfl
                        rotate_left
                        · simp only [Act.put, List.setIfInBounds_toArray, List.set_cons_zero, List.set_cons_succ, i64_w, i32_w]
                          rfl
                        refine pure_ (i := 2) (N := some 64) (v := ?_) (a' := ?_) #[true, true, true, false, false, false, false, false] rfl rfl (any_of HT_.out (by kernel_rfl)) (fun _ _ _ h => h) (Or.inl ⟨by rfl, ?_⟩) ?_ ?_
                        rotate_left
                        · intro w'
                          go_simp
                          with_reducible rfl
                        rotate_left
                        · simp only [Act.put, List.setIfInBounds_toArray, List.set_cons_zero, List.set_cons_succ, i64_w, i32_w]
                          rfl
                        refine pure_ (i := 3) (N := some 65) (v := ?_) (a' := ?_) #[true, true, true, true, false, false, false, false] rfl rfl (any_of HT_.out (by kernel_rfl)) (fun _ _ _ h => h) (Or.inl ⟨by rfl, ?_⟩) ?_ ?_
                        rotate_left
                        · intro w'
                          go_simp
                          with_reducible rfl
                        rotate_left
                        · simp only [Act.put, List.setIfInBounds_toArray, List.set_cons_zero, List.set_cons_succ, i64_w, i32_w]
                          rfl
                        refine pure_ (i := 5) (N := some 67) (v := ?_) (a' := ?_) #[true, true, true, true, false, true, false, false] rfl rfl (any_of HT_.out (by kernel_rfl)) (fun _ _ _ h => h) (Or.inl ⟨by rfl, ?_⟩) ?_ ?_
                        rotate_left
                        · intro w'
                          go_simp
                          with_reducible rfl
                        rotate_left
                        · simp only [Act.put, List.setIfInBounds_toArray, List.set_cons_zero, List.set_cons_succ, i64_w, i32_w]
                          rfl
                        refine take_ (i := 4) (N := some 66) (v := ?_) (a' := ?_) #[true, true, true, true, true, true, false, false] rfl rfl (take_ofW HT_.out HW_.out (by kernel_rfl)) (fun _ _ _ h => h) (Or.inl ⟨by rfl, ?_⟩) hHeld ?_ ?_
                        rotate_left
                        · rintro w' ⟨s0, s1, s2, s3, s4, s5, s6⟩
                          go_simp
                          with_reducible rfl
                        rotate_left
                        · simp only [Act.put, List.setIfInBounds_toArray, List.set_cons_zero, List.set_cons_succ, i64_w, i32_w]
                          rfl
                        refine one_ (i := 6) (N := some 68) #[true, true, true, true, true, true, true, false] rfl rfl (one_of HT_.out (by kernel_rfl)) (by decide) (fun K hK => ?_)
                        refine goes_ Try.func99 (by kernel_rfl) rfl #[.int .i64 (wrap64 ((wrap64 ((wrap64 ((wrap64 ((wrap64 (x1_1 + 1)) + 1)) + 1)) + 1)) + 1))] (by rfl) rfl rfl (by (try simp only [List.map_toArray, List.map_cons, List.map_nil]); first | done | rfl | (simp only [List.length_drop, List.length_take]; rfl)) ?_
                        with_reducible refine (laws_markText.calls k1 (wrap64 ((wrap64 ((wrap64 ((wrap64 ((wrap64 (x1_1 + 1)) + 1)) + 1)) + 1)) + 1)) t897 _ A11.out).mono ?_
                        rintro e w24 ⟨rfl, hb⟩
                        refine ⟨_, rfl, ?_⟩
                        have n0_ := Aside0.mk (below_step (bl HB) hb)
                        clear HB
                        have HB := n0_
                        clear n0_
                        (try clear hb)
                        (try clear hb2)
                        (try clear hk)
                        (try clear hi)
                        refine hK.out _ _ ⟨((HB.out.cell (World.block_lt_of_cell? w _ hw896_0)).trans hw896_0), ((HB.out.cell (World.block_lt_of_cell? w _ hw896_1)).trans hw896_1), ((HB.out.cell (World.block_lt_of_cell? w _ hw896_2)).trans hw896_2), ((HB.out.cell (World.block_lt_of_cell? w _ hw896_3)).trans hw896_3), ((HB.out.cell (World.block_lt_of_cell? w _ hw896_4)).trans hw896_4), ((HB.out.cell (World.block_lt_of_cell? w _ hw896_5)).trans hw896_5), ((HB.out.cell (World.block_lt_of_cell? w _ hw896_6)).trans hw896_6)⟩ (fun hHeld => ?_)
                        clear hK K
                        refine norm_ (a' := ?_) ?_ ?_
                        rotate_left
                        · show Act.put _ (some 68) _ = _
                          simp only [Act.put, List.setIfInBounds_toArray, List.set_cons_zero, List.set_cons_succ, i64_w, i32_w]
                          rfl
                        refine pure_ (i := 7) (N := some 69) (v := ?_) (a' := ?_) #[true, true, true, true, true, true, true, true] rfl rfl (any_of HT_.out (by kernel_rfl)) (fun _ _ _ h => h) (Or.inl ⟨by rfl, ?_⟩) ?_ ?_
                        rotate_left
                        · intro w'
                          go_simp
                          with_reducible rfl
                        rotate_left
                        · simp only [Act.put, List.setIfInBounds_toArray, List.set_cons_zero, List.set_cons_succ, i64_w, i32_w]
                          rfl
                        refine done_ (done_of HT_.out (by kernel_rfl)) ?_
                        try go_wp2
                        have n0_ := Aside0.mk (below_drew1 HB.out)
                        clear HB
                        have HB := n0_
                        clear n0_
                        have p898 : 0 ≤ (x5_1 : Int) := of_decide_eq_true (by first | (with_reducible assumption) | assumption)
                        have q898 : x5_1 < (l0.length : Int) := of_decide_eq_true (by first | (with_reducible assumption) | assumption)
                        obtain ⟨ad898, e898, hx898_0, hx898_1, hx898_2, hx898_3, hx898_4, hx898_5, hx898_6⟩ := at_T119 HR0.out x5_1 p898 q898
                        have hw898_6 := hx898_6
                        have hw898_5 := hx898_5
                        have hw898_4 := hx898_4
                        have hw898_3 := hx898_3
                        have hw898_2 := hx898_2
                        have hw898_1 := hx898_1
                        have hw898_0 := hx898_0
                        obtain rfl : ad890 = ad898 := (by injection e898)
                        replace hx898_0 := (HB.out.cell (World.block_lt_of_cell? w _ hx898_0)).trans hx898_0
                        replace hx898_1 := (HB.out.cell (World.block_lt_of_cell? w _ hx898_1)).trans hx898_1
                        replace hx898_2 := (HB.out.cell (World.block_lt_of_cell? w _ hx898_2)).trans hx898_2
                        replace hx898_3 := (HB.out.cell (World.block_lt_of_cell? w _ hx898_3)).trans hx898_3
                        replace hx898_4 := (HB.out.cell (World.block_lt_of_cell? w _ hx898_4)).trans hx898_4
                        replace hx898_5 := (HB.out.cell (World.block_lt_of_cell? w _ hx898_5)).trans hx898_5
                        replace hx898_6 := (HB.out.cell (World.block_lt_of_cell? w _ hx898_6)).trans hx898_6
                        replace p898 := eq_true p898
                        replace q898 := eq_true q898
                        refine start_ (n := 8) (S := fun w' => w'.cell? (ad890.add ((x5_1).toNat * 7)) = some (.int .i64 ((rd_T119 l0 x5_1).f0.f0)) ∧ w'.cell? ⟨(ad890.add ((x5_1).toNat * 7)).block, (ad890.add ((x5_1).toNat * 7)).off + 1, none⟩ = some (.int .i64 ((rd_T119 l0 x5_1).f0.f1)) ∧ w'.cell? ⟨(ad890.add ((x5_1).toNat * 7)).block, (ad890.add ((x5_1).toNat * 7)).off + 2, none⟩ = some (.int .i64 ((rd_T119 l0 x5_1).f1.f0)) ∧ w'.cell? ⟨(ad890.add ((x5_1).toNat * 7)).block, (ad890.add ((x5_1).toNat * 7)).off + 3, none⟩ = some (.int .i64 ((rd_T119 l0 x5_1).f1.f1)) ∧ w'.cell? ⟨(ad890.add ((x5_1).toNat * 7)).block, (ad890.add ((x5_1).toNat * 7)).off + 4, none⟩ = some (.string ((rd_T119 l0 x5_1).f2)) ∧ w'.cell? ⟨(ad890.add ((x5_1).toNat * 7)).block, (ad890.add ((x5_1).toNat * 7)).off + 5, none⟩ = some (.string ((rd_T119 l0 x5_1).f3)) ∧ w'.cell? ⟨(ad890.add ((x5_1).toNat * 7)).block, (ad890.add ((x5_1).toNat * 7)).off + 6, none⟩ = some (.string ((rd_T119 l0 x5_1).f4))) (ds := []) #[false, false, false, false, false, false, false, false] (by kernel_rfl) rfl rfl ⟨((HB.out.cell (World.block_lt_of_cell? w _ hw898_0)).trans hw898_0), ((HB.out.cell (World.block_lt_of_cell? w _ hw898_1)).trans hw898_1), ((HB.out.cell (World.block_lt_of_cell? w _ hw898_2)).trans hw898_2), ((HB.out.cell (World.block_lt_of_cell? w _ hw898_3)).trans hw898_3), ((HB.out.cell (World.block_lt_of_cell? w _ hw898_4)).trans hw898_4), ((HB.out.cell (World.block_lt_of_cell? w _ hw898_5)).trans hw898_5), ((HB.out.cell (World.block_lt_of_cell? w _ hw898_6)).trans hw898_6)⟩ (fun hHeld => ?_); refine with_tabW laws_heldBoxConnS.tab22 laws_heldBoxConnS.bits22 (fun HT_ HW_ => ?_)
                        generalize w24.drew = w25 at HB hx898_0 hx898_1 hx898_2 hx898_3 hx898_4 hx898_5 hx898_6 hHeld ⊢
                        refine pure_ (i := 0) (N := some 72) (v := ?_) (a' := ?_) #[true, false, false, false, false, false, false, false] rfl rfl (any_of HT_.out (by kernel_rfl)) (fun _ _ _ h => h) (Or.inl ⟨by rfl, ?_⟩) ?_ ?_
                        rotate_left
                        · intro w'
                          go_simp
                          with_reducible rfl
                        rotate_left
                        · simp only [Act.put, List.setIfInBounds_toArray, List.set_cons_zero, List.set_cons_succ, i64_w, i32_w]
                          rfl
                        refine pure_ (i := 1) (N := some 73) (v := ?_) (a' := ?_) #[true, true, false, false, false, false, false, false] rfl rfl (any_of HT_.out (by kernel_rfl)) (fun _ _ _ h => h) (Or.inl ⟨by rfl, ?_⟩) ?_ ?_
                        rotate_left
                        · intro w'
                          go_simp
                          with_reducible rfl
                        rotate_left
                        · simp only [Act.put, List.setIfInBounds_toArray, List.set_cons_zero, List.set_cons_succ, i64_w, i32_w]
                          rfl
                        refine pure_ (i := 2) (N := some 74) (v := ?_) (a' := ?_) #[true, true, true, false, false, false, false, false] rfl rfl (any_of HT_.out (by kernel_rfl)) (fun _ _ _ h => h) (Or.inl ⟨by rfl, ?_⟩) ?_ ?_
                        rotate_left
                        · intro w'
                          go_simp
                          with_reducible rfl
                        rotate_left
                        · simp only [Act.put, List.setIfInBounds_toArray, List.set_cons_zero, List.set_cons_succ, i64_w, i32_w]
                          rfl
                        refine pure_ (i := 3) (N := some 75) (v := ?_) (a' := ?_) #[true, true, true, true, false, false, false, false] rfl rfl (any_of HT_.out (by kernel_rfl)) (fun _ _ _ h => h) (Or.inl ⟨by rfl, ?_⟩) ?_ ?_
                        rotate_left
                        · intro w'
                          go_simp
                          with_reducible rfl
                        rotate_left
                        · simp only [Act.put, List.setIfInBounds_toArray, List.set_cons_zero, List.set_cons_succ, i64_w, i32_w]
                          rfl
                        refine pure_ (i := 5) (N := some 77) (v := ?_) (a' := ?_) #[true, true, true, true, false, true, false, false] rfl rfl (any_of HT_.out (by kernel_rfl)) (fun _ _ _ h => h) (Or.inl ⟨by rfl, ?_⟩) ?_ ?_
                        rotate_left
                        · intro w'
                          go_simp
                          with_reducible rfl
                        rotate_left
                        · simp only [Act.put, List.setIfInBounds_toArray, List.set_cons_zero, List.set_cons_succ, i64_w, i32_w]
                          rfl
                        refine take_ (i := 4) (N := some 76) (v := ?_) (a' := ?_) #[true, true, true, true, true, true, false, false] rfl rfl (take_ofW HT_.out HW_.out (by kernel_rfl)) (fun _ _ _ h => h) (Or.inl ⟨by rfl, ?_⟩) hHeld ?_ ?_
                        rotate_left
                        · rintro w' ⟨s0, s1, s2, s3, s4, s5, s6⟩
                          go_simp
                          with_reducible rfl
                        rotate_left
                        · simp only [Act.put, List.setIfInBounds_toArray, List.set_cons_zero, List.set_cons_succ, i64_w, i32_w]
                          rfl
                        refine one_ (i := 6) (N := some 78) #[true, true, true, true, true, true, true, false] rfl rfl (one_of HT_.out (by kernel_rfl)) (by decide) (fun K hK => ?_)
                        refine goes_ Try.func99 (by kernel_rfl) rfl #[.int .i64 (wrap64 ((wrap64 ((wrap64 ((wrap64 ((wrap64 ((wrap64 (x1_1 + 1)) + 1)) + 1)) + 1)) + 1)) + 1))] (by rfl) rfl rfl (by (try simp only [List.map_toArray, List.map_cons, List.map_nil]); first | done | rfl | (simp only [List.length_drop, List.length_take]; rfl)) ?_
                        with_reducible refine (laws_markText.calls k1 (wrap64 ((wrap64 ((wrap64 ((wrap64 ((wrap64 ((wrap64 (x1_1 + 1)) + 1)) + 1)) + 1)) + 1)) + 1)) t899 _ A13.out).mono ?_
                        rintro e w26 ⟨rfl, hb⟩
                        refine ⟨_, rfl, ?_⟩
                        have n0_ := Aside0.mk (below_step (bl HB) hb)
                        clear HB
                        have HB := n0_
                        clear n0_
                        (try clear hb)
                        (try clear hb2)
                        (try clear hk)
                        (try clear hi)
                        refine hK.out _ _ ⟨((HB.out.cell (World.block_lt_of_cell? w _ hw898_0)).trans hw898_0), ((HB.out.cell (World.block_lt_of_cell? w _ hw898_1)).trans hw898_1), ((HB.out.cell (World.block_lt_of_cell? w _ hw898_2)).trans hw898_2), ((HB.out.cell (World.block_lt_of_cell? w _ hw898_3)).trans hw898_3), ((HB.out.cell (World.block_lt_of_cell? w _ hw898_4)).trans hw898_4), ((HB.out.cell (World.block_lt_of_cell? w _ hw898_5)).trans hw898_5), ((HB.out.cell (World.block_lt_of_cell? w _ hw898_6)).trans hw898_6)⟩ (fun hHeld => ?_)
                        clear hK K
                        refine norm_ (a' := ?_) ?_ ?_
                        rotate_left
                        · show Act.put _ (some 78) _ = _
                          simp only [Act.put, List.setIfInBounds_toArray, List.set_cons_zero, List.set_cons_succ, i64_w, i32_w]
                          rfl
                        refine pure_ (i := 7) (N := some 79) (v := ?_) (a' := ?_) #[true, true, true, true, true, true, true, true] rfl rfl (any_of HT_.out (by kernel_rfl)) (fun _ _ _ h => h) (Or.inl ⟨by rfl, ?_⟩) ?_ ?_
                        rotate_left
                        · intro w'
                          go_simp
                          with_reducible rfl
                        rotate_left
                        · simp only [Act.put, List.setIfInBounds_toArray, List.set_cons_zero, List.set_cons_succ, i64_w, i32_w]
                          rfl
                        refine done_ (done_of HT_.out (by kernel_rfl)) ?_
                        try go_wp2
                        go_ret
                        exact ⟨by first | rfl | (simp [errW_none, errW_some] <;> rfl) | (simp [*, errW_none, errW_some] <;> rfl), by repeat (first | (with_reducible first | exact HB.out | apply below_alloc | apply pw_below_drewN | apply below_drew1) | exact HB.out)⟩
                    · rw [if_neg c12] at H
                      have c12b0 : (((rd_T119 l0 x5_1).f3).toList == t897.toList) = false := beq_eq_false_iff_ne.mpr c12
                      have c12b1 : (((rd_T119 l0 x5_1).f3).toList != t897.toList) = true := bne_iff_ne.mpr c12
                      obtain rfl := Option.some.inj H
                      have p890 : 0 ≤ (x5_1 : Int) := of_decide_eq_true (by first | (with_reducible assumption) | assumption)
                      have q890 : x5_1 < (l0.length : Int) := of_decide_eq_true (by first | (with_reducible assumption) | assumption)
                      obtain ⟨ad890, e890, hx890_0, hx890_1, hx890_2, hx890_3, hx890_4, hx890_5, hx890_6⟩ := at_T119 HR0.out x5_1 p890 q890
                      cases e890
                      replace hx890_0 := (HB.out.cell (World.block_lt_of_cell? w _ hx890_0)).trans hx890_0
                      replace hx890_1 := (HB.out.cell (World.block_lt_of_cell? w _ hx890_1)).trans hx890_1
                      replace hx890_2 := (HB.out.cell (World.block_lt_of_cell? w _ hx890_2)).trans hx890_2
                      replace hx890_3 := (HB.out.cell (World.block_lt_of_cell? w _ hx890_3)).trans hx890_3
                      replace hx890_4 := (HB.out.cell (World.block_lt_of_cell? w _ hx890_4)).trans hx890_4
                      replace hx890_5 := (HB.out.cell (World.block_lt_of_cell? w _ hx890_5)).trans hx890_5
                      replace hx890_6 := (HB.out.cell (World.block_lt_of_cell? w _ hx890_6)).trans hx890_6
                      replace p890 := eq_true p890
                      replace q890 := eq_true q890
                      have p891 : 0 ≤ (x5_1 : Int) := of_decide_eq_true (by first | (with_reducible assumption) | assumption)
                      have q891 : x5_1 < (l0.length : Int) := of_decide_eq_true (by first | (with_reducible assumption) | assumption)
                      obtain ⟨ad891, e891, hx891_0, hx891_1, hx891_2, hx891_3, hx891_4, hx891_5, hx891_6⟩ := at_T119 HR0.out x5_1 p891 q891
                      obtain rfl : ad890 = ad891 := (by injection e891)
                      replace hx891_0 := (HB.out.cell (World.block_lt_of_cell? w _ hx891_0)).trans hx891_0
                      replace hx891_1 := (HB.out.cell (World.block_lt_of_cell? w _ hx891_1)).trans hx891_1
                      replace hx891_2 := (HB.out.cell (World.block_lt_of_cell? w _ hx891_2)).trans hx891_2
                      replace hx891_3 := (HB.out.cell (World.block_lt_of_cell? w _ hx891_3)).trans hx891_3
                      replace hx891_4 := (HB.out.cell (World.block_lt_of_cell? w _ hx891_4)).trans hx891_4
                      replace hx891_5 := (HB.out.cell (World.block_lt_of_cell? w _ hx891_5)).trans hx891_5
                      replace hx891_6 := (HB.out.cell (World.block_lt_of_cell? w _ hx891_6)).trans hx891_6
                      replace p891 := eq_true p891
                      replace q891 := eq_true q891
                      have p892 : 0 ≤ (x5_1 : Int) := of_decide_eq_true (by first | (with_reducible assumption) | assumption)
                      have q892 : x5_1 < (l0.length : Int) := of_decide_eq_true (by first | (with_reducible assumption) | assumption)
                      obtain ⟨ad892, e892, hx892_0, hx892_1, hx892_2, hx892_3, hx892_4, hx892_5, hx892_6⟩ := at_T119 HR0.out x5_1 p892 q892
                      obtain rfl : ad890 = ad892 := (by injection e892)
                      replace hx892_0 := (HB.out.cell (World.block_lt_of_cell? w _ hx892_0)).trans hx892_0
                      replace hx892_1 := (HB.out.cell (World.block_lt_of_cell? w _ hx892_1)).trans hx892_1
                      replace hx892_2 := (HB.out.cell (World.block_lt_of_cell? w _ hx892_2)).trans hx892_2
                      replace hx892_3 := (HB.out.cell (World.block_lt_of_cell? w _ hx892_3)).trans hx892_3
                      replace hx892_4 := (HB.out.cell (World.block_lt_of_cell? w _ hx892_4)).trans hx892_4
                      replace hx892_5 := (HB.out.cell (World.block_lt_of_cell? w _ hx892_5)).trans hx892_5
                      replace hx892_6 := (HB.out.cell (World.block_lt_of_cell? w _ hx892_6)).trans hx892_6
                      replace p892 := eq_true p892
                      replace q892 := eq_true q892
                      have p893 : 0 ≤ (x5_1 : Int) := of_decide_eq_true (by first | (with_reducible assumption) | assumption)
                      have q893 : x5_1 < (l0.length : Int) := of_decide_eq_true (by first | (with_reducible assumption) | assumption)
                      obtain ⟨ad893, e893, hx893_0, hx893_1, hx893_2, hx893_3, hx893_4, hx893_5, hx893_6⟩ := at_T119 HR0.out x5_1 p893 q893
                      obtain rfl : ad890 = ad893 := (by injection e893)
                      replace hx893_0 := (HB.out.cell (World.block_lt_of_cell? w _ hx893_0)).trans hx893_0
                      replace hx893_1 := (HB.out.cell (World.block_lt_of_cell? w _ hx893_1)).trans hx893_1
                      replace hx893_2 := (HB.out.cell (World.block_lt_of_cell? w _ hx893_2)).trans hx893_2
                      replace hx893_3 := (HB.out.cell (World.block_lt_of_cell? w _ hx893_3)).trans hx893_3
                      replace hx893_4 := (HB.out.cell (World.block_lt_of_cell? w _ hx893_4)).trans hx893_4
                      replace hx893_5 := (HB.out.cell (World.block_lt_of_cell? w _ hx893_5)).trans hx893_5
                      replace hx893_6 := (HB.out.cell (World.block_lt_of_cell? w _ hx893_6)).trans hx893_6
                      replace p893 := eq_true p893
                      replace q893 := eq_true q893
                      try go_wp2
                      have n0_ := Aside0.mk (below_drew1 HB.out)
                      clear HB
                      have HB := n0_
                      clear n0_
                      have p894 : 0 ≤ (x5_1 : Int) := of_decide_eq_true (by first | (with_reducible assumption) | assumption)
                      have q894 : x5_1 < (l0.length : Int) := of_decide_eq_true (by first | (with_reducible assumption) | assumption)
                      obtain ⟨ad894, e894, hx894_0, hx894_1, hx894_2, hx894_3, hx894_4, hx894_5, hx894_6⟩ := at_T119 HR0.out x5_1 p894 q894
                      have hw894_6 := hx894_6
                      have hw894_5 := hx894_5
                      have hw894_4 := hx894_4
                      have hw894_3 := hx894_3
                      have hw894_2 := hx894_2
                      have hw894_1 := hx894_1
                      have hw894_0 := hx894_0
                      obtain rfl : ad890 = ad894 := (by injection e894)
                      replace hx894_0 := (HB.out.cell (World.block_lt_of_cell? w _ hx894_0)).trans hx894_0
                      replace hx894_1 := (HB.out.cell (World.block_lt_of_cell? w _ hx894_1)).trans hx894_1
                      replace hx894_2 := (HB.out.cell (World.block_lt_of_cell? w _ hx894_2)).trans hx894_2
                      replace hx894_3 := (HB.out.cell (World.block_lt_of_cell? w _ hx894_3)).trans hx894_3
                      replace hx894_4 := (HB.out.cell (World.block_lt_of_cell? w _ hx894_4)).trans hx894_4
                      replace hx894_5 := (HB.out.cell (World.block_lt_of_cell? w _ hx894_5)).trans hx894_5
                      replace hx894_6 := (HB.out.cell (World.block_lt_of_cell? w _ hx894_6)).trans hx894_6
                      replace p894 := eq_true p894
                      replace q894 := eq_true q894
                      refine start_ (n := 8) (S := fun w' => w'.cell? (ad890.add ((x5_1).toNat * 7)) = some (.int .i64 ((rd_T119 l0 x5_1).f0.f0)) ∧ w'.cell? ⟨(ad890.add ((x5_1).toNat * 7)).block, (ad890.add ((x5_1).toNat * 7)).off + 1, none⟩ = some (.int .i64 ((rd_T119 l0 x5_1).f0.f1)) ∧ w'.cell? ⟨(ad890.add ((x5_1).toNat * 7)).block, (ad890.add ((x5_1).toNat * 7)).off + 2, none⟩ = some (.int .i64 ((rd_T119 l0 x5_1).f1.f0)) ∧ w'.cell? ⟨(ad890.add ((x5_1).toNat * 7)).block, (ad890.add ((x5_1).toNat * 7)).off + 3, none⟩ = some (.int .i64 ((rd_T119 l0 x5_1).f1.f1)) ∧ w'.cell? ⟨(ad890.add ((x5_1).toNat * 7)).block, (ad890.add ((x5_1).toNat * 7)).off + 4, none⟩ = some (.string ((rd_T119 l0 x5_1).f2)) ∧ w'.cell? ⟨(ad890.add ((x5_1).toNat * 7)).block, (ad890.add ((x5_1).toNat * 7)).off + 5, none⟩ = some (.string ((rd_T119 l0 x5_1).f3)) ∧ w'.cell? ⟨(ad890.add ((x5_1).toNat * 7)).block, (ad890.add ((x5_1).toNat * 7)).off + 6, none⟩ = some (.string ((rd_T119 l0 x5_1).f4))) (ds := []) #[false, false, false, false, false, false, false, false] (by kernel_rfl) rfl rfl ⟨((HB.out.cell (World.block_lt_of_cell? w _ hw894_0)).trans hw894_0), ((HB.out.cell (World.block_lt_of_cell? w _ hw894_1)).trans hw894_1), ((HB.out.cell (World.block_lt_of_cell? w _ hw894_2)).trans hw894_2), ((HB.out.cell (World.block_lt_of_cell? w _ hw894_3)).trans hw894_3), ((HB.out.cell (World.block_lt_of_cell? w _ hw894_4)).trans hw894_4), ((HB.out.cell (World.block_lt_of_cell? w _ hw894_5)).trans hw894_5), ((HB.out.cell (World.block_lt_of_cell? w _ hw894_6)).trans hw894_6)⟩ (fun hHeld => ?_); refine with_tabW laws_heldBoxConnS.tab16 laws_heldBoxConnS.bits16 (fun HT_ HW_ => ?_)
                      generalize wr.drew = w27 at HB hx894_0 hx894_1 hx894_2 hx894_3 hx894_4 hx894_5 hx894_6 hHeld ⊢
                      refine pure_ (i := 0) (N := some 52) (v := ?_) (a' := ?_) #[true, false, false, false, false, false, false, false] rfl rfl (any_of HT_.out (by kernel_rfl)) (fun _ _ _ h => h) (Or.inl ⟨by rfl, ?_⟩) ?_ ?_
                      rotate_left
                      · intro w'
                        go_simp
                        with_reducible rfl
                      rotate_left
                      · simp only [Act.put, List.setIfInBounds_toArray, List.set_cons_zero, List.set_cons_succ, i64_w, i32_w]
                        rfl
                      refine pure_ (i := 1) (N := some 53) (v := ?_) (a' := ?_) #[true, true, false, false, false, false, false, false] rfl rfl (any_of HT_.out (by kernel_rfl)) (fun _ _ _ h => h) (Or.inl ⟨by rfl, ?_⟩) ?_ ?_
                      rotate_left
                      · intro w'
                        go_simp
                        with_reducible rfl
                      rotate_left
                      · simp only [Act.put, List.setIfInBounds_toArray, List.set_cons_zero, List.set_cons_succ, i64_w, i32_w]
                        rfl
                      refine pure_ (i := 2) (N := some 54) (v := ?_) (a' := ?_) #[true, true, true, false, false, false, false, false] rfl rfl (any_of HT_.out (by kernel_rfl)) (fun _ _ _ h => h) (Or.inl ⟨by rfl, ?_⟩) ?_ ?_
                      rotate_left
                      · intro w'
                        go_simp
                        with_reducible rfl
                      rotate_left
                      · simp only [Act.put, List.setIfInBounds_toArray, List.set_cons_zero, List.set_cons_succ, i64_w, i32_w]
                        rfl
                      refine pure_ (i := 3) (N := some 55) (v := ?_) (a' := ?_) #[true, true, true, true, false, false, false, false] rfl rfl (any_of HT_.out (by kernel_rfl)) (fun _ _ _ h => h) (Or.inl ⟨by rfl, ?_⟩) ?_ ?_
                      rotate_left
                      · intro w'
                        go_simp
                        with_reducible rfl
                      rotate_left
                      · simp only [Act.put, List.setIfInBounds_toArray, List.set_cons_zero, List.set_cons_succ, i64_w, i32_w]
                        rfl
                      refine pure_ (i := 5) (N := some 57) (v := ?_) (a' := ?_) #[true, true, true, true, false, true, false, false] rfl rfl (any_of HT_.out (by kernel_rfl)) (fun _ _ _ h => h) (Or.inl ⟨by rfl, ?_⟩) ?_ ?_
                      rotate_left
                      · intro w'
                        go_simp
                        with_reducible rfl
                      rotate_left
                      · simp only [Act.put, List.setIfInBounds_toArray, List.set_cons_zero, List.set_cons_succ, i64_w, i32_w]
                        rfl
                      refine take_ (i := 4) (N := some 56) (v := ?_) (a' := ?_) #[true, true, true, true, true, true, false, false] rfl rfl (take_ofW HT_.out HW_.out (by kernel_rfl)) (fun _ _ _ h => h) (Or.inl ⟨by rfl, ?_⟩) hHeld ?_ ?_
                      rotate_left
                      · rintro w' ⟨s0, s1, s2, s3, s4, s5, s6⟩
                        go_simp
                        with_reducible rfl
                      rotate_left
                      · simp only [Act.put, List.setIfInBounds_toArray, List.set_cons_zero, List.set_cons_succ, i64_w, i32_w]
                        rfl
                      refine one_ (i := 6) (N := some 58) #[true, true, true, true, true, true, true, false] rfl rfl (one_of HT_.out (by kernel_rfl)) (by decide) (fun K hK => ?_)
                      refine goes_ Try.func99 (by kernel_rfl) rfl #[.int .i64 (wrap64 ((wrap64 ((wrap64 ((wrap64 (x1_1 + 1)) + 1)) + 1)) + 1))] (by rfl) rfl rfl (by (try simp only [List.map_toArray, List.map_cons, List.map_nil]); first | done | rfl | (simp only [List.length_drop, List.length_take]; rfl)) ?_
                      with_reducible refine (laws_markText.calls k1 (wrap64 ((wrap64 ((wrap64 ((wrap64 (x1_1 + 1)) + 1)) + 1)) + 1)) t895 _ A9.out).mono ?_
                      rintro e w28 ⟨rfl, hb⟩
                      refine ⟨_, rfl, ?_⟩
                      have n0_ := Aside0.mk (below_step (bl HB) hb)
                      clear HB
                      have HB := n0_
                      clear n0_
                      (try clear hb)
                      (try clear hb2)
                      (try clear hk)
                      (try clear hi)
                      refine hK.out _ _ ⟨((HB.out.cell (World.block_lt_of_cell? w _ hw894_0)).trans hw894_0), ((HB.out.cell (World.block_lt_of_cell? w _ hw894_1)).trans hw894_1), ((HB.out.cell (World.block_lt_of_cell? w _ hw894_2)).trans hw894_2), ((HB.out.cell (World.block_lt_of_cell? w _ hw894_3)).trans hw894_3), ((HB.out.cell (World.block_lt_of_cell? w _ hw894_4)).trans hw894_4), ((HB.out.cell (World.block_lt_of_cell? w _ hw894_5)).trans hw894_5), ((HB.out.cell (World.block_lt_of_cell? w _ hw894_6)).trans hw894_6)⟩ (fun hHeld => ?_)
                      clear hK K
                      refine norm_ (a' := ?_) ?_ ?_
                      rotate_left
                      · show Act.put _ (some 58) _ = _
                        simp only [Act.put, List.setIfInBounds_toArray, List.set_cons_zero, List.set_cons_succ, i64_w, i32_w]
                        rfl
                      refine pure_ (i := 7) (N := some 59) (v := ?_) (a' := ?_) #[true, true, true, true, true, true, true, true] rfl rfl (any_of HT_.out (by kernel_rfl)) (fun _ _ _ h => h) (Or.inl ⟨by rfl, ?_⟩) ?_ ?_
                      rotate_left
                      · intro w'
                        go_simp
                        with_reducible rfl
                      rotate_left
                      · simp only [Act.put, List.setIfInBounds_toArray, List.set_cons_zero, List.set_cons_succ, i64_w, i32_w]
                        rfl
                      refine done_ (done_of HT_.out (by kernel_rfl)) ?_
                      try go_wp2
                      have n0_ := Aside0.mk (below_drew1 HB.out)
                      clear HB
                      have HB := n0_
                      clear n0_
                      have p896 : 0 ≤ (x5_1 : Int) := of_decide_eq_true (by first | (with_reducible assumption) | assumption)
                      have q896 : x5_1 < (l0.length : Int) := of_decide_eq_true (by first | (with_reducible assumption) | assumption)
                      obtain ⟨ad896, e896, hx896_0, hx896_1, hx896_2, hx896_3, hx896_4, hx896_5, hx896_6⟩ := at_T119 HR0.out x5_1 p896 q896
                      have hw896_6 := hx896_6
                      have hw896_5 := hx896_5
                      have hw896_4 := hx896_4
                      have hw896_3 := hx896_3
                      have hw896_2 := hx896_2
                      have hw896_1 := hx896_1
                      have hw896_0 := hx896_0
                      obtain rfl : ad890 = ad896 := (by injection e896)
                      replace hx896_0 := (HB.out.cell (World.block_lt_of_cell? w _ hx896_0)).trans hx896_0
                      replace hx896_1 := (HB.out.cell (World.block_lt_of_cell? w _ hx896_1)).trans hx896_1
                      replace hx896_2 := (HB.out.cell (World.block_lt_of_cell? w _ hx896_2)).trans hx896_2
                      replace hx896_3 := (HB.out.cell (World.block_lt_of_cell? w _ hx896_3)).trans hx896_3
                      replace hx896_4 := (HB.out.cell (World.block_lt_of_cell? w _ hx896_4)).trans hx896_4
                      replace hx896_5 := (HB.out.cell (World.block_lt_of_cell? w _ hx896_5)).trans hx896_5
                      replace hx896_6 := (HB.out.cell (World.block_lt_of_cell? w _ hx896_6)).trans hx896_6
                      replace p896 := eq_true p896
                      replace q896 := eq_true q896
                      refine start_ (n := 8) (S := fun w' => w'.cell? (ad890.add ((x5_1).toNat * 7)) = some (.int .i64 ((rd_T119 l0 x5_1).f0.f0)) ∧ w'.cell? ⟨(ad890.add ((x5_1).toNat * 7)).block, (ad890.add ((x5_1).toNat * 7)).off + 1, none⟩ = some (.int .i64 ((rd_T119 l0 x5_1).f0.f1)) ∧ w'.cell? ⟨(ad890.add ((x5_1).toNat * 7)).block, (ad890.add ((x5_1).toNat * 7)).off + 2, none⟩ = some (.int .i64 ((rd_T119 l0 x5_1).f1.f0)) ∧ w'.cell? ⟨(ad890.add ((x5_1).toNat * 7)).block, (ad890.add ((x5_1).toNat * 7)).off + 3, none⟩ = some (.int .i64 ((rd_T119 l0 x5_1).f1.f1)) ∧ w'.cell? ⟨(ad890.add ((x5_1).toNat * 7)).block, (ad890.add ((x5_1).toNat * 7)).off + 4, none⟩ = some (.string ((rd_T119 l0 x5_1).f2)) ∧ w'.cell? ⟨(ad890.add ((x5_1).toNat * 7)).block, (ad890.add ((x5_1).toNat * 7)).off + 5, none⟩ = some (.string ((rd_T119 l0 x5_1).f3)) ∧ w'.cell? ⟨(ad890.add ((x5_1).toNat * 7)).block, (ad890.add ((x5_1).toNat * 7)).off + 6, none⟩ = some (.string ((rd_T119 l0 x5_1).f4))) (ds := []) #[false, false, false, false, false, false, false, false] (by kernel_rfl) rfl rfl ⟨((HB.out.cell (World.block_lt_of_cell? w _ hw896_0)).trans hw896_0), ((HB.out.cell (World.block_lt_of_cell? w _ hw896_1)).trans hw896_1), ((HB.out.cell (World.block_lt_of_cell? w _ hw896_2)).trans hw896_2), ((HB.out.cell (World.block_lt_of_cell? w _ hw896_3)).trans hw896_3), ((HB.out.cell (World.block_lt_of_cell? w _ hw896_4)).trans hw896_4), ((HB.out.cell (World.block_lt_of_cell? w _ hw896_5)).trans hw896_5), ((HB.out.cell (World.block_lt_of_cell? w _ hw896_6)).trans hw896_6)⟩ (fun hHeld => ?_); refine with_tabW laws_heldBoxConnS.tab19 laws_heldBoxConnS.bits19 (fun HT_ HW_ => ?_)
                      generalize w28.drew = w29 at HB hx896_0 hx896_1 hx896_2 hx896_3 hx896_4 hx896_5 hx896_6 hHeld ⊢
                      refine pure_ (i := 0) (N := some 62) (v := ?_) (a' := ?_) #[true, false, false, false, false, false, false, false] rfl rfl (any_of HT_.out (by kernel_rfl)) (fun _ _ _ h => h) (Or.inl ⟨by rfl, ?_⟩) ?_ ?_
                      rotate_left
                      · intro w'
                        go_simp
                        with_reducible rfl
                      rotate_left
                      · simp only [Act.put, List.setIfInBounds_toArray, List.set_cons_zero, List.set_cons_succ, i64_w, i32_w]
                        rfl
                      refine pure_ (i := 1) (N := some 63) (v := ?_) (a' := ?_) #[true, true, false, false, false, false, false, false] rfl rfl (any_of HT_.out (by kernel_rfl)) (fun _ _ _ h => h) (Or.inl ⟨by rfl, ?_⟩) ?_ ?_
                      rotate_left
                      · intro w'
                        go_simp
                        with_reducible rfl
                      rotate_left
                      · simp only [Act.put, List.setIfInBounds_toArray, List.set_cons_zero, List.set_cons_succ, i64_w, i32_w]
                        rfl
                      refine pure_ (i := 2) (N := some 64) (v := ?_) (a' := ?_) #[true, true, true, false, false, false, false, false] rfl rfl (any_of HT_.out (by kernel_rfl)) (fun _ _ _ h => h) (Or.inl ⟨by rfl, ?_⟩) ?_ ?_
                      rotate_left
                      · intro w'
                        go_simp
                        with_reducible rfl
                      rotate_left
                      · simp only [Act.put, List.setIfInBounds_toArray, List.set_cons_zero, List.set_cons_succ, i64_w, i32_w]
                        rfl
                      refine pure_ (i := 3) (N := some 65) (v := ?_) (a' := ?_) #[true, true, true, true, false, false, false, false] rfl rfl (any_of HT_.out (by kernel_rfl)) (fun _ _ _ h => h) (Or.inl ⟨by rfl, ?_⟩) ?_ ?_
                      rotate_left
                      · intro w'
                        go_simp
                        with_reducible rfl
                      rotate_left
                      · simp only [Act.put, List.setIfInBounds_toArray, List.set_cons_zero, List.set_cons_succ, i64_w, i32_w]
                        rfl
                      refine pure_ (i := 5) (N := some 67) (v := ?_) (a' := ?_) #[true, true, true, true, false, true, false, false] rfl rfl (any_of HT_.out (by kernel_rfl)) (fun _ _ _ h => h) (Or.inl ⟨by rfl, ?_⟩) ?_ ?_
                      rotate_left
                      · intro w'
                        go_simp
                        with_reducible rfl
                      rotate_left
                      · simp only [Act.put, List.setIfInBounds_toArray, List.set_cons_zero, List.set_cons_succ, i64_w, i32_w]
                        rfl
                      refine take_ (i := 4) (N := some 66) (v := ?_) (a' := ?_) #[true, true, true, true, true, true, false, false] rfl rfl (take_ofW HT_.out HW_.out (by kernel_rfl)) (fun _ _ _ h => h) (Or.inl ⟨by rfl, ?_⟩) hHeld ?_ ?_
                      rotate_left
                      · rintro w' ⟨s0, s1, s2, s3, s4, s5, s6⟩
                        go_simp
                        with_reducible rfl
                      rotate_left
                      · simp only [Act.put, List.setIfInBounds_toArray, List.set_cons_zero, List.set_cons_succ, i64_w, i32_w]
                        rfl
                      refine one_ (i := 6) (N := some 68) #[true, true, true, true, true, true, true, false] rfl rfl (one_of HT_.out (by kernel_rfl)) (by decide) (fun K hK => ?_)
                      refine goes_ Try.func99 (by kernel_rfl) rfl #[.int .i64 (wrap64 ((wrap64 ((wrap64 ((wrap64 ((wrap64 (x1_1 + 1)) + 1)) + 1)) + 1)) + 1))] (by rfl) rfl rfl (by (try simp only [List.map_toArray, List.map_cons, List.map_nil]); first | done | rfl | (simp only [List.length_drop, List.length_take]; rfl)) ?_
                      with_reducible refine (laws_markText.calls k1 (wrap64 ((wrap64 ((wrap64 ((wrap64 ((wrap64 (x1_1 + 1)) + 1)) + 1)) + 1)) + 1)) t897 _ A11.out).mono ?_
                      rintro e w30 ⟨rfl, hb⟩
                      refine ⟨_, rfl, ?_⟩
                      have n0_ := Aside0.mk (below_step (bl HB) hb)
                      clear HB
                      have HB := n0_
                      clear n0_
                      (try clear hb)
                      (try clear hb2)
                      (try clear hk)
                      (try clear hi)
                      refine hK.out _ _ ⟨((HB.out.cell (World.block_lt_of_cell? w _ hw896_0)).trans hw896_0), ((HB.out.cell (World.block_lt_of_cell? w _ hw896_1)).trans hw896_1), ((HB.out.cell (World.block_lt_of_cell? w _ hw896_2)).trans hw896_2), ((HB.out.cell (World.block_lt_of_cell? w _ hw896_3)).trans hw896_3), ((HB.out.cell (World.block_lt_of_cell? w _ hw896_4)).trans hw896_4), ((HB.out.cell (World.block_lt_of_cell? w _ hw896_5)).trans hw896_5), ((HB.out.cell (World.block_lt_of_cell? w _ hw896_6)).trans hw896_6)⟩ (fun hHeld => ?_)
                      clear hK K
                      refine norm_ (a' := ?_) ?_ ?_
                      rotate_left
                      · show Act.put _ (some 68) _ = _
                        simp only [Act.put, List.setIfInBounds_toArray, List.set_cons_zero, List.set_cons_succ, i64_w, i32_w]
                        rfl
                      refine pure_ (i := 7) (N := some 69) (v := ?_) (a' := ?_) #[true, true, true, true, true, true, true, true] rfl rfl (any_of HT_.out (by kernel_rfl)) (fun _ _ _ h => h) (Or.inl ⟨by rfl, ?_⟩) ?_ ?_
                      rotate_left
                      · intro w'
                        go_simp
                        with_reducible rfl
                      rotate_left
                      · simp only [Act.put, List.setIfInBounds_toArray, List.set_cons_zero, List.set_cons_succ, i64_w, i32_w]
                        rfl
                      refine done_ (done_of HT_.out (by kernel_rfl)) ?_
                      try go_wp2
                      go_ret
                      exact ⟨by first | rfl | (simp [errW_none, errW_some] <;> rfl) | (simp [*, errW_none, errW_some] <;> rfl), by repeat (first | (with_reducible first | exact HB.out | apply below_alloc | apply pw_below_drewN | apply below_drew1) | exact HB.out)⟩
                  · rw [if_neg c10] at H
                    have c10b0 : (((rd_T119 l0 x5_1).f2).toList == t895.toList) = false := beq_eq_false_iff_ne.mpr c10
                    have c10b1 : (((rd_T119 l0 x5_1).f2).toList != t895.toList) = true := bne_iff_ne.mpr c10
                    obtain rfl := Option.some.inj H
                    have p890 : 0 ≤ (x5_1 : Int) := of_decide_eq_true (by first | (with_reducible assumption) | assumption)
                    have q890 : x5_1 < (l0.length : Int) := of_decide_eq_true (by first | (with_reducible assumption) | assumption)
                    obtain ⟨ad890, e890, hx890_0, hx890_1, hx890_2, hx890_3, hx890_4, hx890_5, hx890_6⟩ := at_T119 HR0.out x5_1 p890 q890
                    cases e890
                    replace hx890_0 := (HB.out.cell (World.block_lt_of_cell? w _ hx890_0)).trans hx890_0
                    replace hx890_1 := (HB.out.cell (World.block_lt_of_cell? w _ hx890_1)).trans hx890_1
                    replace hx890_2 := (HB.out.cell (World.block_lt_of_cell? w _ hx890_2)).trans hx890_2
                    replace hx890_3 := (HB.out.cell (World.block_lt_of_cell? w _ hx890_3)).trans hx890_3
                    replace hx890_4 := (HB.out.cell (World.block_lt_of_cell? w _ hx890_4)).trans hx890_4
                    replace hx890_5 := (HB.out.cell (World.block_lt_of_cell? w _ hx890_5)).trans hx890_5
                    replace hx890_6 := (HB.out.cell (World.block_lt_of_cell? w _ hx890_6)).trans hx890_6
                    replace p890 := eq_true p890
                    replace q890 := eq_true q890
                    have p891 : 0 ≤ (x5_1 : Int) := of_decide_eq_true (by first | (with_reducible assumption) | assumption)
                    have q891 : x5_1 < (l0.length : Int) := of_decide_eq_true (by first | (with_reducible assumption) | assumption)
                    obtain ⟨ad891, e891, hx891_0, hx891_1, hx891_2, hx891_3, hx891_4, hx891_5, hx891_6⟩ := at_T119 HR0.out x5_1 p891 q891
                    obtain rfl : ad890 = ad891 := (by injection e891)
                    replace hx891_0 := (HB.out.cell (World.block_lt_of_cell? w _ hx891_0)).trans hx891_0
                    replace hx891_1 := (HB.out.cell (World.block_lt_of_cell? w _ hx891_1)).trans hx891_1
                    replace hx891_2 := (HB.out.cell (World.block_lt_of_cell? w _ hx891_2)).trans hx891_2
                    replace hx891_3 := (HB.out.cell (World.block_lt_of_cell? w _ hx891_3)).trans hx891_3
                    replace hx891_4 := (HB.out.cell (World.block_lt_of_cell? w _ hx891_4)).trans hx891_4
                    replace hx891_5 := (HB.out.cell (World.block_lt_of_cell? w _ hx891_5)).trans hx891_5
                    replace hx891_6 := (HB.out.cell (World.block_lt_of_cell? w _ hx891_6)).trans hx891_6
                    replace p891 := eq_true p891
                    replace q891 := eq_true q891
                    have p892 : 0 ≤ (x5_1 : Int) := of_decide_eq_true (by first | (with_reducible assumption) | assumption)
                    have q892 : x5_1 < (l0.length : Int) := of_decide_eq_true (by first | (with_reducible assumption) | assumption)
                    obtain ⟨ad892, e892, hx892_0, hx892_1, hx892_2, hx892_3, hx892_4, hx892_5, hx892_6⟩ := at_T119 HR0.out x5_1 p892 q892
                    obtain rfl : ad890 = ad892 := (by injection e892)
                    replace hx892_0 := (HB.out.cell (World.block_lt_of_cell? w _ hx892_0)).trans hx892_0
                    replace hx892_1 := (HB.out.cell (World.block_lt_of_cell? w _ hx892_1)).trans hx892_1
                    replace hx892_2 := (HB.out.cell (World.block_lt_of_cell? w _ hx892_2)).trans hx892_2
                    replace hx892_3 := (HB.out.cell (World.block_lt_of_cell? w _ hx892_3)).trans hx892_3
                    replace hx892_4 := (HB.out.cell (World.block_lt_of_cell? w _ hx892_4)).trans hx892_4
                    replace hx892_5 := (HB.out.cell (World.block_lt_of_cell? w _ hx892_5)).trans hx892_5
                    replace hx892_6 := (HB.out.cell (World.block_lt_of_cell? w _ hx892_6)).trans hx892_6
                    replace p892 := eq_true p892
                    replace q892 := eq_true q892
                    have p893 : 0 ≤ (x5_1 : Int) := of_decide_eq_true (by first | (with_reducible assumption) | assumption)
                    have q893 : x5_1 < (l0.length : Int) := of_decide_eq_true (by first | (with_reducible assumption) | assumption)
                    obtain ⟨ad893, e893, hx893_0, hx893_1, hx893_2, hx893_3, hx893_4, hx893_5, hx893_6⟩ := at_T119 HR0.out x5_1 p893 q893
                    obtain rfl : ad890 = ad893 := (by injection e893)
                    replace hx893_0 := (HB.out.cell (World.block_lt_of_cell? w _ hx893_0)).trans hx893_0
                    replace hx893_1 := (HB.out.cell (World.block_lt_of_cell? w _ hx893_1)).trans hx893_1
                    replace hx893_2 := (HB.out.cell (World.block_lt_of_cell? w _ hx893_2)).trans hx893_2
                    replace hx893_3 := (HB.out.cell (World.block_lt_of_cell? w _ hx893_3)).trans hx893_3
                    replace hx893_4 := (HB.out.cell (World.block_lt_of_cell? w _ hx893_4)).trans hx893_4
                    replace hx893_5 := (HB.out.cell (World.block_lt_of_cell? w _ hx893_5)).trans hx893_5
                    replace hx893_6 := (HB.out.cell (World.block_lt_of_cell? w _ hx893_6)).trans hx893_6
                    replace p893 := eq_true p893
                    replace q893 := eq_true q893
                    try go_wp2
                    have n0_ := Aside0.mk (below_drew1 HB.out)
                    clear HB
                    have HB := n0_
                    clear n0_
                    have p894 : 0 ≤ (x5_1 : Int) := of_decide_eq_true (by first | (with_reducible assumption) | assumption)
                    have q894 : x5_1 < (l0.length : Int) := of_decide_eq_true (by first | (with_reducible assumption) | assumption)
                    obtain ⟨ad894, e894, hx894_0, hx894_1, hx894_2, hx894_3, hx894_4, hx894_5, hx894_6⟩ := at_T119 HR0.out x5_1 p894 q894
                    have hw894_6 := hx894_6
                    have hw894_5 := hx894_5
                    have hw894_4 := hx894_4
                    have hw894_3 := hx894_3
                    have hw894_2 := hx894_2
                    have hw894_1 := hx894_1
                    have hw894_0 := hx894_0
                    obtain rfl : ad890 = ad894 := (by injection e894)
                    replace hx894_0 := (HB.out.cell (World.block_lt_of_cell? w _ hx894_0)).trans hx894_0
                    replace hx894_1 := (HB.out.cell (World.block_lt_of_cell? w _ hx894_1)).trans hx894_1
                    replace hx894_2 := (HB.out.cell (World.block_lt_of_cell? w _ hx894_2)).trans hx894_2
                    replace hx894_3 := (HB.out.cell (World.block_lt_of_cell? w _ hx894_3)).trans hx894_3
                    replace hx894_4 := (HB.out.cell (World.block_lt_of_cell? w _ hx894_4)).trans hx894_4
                    replace hx894_5 := (HB.out.cell (World.block_lt_of_cell? w _ hx894_5)).trans hx894_5
                    replace hx894_6 := (HB.out.cell (World.block_lt_of_cell? w _ hx894_6)).trans hx894_6
                    replace p894 := eq_true p894
                    replace q894 := eq_true q894
                    refine start_ (n := 8) (S := fun w' => w'.cell? (ad890.add ((x5_1).toNat * 7)) = some (.int .i64 ((rd_T119 l0 x5_1).f0.f0)) ∧ w'.cell? ⟨(ad890.add ((x5_1).toNat * 7)).block, (ad890.add ((x5_1).toNat * 7)).off + 1, none⟩ = some (.int .i64 ((rd_T119 l0 x5_1).f0.f1)) ∧ w'.cell? ⟨(ad890.add ((x5_1).toNat * 7)).block, (ad890.add ((x5_1).toNat * 7)).off + 2, none⟩ = some (.int .i64 ((rd_T119 l0 x5_1).f1.f0)) ∧ w'.cell? ⟨(ad890.add ((x5_1).toNat * 7)).block, (ad890.add ((x5_1).toNat * 7)).off + 3, none⟩ = some (.int .i64 ((rd_T119 l0 x5_1).f1.f1)) ∧ w'.cell? ⟨(ad890.add ((x5_1).toNat * 7)).block, (ad890.add ((x5_1).toNat * 7)).off + 4, none⟩ = some (.string ((rd_T119 l0 x5_1).f2)) ∧ w'.cell? ⟨(ad890.add ((x5_1).toNat * 7)).block, (ad890.add ((x5_1).toNat * 7)).off + 5, none⟩ = some (.string ((rd_T119 l0 x5_1).f3)) ∧ w'.cell? ⟨(ad890.add ((x5_1).toNat * 7)).block, (ad890.add ((x5_1).toNat * 7)).off + 6, none⟩ = some (.string ((rd_T119 l0 x5_1).f4))) (ds := []) #[false, false, false, false, false, false, false, false] (by kernel_rfl) rfl rfl ⟨((HB.out.cell (World.block_lt_of_cell? w _ hw894_0)).trans hw894_0), ((HB.out.cell (World.block_lt_of_cell? w _ hw894_1)).trans hw894_1), ((HB.out.cell (World.block_lt_of_cell? w _ hw894_2)).trans hw894_2), ((HB.out.cell (World.block_lt_of_cell? w _ hw894_3)).trans hw894_3), ((HB.out.cell (World.block_lt_of_cell? w _ hw894_4)).trans hw894_4), ((HB.out.cell (World.block_lt_of_cell? w _ hw894_5)).trans hw894_5), ((HB.out.cell (World.block_lt_of_cell? w _ hw894_6)).trans hw894_6)⟩ (fun hHeld => ?_); refine with_tabW laws_heldBoxConnS.tab16 laws_heldBoxConnS.bits16 (fun HT_ HW_ => ?_)
                    generalize wr.drew = w31 at HB hx894_0 hx894_1 hx894_2 hx894_3 hx894_4 hx894_5 hx894_6 hHeld ⊢
                    refine pure_ (i := 0) (N := some 52) (v := ?_) (a' := ?_) #[true, false, false, false, false, false, false, false] rfl rfl (any_of HT_.out (by kernel_rfl)) (fun _ _ _ h => h) (Or.inl ⟨by rfl, ?_⟩) ?_ ?_
                    rotate_left
                    · intro w'
                      go_simp
                      with_reducible rfl
                    rotate_left
                    · simp only [Act.put, List.setIfInBounds_toArray, List.set_cons_zero, List.set_cons_succ, i64_w, i32_w]
                      rfl
                    refine pure_ (i := 1) (N := some 53) (v := ?_) (a' := ?_) #[true, true, false, false, false, false, false, false] rfl rfl (any_of HT_.out (by kernel_rfl)) (fun _ _ _ h => h) (Or.inl ⟨by rfl, ?_⟩) ?_ ?_
                    rotate_left
                    · intro w'
                      go_simp
                      with_reducible rfl
                    rotate_left
                    · simp only [Act.put, List.setIfInBounds_toArray, List.set_cons_zero, List.set_cons_succ, i64_w, i32_w]
                      rfl
                    refine pure_ (i := 2) (N := some 54) (v := ?_) (a' := ?_) #[true, true, true, false, false, false, false, false] rfl rfl (any_of HT_.out (by kernel_rfl)) (fun _ _ _ h => h) (Or.inl ⟨by rfl, ?_⟩) ?_ ?_
                    rotate_left
                    · intro w'
                      go_simp
                      with_reducible rfl
                    rotate_left
                    · simp only [Act.put, List.setIfInBounds_toArray, List.set_cons_zero, List.set_cons_succ, i64_w, i32_w]
                      rfl
                    refine pure_ (i := 3) (N := some 55) (v := ?_) (a' := ?_) #[true, true, true, true, false, false, false, false] rfl rfl (any_of HT_.out (by kernel_rfl)) (fun _ _ _ h => h) (Or.inl ⟨by rfl, ?_⟩) ?_ ?_
                    rotate_left
                    · intro w'
                      go_simp
                      with_reducible rfl
                    rotate_left
                    · simp only [Act.put, List.setIfInBounds_toArray, List.set_cons_zero, List.set_cons_succ, i64_w, i32_w]
                      rfl
                    refine pure_ (i := 5) (N := some 57) (v := ?_) (a' := ?_) #[true, true, true, true, false, true, false, false] rfl rfl (any_of HT_.out (by kernel_rfl)) (fun _ _ _ h => h) (Or.inl ⟨by rfl, ?_⟩) ?_ ?_
                    rotate_left
                    · intro w'
                      go_simp
                      with_reducible rfl
                    rotate_left
                    · simp only [Act.put, List.setIfInBounds_toArray, List.set_cons_zero, List.set_cons_succ, i64_w, i32_w]
                      rfl
                    refine take_ (i := 4) (N := some 56) (v := ?_) (a' := ?_) #[true, true, true, true, true, true, false, false] rfl rfl (take_ofW HT_.out HW_.out (by kernel_rfl)) (fun _ _ _ h => h) (Or.inl ⟨by rfl, ?_⟩) hHeld ?_ ?_
                    rotate_left
                    · rintro w' ⟨s0, s1, s2, s3, s4, s5, s6⟩
                      go_simp
                      with_reducible rfl
                    rotate_left
                    · simp only [Act.put, List.setIfInBounds_toArray, List.set_cons_zero, List.set_cons_succ, i64_w, i32_w]
                      rfl
                    refine one_ (i := 6) (N := some 58) #[true, true, true, true, true, true, true, false] rfl rfl (one_of HT_.out (by kernel_rfl)) (by decide) (fun K hK => ?_)
                    refine goes_ Try.func99 (by kernel_rfl) rfl #[.int .i64 (wrap64 ((wrap64 ((wrap64 ((wrap64 (x1_1 + 1)) + 1)) + 1)) + 1))] (by rfl) rfl rfl (by (try simp only [List.map_toArray, List.map_cons, List.map_nil]); first | done | rfl | (simp only [List.length_drop, List.length_take]; rfl)) ?_
                    with_reducible refine (laws_markText.calls k1 (wrap64 ((wrap64 ((wrap64 ((wrap64 (x1_1 + 1)) + 1)) + 1)) + 1)) t895 _ A9.out).mono ?_
                    rintro e w32 ⟨rfl, hb⟩
                    refine ⟨_, rfl, ?_⟩
                    have n0_ := Aside0.mk (below_step (bl HB) hb)
                    clear HB
                    have HB := n0_
                    clear n0_
                    (try clear hb)
                    (try clear hb2)
                    (try clear hk)
                    (try clear hi)
                    refine hK.out _ _ ⟨((HB.out.cell (World.block_lt_of_cell? w _ hw894_0)).trans hw894_0), ((HB.out.cell (World.block_lt_of_cell? w _ hw894_1)).trans hw894_1), ((HB.out.cell (World.block_lt_of_cell? w _ hw894_2)).trans hw894_2), ((HB.out.cell (World.block_lt_of_cell? w _ hw894_3)).trans hw894_3), ((HB.out.cell (World.block_lt_of_cell? w _ hw894_4)).trans hw894_4), ((HB.out.cell (World.block_lt_of_cell? w _ hw894_5)).trans hw894_5), ((HB.out.cell (World.block_lt_of_cell? w _ hw894_6)).trans hw894_6)⟩ (fun hHeld => ?_)
                    clear hK K
                    refine norm_ (a' := ?_) ?_ ?_
                    rotate_left
                    · show Act.put _ (some 58) _ = _
                      simp only [Act.put, List.setIfInBounds_toArray, List.set_cons_zero, List.set_cons_succ, i64_w, i32_w]
                      rfl
                    refine pure_ (i := 7) (N := some 59) (v := ?_) (a' := ?_) #[true, true, true, true, true, true, true, true] rfl rfl (any_of HT_.out (by kernel_rfl)) (fun _ _ _ h => h) (Or.inl ⟨by rfl, ?_⟩) ?_ ?_
                    rotate_left
                    · intro w'
                      go_simp
                      with_reducible rfl
                    rotate_left
                    · simp only [Act.put, List.setIfInBounds_toArray, List.set_cons_zero, List.set_cons_succ, i64_w, i32_w]
                      rfl
                    refine done_ (done_of HT_.out (by kernel_rfl)) ?_
                    try go_wp2
                    go_ret
                    exact ⟨by first | rfl | (simp [errW_none, errW_some] <;> rfl) | (simp [*, errW_none, errW_some] <;> rfl), by repeat (first | (with_reducible first | exact HB.out | apply below_alloc | apply pw_below_drewN | apply below_drew1) | exact HB.out)⟩
                · rw [if_neg c8] at H
                  have c8b0 : (((rd_T119 l0 x5_1).f1.f1) == (wrap64 ((wrap64 ((wrap64 (x1_1 + 1)) + 1)) + 1))) = false := beq_eq_false_iff_ne.mpr c8
                  have c8b1 : (((rd_T119 l0 x5_1).f1.f1) != (wrap64 ((wrap64 ((wrap64 (x1_1 + 1)) + 1)) + 1))) = true := bne_iff_ne.mpr c8
                  obtain rfl := Option.some.inj H
                  have p890 : 0 ≤ (x5_1 : Int) := of_decide_eq_true (by first | (with_reducible assumption) | assumption)
                  have q890 : x5_1 < (l0.length : Int) := of_decide_eq_true (by first | (with_reducible assumption) | assumption)
                  obtain ⟨ad890, e890, hx890_0, hx890_1, hx890_2, hx890_3, hx890_4, hx890_5, hx890_6⟩ := at_T119 HR0.out x5_1 p890 q890
                  cases e890
                  replace hx890_0 := (HB.out.cell (World.block_lt_of_cell? w _ hx890_0)).trans hx890_0
                  replace hx890_1 := (HB.out.cell (World.block_lt_of_cell? w _ hx890_1)).trans hx890_1
                  replace hx890_2 := (HB.out.cell (World.block_lt_of_cell? w _ hx890_2)).trans hx890_2
                  replace hx890_3 := (HB.out.cell (World.block_lt_of_cell? w _ hx890_3)).trans hx890_3
                  replace hx890_4 := (HB.out.cell (World.block_lt_of_cell? w _ hx890_4)).trans hx890_4
                  replace hx890_5 := (HB.out.cell (World.block_lt_of_cell? w _ hx890_5)).trans hx890_5
                  replace hx890_6 := (HB.out.cell (World.block_lt_of_cell? w _ hx890_6)).trans hx890_6
                  replace p890 := eq_true p890
                  replace q890 := eq_true q890
                  have p891 : 0 ≤ (x5_1 : Int) := of_decide_eq_true (by first | (with_reducible assumption) | assumption)
                  have q891 : x5_1 < (l0.length : Int) := of_decide_eq_true (by first | (with_reducible assumption) | assumption)
                  obtain ⟨ad891, e891, hx891_0, hx891_1, hx891_2, hx891_3, hx891_4, hx891_5, hx891_6⟩ := at_T119 HR0.out x5_1 p891 q891
                  obtain rfl : ad890 = ad891 := (by injection e891)
                  replace hx891_0 := (HB.out.cell (World.block_lt_of_cell? w _ hx891_0)).trans hx891_0
                  replace hx891_1 := (HB.out.cell (World.block_lt_of_cell? w _ hx891_1)).trans hx891_1
                  replace hx891_2 := (HB.out.cell (World.block_lt_of_cell? w _ hx891_2)).trans hx891_2
                  replace hx891_3 := (HB.out.cell (World.block_lt_of_cell? w _ hx891_3)).trans hx891_3
                  replace hx891_4 := (HB.out.cell (World.block_lt_of_cell? w _ hx891_4)).trans hx891_4
                  replace hx891_5 := (HB.out.cell (World.block_lt_of_cell? w _ hx891_5)).trans hx891_5
                  replace hx891_6 := (HB.out.cell (World.block_lt_of_cell? w _ hx891_6)).trans hx891_6
                  replace p891 := eq_true p891
                  replace q891 := eq_true q891
                  have p892 : 0 ≤ (x5_1 : Int) := of_decide_eq_true (by first | (with_reducible assumption) | assumption)
                  have q892 : x5_1 < (l0.length : Int) := of_decide_eq_true (by first | (with_reducible assumption) | assumption)
                  obtain ⟨ad892, e892, hx892_0, hx892_1, hx892_2, hx892_3, hx892_4, hx892_5, hx892_6⟩ := at_T119 HR0.out x5_1 p892 q892
                  obtain rfl : ad890 = ad892 := (by injection e892)
                  replace hx892_0 := (HB.out.cell (World.block_lt_of_cell? w _ hx892_0)).trans hx892_0
                  replace hx892_1 := (HB.out.cell (World.block_lt_of_cell? w _ hx892_1)).trans hx892_1
                  replace hx892_2 := (HB.out.cell (World.block_lt_of_cell? w _ hx892_2)).trans hx892_2
                  replace hx892_3 := (HB.out.cell (World.block_lt_of_cell? w _ hx892_3)).trans hx892_3
                  replace hx892_4 := (HB.out.cell (World.block_lt_of_cell? w _ hx892_4)).trans hx892_4
                  replace hx892_5 := (HB.out.cell (World.block_lt_of_cell? w _ hx892_5)).trans hx892_5
                  replace hx892_6 := (HB.out.cell (World.block_lt_of_cell? w _ hx892_6)).trans hx892_6
                  replace p892 := eq_true p892
                  replace q892 := eq_true q892
                  have p893 : 0 ≤ (x5_1 : Int) := of_decide_eq_true (by first | (with_reducible assumption) | assumption)
                  have q893 : x5_1 < (l0.length : Int) := of_decide_eq_true (by first | (with_reducible assumption) | assumption)
                  obtain ⟨ad893, e893, hx893_0, hx893_1, hx893_2, hx893_3, hx893_4, hx893_5, hx893_6⟩ := at_T119 HR0.out x5_1 p893 q893
                  obtain rfl : ad890 = ad893 := (by injection e893)
                  replace hx893_0 := (HB.out.cell (World.block_lt_of_cell? w _ hx893_0)).trans hx893_0
                  replace hx893_1 := (HB.out.cell (World.block_lt_of_cell? w _ hx893_1)).trans hx893_1
                  replace hx893_2 := (HB.out.cell (World.block_lt_of_cell? w _ hx893_2)).trans hx893_2
                  replace hx893_3 := (HB.out.cell (World.block_lt_of_cell? w _ hx893_3)).trans hx893_3
                  replace hx893_4 := (HB.out.cell (World.block_lt_of_cell? w _ hx893_4)).trans hx893_4
                  replace hx893_5 := (HB.out.cell (World.block_lt_of_cell? w _ hx893_5)).trans hx893_5
                  replace hx893_6 := (HB.out.cell (World.block_lt_of_cell? w _ hx893_6)).trans hx893_6
                  replace p893 := eq_true p893
                  replace q893 := eq_true q893
                  go_wp2
                  go_ret
                  exact ⟨by first | rfl | (simp [errW_none, errW_some] <;> rfl) | (simp [*, errW_none, errW_some] <;> rfl), by repeat (first | (with_reducible first | exact HB.out | apply below_alloc | apply pw_below_drewN | apply below_drew1) | exact HB.out)⟩
              · rw [if_neg c7] at H
                have c7b0 : (((rd_T119 l0 x5_1).f1.f0) == (wrap64 ((wrap64 (x1_1 + 1)) + 1))) = false := beq_eq_false_iff_ne.mpr c7
                have c7b1 : (((rd_T119 l0 x5_1).f1.f0) != (wrap64 ((wrap64 (x1_1 + 1)) + 1))) = true := bne_iff_ne.mpr c7
                obtain rfl := Option.some.inj H
                have p890 : 0 ≤ (x5_1 : Int) := of_decide_eq_true (by first | (with_reducible assumption) | assumption)
                have q890 : x5_1 < (l0.length : Int) := of_decide_eq_true (by first | (with_reducible assumption) | assumption)
                obtain ⟨ad890, e890, hx890_0, hx890_1, hx890_2, hx890_3, hx890_4, hx890_5, hx890_6⟩ := at_T119 HR0.out x5_1 p890 q890
                cases e890
                replace hx890_0 := (HB.out.cell (World.block_lt_of_cell? w _ hx890_0)).trans hx890_0
                replace hx890_1 := (HB.out.cell (World.block_lt_of_cell? w _ hx890_1)).trans hx890_1
                replace hx890_2 := (HB.out.cell (World.block_lt_of_cell? w _ hx890_2)).trans hx890_2
                replace hx890_3 := (HB.out.cell (World.block_lt_of_cell? w _ hx890_3)).trans hx890_3
                replace hx890_4 := (HB.out.cell (World.block_lt_of_cell? w _ hx890_4)).trans hx890_4
                replace hx890_5 := (HB.out.cell (World.block_lt_of_cell? w _ hx890_5)).trans hx890_5
                replace hx890_6 := (HB.out.cell (World.block_lt_of_cell? w _ hx890_6)).trans hx890_6
                replace p890 := eq_true p890
                replace q890 := eq_true q890
                have p891 : 0 ≤ (x5_1 : Int) := of_decide_eq_true (by first | (with_reducible assumption) | assumption)
                have q891 : x5_1 < (l0.length : Int) := of_decide_eq_true (by first | (with_reducible assumption) | assumption)
                obtain ⟨ad891, e891, hx891_0, hx891_1, hx891_2, hx891_3, hx891_4, hx891_5, hx891_6⟩ := at_T119 HR0.out x5_1 p891 q891
                obtain rfl : ad890 = ad891 := (by injection e891)
                replace hx891_0 := (HB.out.cell (World.block_lt_of_cell? w _ hx891_0)).trans hx891_0
                replace hx891_1 := (HB.out.cell (World.block_lt_of_cell? w _ hx891_1)).trans hx891_1
                replace hx891_2 := (HB.out.cell (World.block_lt_of_cell? w _ hx891_2)).trans hx891_2
                replace hx891_3 := (HB.out.cell (World.block_lt_of_cell? w _ hx891_3)).trans hx891_3
                replace hx891_4 := (HB.out.cell (World.block_lt_of_cell? w _ hx891_4)).trans hx891_4
                replace hx891_5 := (HB.out.cell (World.block_lt_of_cell? w _ hx891_5)).trans hx891_5
                replace hx891_6 := (HB.out.cell (World.block_lt_of_cell? w _ hx891_6)).trans hx891_6
                replace p891 := eq_true p891
                replace q891 := eq_true q891
                have p892 : 0 ≤ (x5_1 : Int) := of_decide_eq_true (by first | (with_reducible assumption) | assumption)
                have q892 : x5_1 < (l0.length : Int) := of_decide_eq_true (by first | (with_reducible assumption) | assumption)
                obtain ⟨ad892, e892, hx892_0, hx892_1, hx892_2, hx892_3, hx892_4, hx892_5, hx892_6⟩ := at_T119 HR0.out x5_1 p892 q892
                obtain rfl : ad890 = ad892 := (by injection e892)
                replace hx892_0 := (HB.out.cell (World.block_lt_of_cell? w _ hx892_0)).trans hx892_0
                replace hx892_1 := (HB.out.cell (World.block_lt_of_cell? w _ hx892_1)).trans hx892_1
                replace hx892_2 := (HB.out.cell (World.block_lt_of_cell? w _ hx892_2)).trans hx892_2
                replace hx892_3 := (HB.out.cell (World.block_lt_of_cell? w _ hx892_3)).trans hx892_3
                replace hx892_4 := (HB.out.cell (World.block_lt_of_cell? w _ hx892_4)).trans hx892_4
                replace hx892_5 := (HB.out.cell (World.block_lt_of_cell? w _ hx892_5)).trans hx892_5
                replace hx892_6 := (HB.out.cell (World.block_lt_of_cell? w _ hx892_6)).trans hx892_6
                replace p892 := eq_true p892
                replace q892 := eq_true q892
                go_wp2
                go_ret
                exact ⟨by first | rfl | (simp [errW_none, errW_some] <;> rfl) | (simp [*, errW_none, errW_some] <;> rfl), by repeat (first | (with_reducible first | exact HB.out | apply below_alloc | apply pw_below_drewN | apply below_drew1) | exact HB.out)⟩
            · rw [if_neg c6] at H
              have c6b0 : (((rd_T119 l0 x5_1).f0.f1) == (wrap64 (x1_1 + 1))) = false := beq_eq_false_iff_ne.mpr c6
              have c6b1 : (((rd_T119 l0 x5_1).f0.f1) != (wrap64 (x1_1 + 1))) = true := bne_iff_ne.mpr c6
              obtain rfl := Option.some.inj H
              have p890 : 0 ≤ (x5_1 : Int) := of_decide_eq_true (by first | (with_reducible assumption) | assumption)
              have q890 : x5_1 < (l0.length : Int) := of_decide_eq_true (by first | (with_reducible assumption) | assumption)
              obtain ⟨ad890, e890, hx890_0, hx890_1, hx890_2, hx890_3, hx890_4, hx890_5, hx890_6⟩ := at_T119 HR0.out x5_1 p890 q890
              cases e890
              replace hx890_0 := (HB.out.cell (World.block_lt_of_cell? w _ hx890_0)).trans hx890_0
              replace hx890_1 := (HB.out.cell (World.block_lt_of_cell? w _ hx890_1)).trans hx890_1
              replace hx890_2 := (HB.out.cell (World.block_lt_of_cell? w _ hx890_2)).trans hx890_2
              replace hx890_3 := (HB.out.cell (World.block_lt_of_cell? w _ hx890_3)).trans hx890_3
              replace hx890_4 := (HB.out.cell (World.block_lt_of_cell? w _ hx890_4)).trans hx890_4
              replace hx890_5 := (HB.out.cell (World.block_lt_of_cell? w _ hx890_5)).trans hx890_5
              replace hx890_6 := (HB.out.cell (World.block_lt_of_cell? w _ hx890_6)).trans hx890_6
              replace p890 := eq_true p890
              replace q890 := eq_true q890
              have p891 : 0 ≤ (x5_1 : Int) := of_decide_eq_true (by first | (with_reducible assumption) | assumption)
              have q891 : x5_1 < (l0.length : Int) := of_decide_eq_true (by first | (with_reducible assumption) | assumption)
              obtain ⟨ad891, e891, hx891_0, hx891_1, hx891_2, hx891_3, hx891_4, hx891_5, hx891_6⟩ := at_T119 HR0.out x5_1 p891 q891
              obtain rfl : ad890 = ad891 := (by injection e891)
              replace hx891_0 := (HB.out.cell (World.block_lt_of_cell? w _ hx891_0)).trans hx891_0
              replace hx891_1 := (HB.out.cell (World.block_lt_of_cell? w _ hx891_1)).trans hx891_1
              replace hx891_2 := (HB.out.cell (World.block_lt_of_cell? w _ hx891_2)).trans hx891_2
              replace hx891_3 := (HB.out.cell (World.block_lt_of_cell? w _ hx891_3)).trans hx891_3
              replace hx891_4 := (HB.out.cell (World.block_lt_of_cell? w _ hx891_4)).trans hx891_4
              replace hx891_5 := (HB.out.cell (World.block_lt_of_cell? w _ hx891_5)).trans hx891_5
              replace hx891_6 := (HB.out.cell (World.block_lt_of_cell? w _ hx891_6)).trans hx891_6
              replace p891 := eq_true p891
              replace q891 := eq_true q891
              go_wp2
              go_ret
              exact ⟨by first | rfl | (simp [errW_none, errW_some] <;> rfl) | (simp [*, errW_none, errW_some] <;> rfl), by repeat (first | (with_reducible first | exact HB.out | apply below_alloc | apply pw_below_drewN | apply below_drew1) | exact HB.out)⟩
          · rw [if_neg c5] at H
            have c5b0 : (((rd_T119 l0 x5_1).f0.f0) == x1_1) = false := beq_eq_false_iff_ne.mpr c5
            have c5b1 : (((rd_T119 l0 x5_1).f0.f0) != x1_1) = true := bne_iff_ne.mpr c5
            obtain rfl := Option.some.inj H
            have p890 : 0 ≤ (x5_1 : Int) := of_decide_eq_true (by first | (with_reducible assumption) | assumption)
            have q890 : x5_1 < (l0.length : Int) := of_decide_eq_true (by first | (with_reducible assumption) | assumption)
            obtain ⟨ad890, e890, hx890_0, hx890_1, hx890_2, hx890_3, hx890_4, hx890_5, hx890_6⟩ := at_T119 HR0.out x5_1 p890 q890
            cases e890
            replace hx890_0 := (HB.out.cell (World.block_lt_of_cell? w _ hx890_0)).trans hx890_0
            replace hx890_1 := (HB.out.cell (World.block_lt_of_cell? w _ hx890_1)).trans hx890_1
            replace hx890_2 := (HB.out.cell (World.block_lt_of_cell? w _ hx890_2)).trans hx890_2
            replace hx890_3 := (HB.out.cell (World.block_lt_of_cell? w _ hx890_3)).trans hx890_3
            replace hx890_4 := (HB.out.cell (World.block_lt_of_cell? w _ hx890_4)).trans hx890_4
            replace hx890_5 := (HB.out.cell (World.block_lt_of_cell? w _ hx890_5)).trans hx890_5
            replace hx890_6 := (HB.out.cell (World.block_lt_of_cell? w _ hx890_6)).trans hx890_6
            replace p890 := eq_true p890
            replace q890 := eq_true q890
            go_wp2
            go_ret
            exact ⟨by first | rfl | (simp [errW_none, errW_some] <;> rfl) | (simp [*, errW_none, errW_some] <;> rfl), by repeat (first | (with_reducible first | exact HB.out | apply below_alloc | apply pw_below_drewN | apply below_drew1) | exact HB.out)⟩
        · rw [if_neg c4] at H
          exact absurd H (by simp)
      · rw [if_neg c3] at H
        have c3b0 : decide (x5_1 < (l0.length : Int)) = false := decide_eq_false c3
        clear c3
        obtain rfl := Option.some.inj H
        go_wp2
        go_ret
        exact ⟨by first | rfl | (simp [errW_none, errW_some] <;> rfl) | (simp [*, errW_none, errW_some] <;> rfl), by repeat (first | (with_reducible first | exact HB.out | apply below_alloc | apply pw_below_drewN | apply below_drew1) | exact HB.out)⟩

end Go.Proofs.Ytiocgkggegahhaa.P

-- written by hw.py for this claim
namespace Go.Proofs.Ytiocgkggegahhaa.P
open Go.RowKit Go.Proofs.YtiocgkggegahhaaUFnExactBoxNew.PrintWords Go.Proofs.YtiocgkggegahhaaUFnExactBoxNew.PrintLast Go.Proofs.YtiocgkggegahhaaUFnExactBoxNew.PrintMore
attribute [local go_sem] max2_int min2_int max_two min_two max_three min_three max_four min_four
set_option linter.unusedVariables false
set_option linter.unusedSimpArgs false

/-! ### laws_heldBoxBox: function 43 -/
def laws_heldBoxBox.f (k : Nat) (l0_0 : List (S24)) (l0_1 : List (S29)) (l0_2 : List (S119)) (a1 : Int) : Option (Int) := (laws_heldRulRuleS.f k l0_0 a1).bind fun t901 => (if t901 < 0 then (some (-1)) else ((laws_heldMapTab.f k l0_1 t901).bind fun t902 => (if t902 < 0 then (some (-1)) else ((laws_heldBoxConnS.f k l0_2 t902).bind fun t903 => (if t903 < 0 then (some (-1)) else (some t903))))))
theorem laws_heldBoxBox.mono : ∀ a0 a1 a2 a3 k, LeO (laws_heldBoxBox.f k a0 a1 a2 a3) (laws_heldBoxBox.f (k + 1) a0 a1 a2 a3) := by
  intro a0 a1 a2 a3 k
  unfold laws_heldBoxBox.f
  repeat' first
      | (with_reducible exact laws_heldBoxConnS.mono _ _ _)
      | (with_reducible exact laws_heldMapTab.mono _ _ _)
      | (with_reducible exact laws_heldRulRuleS.mono _ _ _)
      | (with_reducible exact LeO.refl _)
      | (with_reducible exact LeO.none _)
      | (with_reducible refine LeO.ite ?_ ?_)
      | (with_reducible refine LeO.bind ?_ (fun _ => ?_))
      | exact laws_heldBoxConnS.mono _ _ _
      | exact laws_heldMapTab.mono _ _ _
      | exact laws_heldRulRuleS.mono _ _ _
      | exact LeO.none _
      | refine LeO.ite ?_ ?_
      | refine LeO.bind ?_ (fun _ => ?_)
set_option maxHeartbeats 8000000 in
set_option maxRecDepth 100000 in
theorem laws_heldBoxBox.calls (k : Nat) (A0_0 : Option Addr) (c0_0 : Nat) (l0_0 : List (S24)) (A0_1 : Option Addr) (c0_1 : Nat) (l0_1 : List (S29)) (A0_2 : Option Addr) (c0_2 : Nat) (l0_2 : List (S119)) (a1 : Int) (r : Int) (w : World) (hr0_0 : Kd.C k24 w A0_0 l0_0.length l0_0) (hc0_0 : l0_0.length ≤ c0_0) (hr0_1 : Kd.C k29 w A0_1 l0_1.length l0_1) (hc0_1 : l0_1.length ≤ c0_1) (hr0_2 : Kd.C k119 w A0_2 l0_2.length l0_2) (hc0_2 : l0_2.length ≤ c0_2) (h : laws_heldBoxBox.f k l0_0 l0_1 l0_2 a1 = some r) :
    Calls Try.prog 43 #[.agg #[.slice A0_0 l0_0.length c0_0, .slice A0_1 l0_1.length c0_1, .slice A0_2 l0_2.length c0_2], .int .i64 a1] w fun e w' => e = .returned (.int .i64 r) ∧ Below w.heap.size w w' := by
  have hu66 := Try.underlying66
  have hu45 := Try.underlying45
  have HR0_0 := Aside0.mk hr0_0
  have HC0_0 := Aside0.mk hc0_0
  clear hr0_0 hc0_0
  have HR0_1 := Aside0.mk hr0_1
  have HC0_1 := Aside0.mk hc0_1
  clear hr0_1 hc0_1
  have HR0_2 := Aside0.mk hr0_2
  have HC0_2 := Aside0.mk hc0_2
  clear hr0_2 hc0_2
  have HB := Aside0.mk (Below.refl w.heap.size w)
  have H : ((laws_heldRulRuleS.f k l0_0 a1).bind fun t901 => (if t901 < 0 then (some (-1)) else ((laws_heldMapTab.f k l0_1 t901).bind fun t902 => (if t902 < 0 then (some (-1)) else ((laws_heldBoxConnS.f k l0_2 t902).bind fun t903 => (if t903 < 0 then (some (-1)) else (some t903))))))) = some r := h
  clear h
  replace H := Option.bind_eq_some_iff.mp H
  obtain ⟨t901, A30, H⟩ := H
  replace H : (if t901 < 0 then (some (-1)) else ((laws_heldMapTab.f k l0_1 t901).bind fun t902 => (if t902 < 0 then (some (-1)) else ((laws_heldBoxConnS.f k l0_2 t902).bind fun t903 => (if t903 < 0 then (some (-1)) else (some t903)))))) = some r := H
  have A3 := Aside0.mk A30
  clear A30
  by_cases c4 : t901 < 0
  · rw [if_pos c4] at H
    have c4b0 : decide (t901 < 0) = true := decide_eq_true c4
    clear c4
    obtain rfl := Option.some.inj H
    go_enter Try.func43, Try.ntmps43
    go_wp2_with (first | ((with_reducible refine gate_dst (N := 2) rfl ?_); refine box_event ?hg (N := 2) ?hd (cs := #[.slice A0_0 l0_0.length c0_0, .slice A0_1 l0_1.length c0_1, .slice A0_2 l0_2.length c0_2]) (t := 66) ?hr ?_; (case hd => rfl); (case hg => rfl); (case hr => first | (go_simp; done) | (go_simp; rfl)); intro gb900 hg w5 hbox hb; have n0_ := Aside0.mk (below_step (bl HB) hb); have n1_ := Aside0.mk (hbox); have n2_ := Aside0.mk ((by rw [hg]; exact (below_size (bl HB)) : w.heap.size ≤ gb900)); have n3_ := Aside0.mk ((by rw [hg]; exact (below_size (bl HB)) : w.heap.size ≤ gb900)); clear HB; have HB := n0_; have BK900 := n1_; have GW900 := n2_; have GE900 := n3_; clear n0_ n1_ n2_ n3_; clear hb hbox hg; have hcz6_0 : w5.cell? ⟨gb900, 0, none⟩ = some (.slice A0_0 l0_0.length c0_0) := (blk_cell BK900.out 0).trans rfl; have hcz6_1 : w5.cell? ⟨gb900, 1, none⟩ = some (.slice A0_1 l0_1.length c0_1) := (blk_cell BK900.out 1).trans rfl; have hcz6_2 : w5.cell? ⟨gb900, 2, none⟩ = some (.slice A0_2 l0_2.length c0_2) := (blk_cell BK900.out 2).trans rfl; have hfz6_0 := blk_frozen BK900.out 0; have hfz6_1 := blk_frozen BK900.out 1; have hfz6_2 := blk_frozen BK900.out 2) | ((with_reducible refine gate_callee (f := 80) rfl ?_); refine goesL_ (some 8) rfl rfl Try.func80 (by kernel_rfl) rfl #[.slice A0_0 l0_0.length c0_0, .int .i64 a1] rfl (by (try simp only [List.map_toArray, List.map_cons, List.map_nil]); first | done | rfl | (simp only [List.length_drop, List.length_take]; rfl)) ?_; (with_reducible refine (laws_heldRulRuleS.calls k _ _ l0_0 a1 t901 _ ?side1 ?side2 A3.out).mono ?_); (case side1 => repeat (first | exact (Kd.C_below HR0_0.out HB.out) | (with_reducible refine Kd.C_alloc ?_ _) | (with_reducible refine Kd.C_drewN ?_ _) | (with_reducible refine Kd.C_drew ?_))); (case side2 => exact HC0_0.out); rintro e w' ⟨rfl, ⟨nd, rfl⟩⟩; refine ⟨_, rfl, ?_⟩))
    go_ret
    exact ⟨by first | rfl | (simp [errW_none, errW_some] <;> rfl) | (simp [*, errW_none, errW_some] <;> rfl), by repeat (first | (with_reducible first | exact HB.out | apply below_alloc | apply pw_below_drewN | apply below_drew1 | refine below_set ?_ GE900.out) | exact HB.out)⟩
  · rw [if_neg c4] at H
    have c4b0 : decide (t901 < 0) = false := decide_eq_false c4
    clear c4
    replace H := Option.bind_eq_some_iff.mp H
    obtain ⟨t902, A70, H⟩ := H
    replace H : (if t902 < 0 then (some (-1)) else ((laws_heldBoxConnS.f k l0_2 t902).bind fun t903 => (if t903 < 0 then (some (-1)) else (some t903)))) = some r := H
    have A7 := Aside0.mk A70
    clear A70
    by_cases c8 : t902 < 0
    · rw [if_pos c8] at H
      have c8b0 : decide (t902 < 0) = true := decide_eq_true c8
      clear c8
      obtain rfl := Option.some.inj H
      go_enter Try.func43, Try.ntmps43
      go_wp2_with (first | ((with_reducible refine gate_dst (N := 2) rfl ?_); refine box_event ?hg (N := 2) ?hd (cs := #[.slice A0_0 l0_0.length c0_0, .slice A0_1 l0_1.length c0_1, .slice A0_2 l0_2.length c0_2]) (t := 66) ?hr ?_; (case hd => rfl); (case hg => rfl); (case hr => first | (go_simp; done) | (go_simp; rfl)); intro gb900 hg w9 hbox hb; have n0_ := Aside0.mk (below_step (bl HB) hb); have n1_ := Aside0.mk (hbox); have n2_ := Aside0.mk ((by rw [hg]; exact (below_size (bl HB)) : w.heap.size ≤ gb900)); have n3_ := Aside0.mk ((by rw [hg]; exact (below_size (bl HB)) : w.heap.size ≤ gb900)); clear HB; have HB := n0_; have BK900 := n1_; have GW900 := n2_; have GE900 := n3_; clear n0_ n1_ n2_ n3_; clear hb hbox hg; have hcz10_0 : w9.cell? ⟨gb900, 0, none⟩ = some (.slice A0_0 l0_0.length c0_0) := (blk_cell BK900.out 0).trans rfl; have hcz10_1 : w9.cell? ⟨gb900, 1, none⟩ = some (.slice A0_1 l0_1.length c0_1) := (blk_cell BK900.out 1).trans rfl; have hcz10_2 : w9.cell? ⟨gb900, 2, none⟩ = some (.slice A0_2 l0_2.length c0_2) := (blk_cell BK900.out 2).trans rfl; have hfz10_0 := blk_frozen BK900.out 0; have hfz10_1 := blk_frozen BK900.out 1; have hfz10_2 := blk_frozen BK900.out 2) | ((with_reducible refine gate_callee (f := 80) rfl ?_); refine goesL_ (some 8) rfl rfl Try.func80 (by kernel_rfl) rfl #[.slice A0_0 l0_0.length c0_0, .int .i64 a1] rfl (by (try simp only [List.map_toArray, List.map_cons, List.map_nil]); first | done | rfl | (simp only [List.length_drop, List.length_take]; rfl)) ?_; (with_reducible refine (laws_heldRulRuleS.calls k _ _ l0_0 a1 t901 _ ?side1 ?side2 A3.out).mono ?_); (case side1 => repeat (first | exact (Kd.C_below HR0_0.out HB.out) | (with_reducible refine Kd.C_alloc ?_ _) | (with_reducible refine Kd.C_drewN ?_ _) | (with_reducible refine Kd.C_drew ?_))); (case side2 => exact HC0_0.out); rintro e w' ⟨rfl, ⟨nd, rfl⟩⟩; refine ⟨_, rfl, ?_⟩) | ((with_reducible refine gate_callee (f := 33) rfl ?_); refine goesL_ (some 14) rfl rfl Try.func33 (by kernel_rfl) rfl #[.agg #[.slice A0_1 l0_1.length c0_1], .int .i64 t901] rfl (by (try simp only [List.map_toArray, List.map_cons, List.map_nil]); first | done | rfl | (simp only [List.length_drop, List.length_take]; rfl)) ?_; (with_reducible refine (laws_heldMapTab.calls k _ _ l0_1 t901 t902 _ ?side1 ?side2 A7.out).mono ?_); (case side1 => repeat (first | exact (Kd.C_below HR0_1.out (bl HB)) | (with_reducible refine Kd.C_alloc ?_ _) | (with_reducible refine Kd.C_drewN ?_ _) | (with_reducible refine Kd.C_drew ?_))); (case side2 => exact HC0_1.out); rintro e w11 ⟨rfl, hb⟩; refine ⟨_, rfl, ?_⟩; have n0_ := bkB BK900 hb; have n1_ := Aside0.mk (below_step (bl HB) hb); clear BK900; clear HB; have BK900 := n0_; have HB := n1_; clear n0_ n1_; (try clear hb); (try clear hb2); (try clear hk); (try clear hi)))
      go_ret
      exact ⟨by first | rfl | (simp [errW_none, errW_some] <;> rfl) | (simp [*, errW_none, errW_some] <;> rfl), by repeat (first | (with_reducible first | exact HB.out | apply below_alloc | apply pw_below_drewN | apply below_drew1 | refine below_set ?_ GE900.out) | exact HB.out)⟩
    · rw [if_neg c8] at H
      have c8b0 : decide (t902 < 0) = false := decide_eq_false c8
      clear c8
      replace H := Option.bind_eq_some_iff.mp H
      obtain ⟨t903, A120, H⟩ := H
      replace H : (if t903 < 0 then (some (-1)) else (some t903)) = some r := H
      have A12 := Aside0.mk A120
      clear A120
      by_cases c13 : t903 < 0
      · rw [if_pos c13] at H
        have c13b0 : decide (t903 < 0) = true := decide_eq_true c13
        clear c13
        obtain rfl := Option.some.inj H
        go_enter Try.func43, Try.ntmps43
        go_wp2_with (first | ((with_reducible refine gate_dst (N := 2) rfl ?_); refine box_event ?hg (N := 2) ?hd (cs := #[.slice A0_0 l0_0.length c0_0, .slice A0_1 l0_1.length c0_1, .slice A0_2 l0_2.length c0_2]) (t := 66) ?hr ?_; (case hd => rfl); (case hg => rfl); (case hr => first | (go_simp; done) | (go_simp; rfl)); intro gb900 hg w14 hbox hb; have n0_ := Aside0.mk (below_step (bl HB) hb); have n1_ := Aside0.mk (hbox); have n2_ := Aside0.mk ((by rw [hg]; exact (below_size (bl HB)) : w.heap.size ≤ gb900)); have n3_ := Aside0.mk ((by rw [hg]; exact (below_size (bl HB)) : w.heap.size ≤ gb900)); clear HB; have HB := n0_; have BK900 := n1_; have GW900 := n2_; have GE900 := n3_; clear n0_ n1_ n2_ n3_; clear hb hbox hg; have hcz15_0 : w14.cell? ⟨gb900, 0, none⟩ = some (.slice A0_0 l0_0.length c0_0) := (blk_cell BK900.out 0).trans rfl; have hcz15_1 : w14.cell? ⟨gb900, 1, none⟩ = some (.slice A0_1 l0_1.length c0_1) := (blk_cell BK900.out 1).trans rfl; have hcz15_2 : w14.cell? ⟨gb900, 2, none⟩ = some (.slice A0_2 l0_2.length c0_2) := (blk_cell BK900.out 2).trans rfl; have hfz15_0 := blk_frozen BK900.out 0; have hfz15_1 := blk_frozen BK900.out 1; have hfz15_2 := blk_frozen BK900.out 2) | ((with_reducible refine gate_callee (f := 80) rfl ?_); refine goesL_ (some 8) rfl rfl Try.func80 (by kernel_rfl) rfl #[.slice A0_0 l0_0.length c0_0, .int .i64 a1] rfl (by (try simp only [List.map_toArray, List.map_cons, List.map_nil]); first | done | rfl | (simp only [List.length_drop, List.length_take]; rfl)) ?_; (with_reducible refine (laws_heldRulRuleS.calls k _ _ l0_0 a1 t901 _ ?side1 ?side2 A3.out).mono ?_); (case side1 => repeat (first | exact (Kd.C_below HR0_0.out HB.out) | (with_reducible refine Kd.C_alloc ?_ _) | (with_reducible refine Kd.C_drewN ?_ _) | (with_reducible refine Kd.C_drew ?_))); (case side2 => exact HC0_0.out); rintro e w' ⟨rfl, ⟨nd, rfl⟩⟩; refine ⟨_, rfl, ?_⟩) | ((with_reducible refine gate_callee (f := 33) rfl ?_); refine goesL_ (some 14) rfl rfl Try.func33 (by kernel_rfl) rfl #[.agg #[.slice A0_1 l0_1.length c0_1], .int .i64 t901] rfl (by (try simp only [List.map_toArray, List.map_cons, List.map_nil]); first | done | rfl | (simp only [List.length_drop, List.length_take]; rfl)) ?_; (with_reducible refine (laws_heldMapTab.calls k _ _ l0_1 t901 t902 _ ?side1 ?side2 A7.out).mono ?_); (case side1 => repeat (first | exact (Kd.C_below HR0_1.out (bl HB)) | (with_reducible refine Kd.C_alloc ?_ _) | (with_reducible refine Kd.C_drewN ?_ _) | (with_reducible refine Kd.C_drew ?_))); (case side2 => exact HC0_1.out); rintro e w16 ⟨rfl, hb⟩; refine ⟨_, rfl, ?_⟩; have n0_ := bkB BK900 hb; have n1_ := Aside0.mk (below_step (bl HB) hb); clear BK900; clear HB; have BK900 := n0_; have HB := n1_; clear n0_ n1_; (try clear hb); (try clear hb2); (try clear hk); (try clear hi); have hcz17_0 : w16.cell? ⟨gb900, 0, none⟩ = some (.slice A0_0 l0_0.length c0_0) := (blk_cell BK900.out 0).trans rfl; have hcz17_1 : w16.cell? ⟨gb900, 1, none⟩ = some (.slice A0_1 l0_1.length c0_1) := (blk_cell BK900.out 1).trans rfl; have hcz17_2 : w16.cell? ⟨gb900, 2, none⟩ = some (.slice A0_2 l0_2.length c0_2) := (blk_cell BK900.out 2).trans rfl; have hfz17_0 := blk_frozen BK900.out 0; have hfz17_1 := blk_frozen BK900.out 1; have hfz17_2 := blk_frozen BK900.out 2) | ((with_reducible refine gate_callee (f := 81) rfl ?_); refine goesL_ (some 20) rfl rfl Try.func81 (by kernel_rfl) rfl #[.slice A0_2 l0_2.length c0_2, .int .i64 t902] rfl (by (try simp only [List.map_toArray, List.map_cons, List.map_nil]); first | done | rfl | (simp only [List.length_drop, List.length_take]; rfl)) ?_; (with_reducible refine (laws_heldBoxConnS.calls k _ _ l0_2 t902 t903 _ ?side1 ?side2 A12.out).mono ?_); (case side1 => repeat (first | exact (Kd.C_below HR0_2.out HB.out) | (with_reducible refine Kd.C_alloc ?_ _) | (with_reducible refine Kd.C_drewN ?_ _) | (with_reducible refine Kd.C_drew ?_))); (case side2 => exact HC0_2.out); rintro e w18 ⟨rfl, hb⟩; refine ⟨_, rfl, ?_⟩; have n0_ := bkB BK900 hb; have n1_ := Aside0.mk (below_step (bl HB) hb); clear BK900; clear HB; have BK900 := n0_; have HB := n1_; clear n0_ n1_; (try clear hb); (try clear hb2); (try clear hk); (try clear hi)))
        go_ret
        exact ⟨by first | rfl | (simp [errW_none, errW_some] <;> rfl) | (simp [*, errW_none, errW_some] <;> rfl), by repeat (first | (with_reducible first | exact HB.out | apply below_alloc | apply pw_below_drewN | apply below_drew1 | refine below_set ?_ GE900.out) | exact HB.out)⟩
      · rw [if_neg c13] at H
        have c13b0 : decide (t903 < 0) = false := decide_eq_false c13
        clear c13
        obtain rfl := Option.some.inj H
        go_enter Try.func43, Try.ntmps43
        go_wp2_with (first | ((with_reducible refine gate_dst (N := 2) rfl ?_); refine box_event ?hg (N := 2) ?hd (cs := #[.slice A0_0 l0_0.length c0_0, .slice A0_1 l0_1.length c0_1, .slice A0_2 l0_2.length c0_2]) (t := 66) ?hr ?_; (case hd => rfl); (case hg => rfl); (case hr => first | (go_simp; done) | (go_simp; rfl)); intro gb900 hg w19 hbox hb; have n0_ := Aside0.mk (below_step (bl HB) hb); have n1_ := Aside0.mk (hbox); have n2_ := Aside0.mk ((by rw [hg]; exact (below_size (bl HB)) : w.heap.size ≤ gb900)); have n3_ := Aside0.mk ((by rw [hg]; exact (below_size (bl HB)) : w.heap.size ≤ gb900)); clear HB; have HB := n0_; have BK900 := n1_; have GW900 := n2_; have GE900 := n3_; clear n0_ n1_ n2_ n3_; clear hb hbox hg; have hcz20_0 : w19.cell? ⟨gb900, 0, none⟩ = some (.slice A0_0 l0_0.length c0_0) := (blk_cell BK900.out 0).trans rfl; have hcz20_1 : w19.cell? ⟨gb900, 1, none⟩ = some (.slice A0_1 l0_1.length c0_1) := (blk_cell BK900.out 1).trans rfl; have hcz20_2 : w19.cell? ⟨gb900, 2, none⟩ = some (.slice A0_2 l0_2.length c0_2) := (blk_cell BK900.out 2).trans rfl; have hfz20_0 := blk_frozen BK900.out 0; have hfz20_1 := blk_frozen BK900.out 1; have hfz20_2 := blk_frozen BK900.out 2) | ((with_reducible refine gate_callee (f := 80) rfl ?_); refine goesL_ (some 8) rfl rfl Try.func80 (by kernel_rfl) rfl #[.slice A0_0 l0_0.length c0_0, .int .i64 a1] rfl (by (try simp only [List.map_toArray, List.map_cons, List.map_nil]); first | done | rfl | (simp only [List.length_drop, List.length_take]; rfl)) ?_; (with_reducible refine (laws_heldRulRuleS.calls k _ _ l0_0 a1 t901 _ ?side1 ?side2 A3.out).mono ?_); (case side1 => repeat (first | exact (Kd.C_below HR0_0.out HB.out) | (with_reducible refine Kd.C_alloc ?_ _) | (with_reducible refine Kd.C_drewN ?_ _) | (with_reducible refine Kd.C_drew ?_))); (case side2 => exact HC0_0.out); rintro e w' ⟨rfl, ⟨nd, rfl⟩⟩; refine ⟨_, rfl, ?_⟩) | ((with_reducible refine gate_callee (f := 33) rfl ?_); refine goesL_ (some 14) rfl rfl Try.func33 (by kernel_rfl) rfl #[.agg #[.slice A0_1 l0_1.length c0_1], .int .i64 t901] rfl (by (try simp only [List.map_toArray, List.map_cons, List.map_nil]); first | done | rfl | (simp only [List.length_drop, List.length_take]; rfl)) ?_; (with_reducible refine (laws_heldMapTab.calls k _ _ l0_1 t901 t902 _ ?side1 ?side2 A7.out).mono ?_); (case side1 => repeat (first | exact (Kd.C_below HR0_1.out (bl HB)) | (with_reducible refine Kd.C_alloc ?_ _) | (with_reducible refine Kd.C_drewN ?_ _) | (with_reducible refine Kd.C_drew ?_))); (case side2 => exact HC0_1.out); rintro e w21 ⟨rfl, hb⟩; refine ⟨_, rfl, ?_⟩; have n0_ := bkB BK900 hb; have n1_ := Aside0.mk (below_step (bl HB) hb); clear BK900; clear HB; have BK900 := n0_; have HB := n1_; clear n0_ n1_; (try clear hb); (try clear hb2); (try clear hk); (try clear hi); have hcz22_0 : w21.cell? ⟨gb900, 0, none⟩ = some (.slice A0_0 l0_0.length c0_0) := (blk_cell BK900.out 0).trans rfl; have hcz22_1 : w21.cell? ⟨gb900, 1, none⟩ = some (.slice A0_1 l0_1.length c0_1) := (blk_cell BK900.out 1).trans rfl; have hcz22_2 : w21.cell? ⟨gb900, 2, none⟩ = some (.slice A0_2 l0_2.length c0_2) := (blk_cell BK900.out 2).trans rfl; have hfz22_0 := blk_frozen BK900.out 0; have hfz22_1 := blk_frozen BK900.out 1; have hfz22_2 := blk_frozen BK900.out 2) | ((with_reducible refine gate_callee (f := 81) rfl ?_); refine goesL_ (some 20) rfl rfl Try.func81 (by kernel_rfl) rfl #[.slice A0_2 l0_2.length c0_2, .int .i64 t902] rfl (by (try simp only [List.map_toArray, List.map_cons, List.map_nil]); first | done | rfl | (simp only [List.length_drop, List.length_take]; rfl)) ?_; (with_reducible refine (laws_heldBoxConnS.calls k _ _ l0_2 t902 t903 _ ?side1 ?side2 A12.out).mono ?_); (case side1 => repeat (first | exact (Kd.C_below HR0_2.out HB.out) | (with_reducible refine Kd.C_alloc ?_ _) | (with_reducible refine Kd.C_drewN ?_ _) | (with_reducible refine Kd.C_drew ?_))); (case side2 => exact HC0_2.out); rintro e w23 ⟨rfl, hb⟩; refine ⟨_, rfl, ?_⟩; have n0_ := bkB BK900 hb; have n1_ := Aside0.mk (below_step (bl HB) hb); clear BK900; clear HB; have BK900 := n0_; have HB := n1_; clear n0_ n1_; (try clear hb); (try clear hb2); (try clear hk); (try clear hi)))
        go_ret
        exact ⟨by first | rfl | (simp [errW_none, errW_some] <;> rfl) | (simp [*, errW_none, errW_some] <;> rfl), by repeat (first | (with_reducible first | exact HB.out | apply below_alloc | apply pw_below_drewN | apply below_drew1 | refine below_set ?_ GE900.out) | exact HB.out)⟩

end Go.Proofs.Ytiocgkggegahhaa.P
