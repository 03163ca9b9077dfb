import Derived.Test.YtiocgkggegahhaaDoorGLawFnRulTextx0
-- written by hw.py for this claim
namespace Go.Proofs.YtiocgkggegahhaaDoor.P
open Go.RowKit Go.Proofs.YtiocgkggegahhaaDoorUFnRulText.PrintWords Go.Proofs.YtiocgkggegahhaaDoorUFnRulText.PrintLast Go.Proofs.YtiocgkggegahhaaDoorUFnRulText.PrintMore
attribute [local go_sem] max2_int min2_int max_two min_two max_three min_three max_four min_four
set_option linter.unusedVariables false
set_option linter.unusedSimpArgs false

/-! ### spec_l20Rule: function 24 -/
def spec_l20Rule.j0 : Nat → Int → List Int → Int → Bool → Int → Int → Int → Int → Int → Int → Option (Bool × Int × Int × Int × Int × Int × Int × Int)
  | 0, _, _, _, _, _, _, _, _, _, _ => none
  | k + 1, x1, x1000, x1001, x257000, x257001, x257002, x257003, x257004, x257005, x257006 => (spec_l20Rd_odd.f k x1000 x1001 x1).bind fun bt267 => (if bt267.1 = true then ((spec_l20Rd_pick.f k x1000 bt267.2 4).bind fun bt269 => (if bt269.1 = 0 then ((some (([0, 9, (-1)] : List Int) : List Int)).bind fun y271 => ((spec_l20Rd_pick.f k x1000 bt269.2 3).bind fun bt274 => (if 0 ≤ bt274.1 then (if bt274.1 < (y271.length : Int) then (some (x257000, rd y271 bt274.1, x257002, x257003, x257004, x257005, x257006, bt274.2)) else (none)) else (none)))) else (if bt269.1 = 1 then ((some (([110, 99] : List Int) : List Int)).bind fun y277 => ((spec_l20Rd_pick.f k x1000 bt269.2 2).bind fun bt280 => (if 0 ≤ bt280.1 then (if bt280.1 < (y277.length : Int) then (some (x257000, x257001, x257002, x257003, rd y277 bt280.1, x257005, x257006, bt280.2)) else (none)) else (none)))) else (if bt269.1 = 2 then ((some (([0, 1000] : List Int) : List Int)).bind fun y283 => ((spec_l20Rd_pick.f k x1000 bt269.2 2).bind fun bt286 => (if 0 ≤ bt286.1 then (if bt286.1 < (y283.length : Int) then (some (x257000, x257001, x257002, x257003, x257004, x257005, rd y283 bt286.1, bt286.2)) else (none)) else (none)))) else (some (x257000, x257001, 10, x257003, x257004, x257005, x257006, bt269.2)))))) else (some (x257000, x257001, x257002, x257003, x257004, x257005, x257006, bt267.2)))
def spec_l20Rule.f (k : Nat) (s0_0 : List Int) (s0_1 : Int) (a1 : Int) : Option (Bool × Int × Int × Int × Int × Int × Int × Int) := (spec_l20Rd_pick.f k s0_0 s0_1 2).bind fun bt244 => ((spec_l20Rd_pick.f k s0_0 bt244.2 4).bind fun bt246 => ((spec_l20Rd_pick.f k s0_0 bt246.2 4).bind fun bt248 => ((some (([1, 21, 7] : List Int) : List Int)).bind fun y250 => ((spec_l20Rd_pick.f k s0_0 bt248.2 3).bind fun bt253 => (if 0 ≤ bt253.1 then (if bt253.1 < (y250.length : Int) then ((spec_l20Rd_pick.f k s0_0 bt253.2 3).bind fun bt257 => ((spec_l20Rd_pick.f k s0_0 bt257.2 3).bind fun bt259 => ((some (([999, 21, rd y250 bt253.1] : List Int) : List Int)).bind fun y261 => ((spec_l20Rd_pick.f k s0_0 bt259.2 3).bind fun bt264 => (if 0 ≤ bt264.1 then (if bt264.1 < (y261.length : Int) then (if (rd y261 bt264.1) < (rd y250 bt253.1) then (spec_l20Rule.j0 k a1 s0_0 bt264.2 (bt244.1 == 0) (wrap64 (1 + bt246.1)) (wrap64 ((wrap64 (1 + bt246.1)) + bt257.1)) (wrap64 (100 + bt248.1)) (wrap64 ((wrap64 (100 + bt248.1)) + bt259.1)) (rd y250 bt253.1) (rd y250 bt253.1)) else (spec_l20Rule.j0 k a1 s0_0 bt264.2 (bt244.1 == 0) (wrap64 (1 + bt246.1)) (wrap64 ((wrap64 (1 + bt246.1)) + bt257.1)) (wrap64 (100 + bt248.1)) (wrap64 ((wrap64 (100 + bt248.1)) + bt259.1)) (rd y250 bt253.1) (rd y261 bt264.1))) else (none)) else (none)))))) else (none)) else (none))))))
theorem spec_l20Rule.mono_l : ∀ k, (∀ y0 y1 y2 y3 y4 y5 y6 y7 y8 y9, LeO (spec_l20Rule.j0 k y0 y1 y2 y3 y4 y5 y6 y7 y8 y9) (spec_l20Rule.j0 (k + 1) y0 y1 y2 y3 y4 y5 y6 y7 y8 y9))
  | 0 => fun _ _ _ _ _ _ _ _ _ _ r h => by simp [spec_l20Rule.j0] at h
  | k + 1 => by
    have ih0 := spec_l20Rule.mono_l k
    · intro y0 y1 y2 y3 y4 y5 y6 y7 y8 y9
      unfold spec_l20Rule.j0
      repeat' first
      | (with_reducible exact ih0 _ _ _ _ _ _ _ _ _ _)
      | (with_reducible exact spec_l20Rd_odd.mono _ _ _ _)
      | (with_reducible exact spec_l20Rd_pick.mono _ _ _ _)
      | (with_reducible exact LeO.refl _)
      | (with_reducible exact LeO.none _)
      | (with_reducible refine LeO.ite ?_ ?_)
      | (with_reducible refine LeO.bind ?_ (fun _ => ?_))
      | exact ih0 _ _ _ _ _ _ _ _ _ _
      | exact spec_l20Rd_odd.mono _ _ _ _
      | exact spec_l20Rd_pick.mono _ _ _ _
      | exact LeO.none _
      | refine LeO.ite ?_ ?_
      | refine LeO.bind ?_ (fun _ => ?_)
theorem spec_l20Rule.mono : ∀ a0 a1 a2 k, LeO (spec_l20Rule.f k a0 a1 a2) (spec_l20Rule.f (k + 1) a0 a1 a2) := by
  intro a0 a1 a2 k
  have ih0 := spec_l20Rule.mono_l k
  unfold spec_l20Rule.f
  repeat' first
      | (with_reducible exact ih0 _ _ _ _ _ _ _ _ _ _)
      | (with_reducible exact spec_l20Rd_odd.mono _ _ _ _)
      | (with_reducible exact spec_l20Rd_pick.mono _ _ _ _)
      | (with_reducible exact LeO.refl _)
      | (with_reducible exact LeO.none _)
      | (with_reducible refine LeO.ite ?_ ?_)
      | (with_reducible refine LeO.bind ?_ (fun _ => ?_))
      | exact ih0 _ _ _ _ _ _ _ _ _ _
      | exact spec_l20Rd_odd.mono _ _ _ _
      | exact spec_l20Rd_pick.mono _ _ _ _
      | exact LeO.none _
      | refine LeO.ite ?_ ?_
      | refine LeO.bind ?_ (fun _ => ?_)
def spec_l20Rule.T4 : Bool × List (List Nat × List Nat) := (true, [([], []), ([0], [0]), ([1], [1]), ([], []), ([3], [3]), ([2, 4], [2, 4]), ([5], [5]), ([0, 1, 2, 3, 4, 5, 6], []), ([7, 6, 4, 0, 1, 2, 3, 4, 5, 6], [6, 7])])
def spec_l20Rule.B4 : List Nat := [0, 1, 3, 0, 8, 31, 63, 127, 255]
theorem spec_l20Rule.tab4 : rtab .any (opsOf Tryd.f24 4) = spec_l20Rule.T4 := by kernel_rfl
theorem spec_l20Rule.bits4 : waitsOk spec_l20Rule.T4.2 spec_l20Rule.B4 = true := by kernel_rfl
set_option maxHeartbeats 8000000 in
set_option maxRecDepth 100000 in
theorem spec_l20Rule.calls (k : Nat) (g : Nat) (s0_0 : List Int) (s0_1 : Int) (a1 : Int) (r1 : Bool) (r2 : Int) (r3 : Int) (r4 : Int) (r5 : Int) (r6 : Int) (r7 : Int) (r8 : Int) (w0 w : World) (hI : IsS62 w0 w g s0_0 s0_1) (hB : Below w0.heap.size w0 w) (h : spec_l20Rule.f k s0_0 s0_1 a1 = some (r1, r2, r3, r4, r5, r6, r7, r8)) :
    Calls Tryd.prog 24 #[.pointer (some ⟨g, 0, none⟩), .int .i64 a1] w fun e w' => e = .returned (.agg #[.bool r1, .int .i64 r2, .int .i64 r3, .int .i64 r4, .int .i64 r5, .int .i64 r6, .int .i64 r7]) ∧ IsS62 w0 w' g s0_0 r8 ∧ Below w0.heap.size w0 w' ∧ KeepBut w w' g none := by
  have hu25 := Tryd.underlying25
  have HI0 := Aside0.mk hI
  have HK := Aside0.mk (KeepBut.refl w g none)
  have HL := Aside0.mk hB.size
  clear hI
  have HW0 := Aside0.mk hB.size
  have HB := Aside0.mk hB
  clear hB
  have H : ((spec_l20Rd_pick.f k s0_0 s0_1 2).bind fun bt244 => ((spec_l20Rd_pick.f k s0_0 bt244.2 4).bind fun bt246 => ((spec_l20Rd_pick.f k s0_0 bt246.2 4).bind fun bt248 => ((some (([1, 21, 7] : List Int) : List Int)).bind fun y250 => ((spec_l20Rd_pick.f k s0_0 bt248.2 3).bind fun bt253 => (if 0 ≤ bt253.1 then (if bt253.1 < (y250.length : Int) then ((spec_l20Rd_pick.f k s0_0 bt253.2 3).bind fun bt257 => ((spec_l20Rd_pick.f k s0_0 bt257.2 3).bind fun bt259 => ((some (([999, 21, rd y250 bt253.1] : List Int) : List Int)).bind fun y261 => ((spec_l20Rd_pick.f k s0_0 bt259.2 3).bind fun bt264 => (if 0 ≤ bt264.1 then (if bt264.1 < (y261.length : Int) then (if (rd y261 bt264.1) < (rd y250 bt253.1) then (spec_l20Rule.j0 k a1 s0_0 bt264.2 (bt244.1 == 0) (wrap64 (1 + bt246.1)) (wrap64 ((wrap64 (1 + bt246.1)) + bt257.1)) (wrap64 (100 + bt248.1)) (wrap64 ((wrap64 (100 + bt248.1)) + bt259.1)) (rd y250 bt253.1) (rd y250 bt253.1)) else (spec_l20Rule.j0 k a1 s0_0 bt264.2 (bt244.1 == 0) (wrap64 (1 + bt246.1)) (wrap64 ((wrap64 (1 + bt246.1)) + bt257.1)) (wrap64 (100 + bt248.1)) (wrap64 ((wrap64 (100 + bt248.1)) + bt259.1)) (rd y250 bt253.1) (rd y261 bt264.1))) else (none)) else (none)))))) else (none)) else (none))))))) = some (r1, r2, r3, r4, r5, r6, r7, r8) := h
  clear h
  replace H := Option.bind_eq_some_iff.mp H
  obtain ⟨⟨t244, t245⟩, A30, H⟩ := H
  replace H : ((spec_l20Rd_pick.f k s0_0 t245 4).bind fun bt246 => ((spec_l20Rd_pick.f k s0_0 bt246.2 4).bind fun bt248 => ((some (([1, 21, 7] : List Int) : List Int)).bind fun y250 => ((spec_l20Rd_pick.f k s0_0 bt248.2 3).bind fun bt253 => (if 0 ≤ bt253.1 then (if bt253.1 < (y250.length : Int) then ((spec_l20Rd_pick.f k s0_0 bt253.2 3).bind fun bt257 => ((spec_l20Rd_pick.f k s0_0 bt257.2 3).bind fun bt259 => ((some (([999, 21, rd y250 bt253.1] : List Int) : List Int)).bind fun y261 => ((spec_l20Rd_pick.f k s0_0 bt259.2 3).bind fun bt264 => (if 0 ≤ bt264.1 then (if bt264.1 < (y261.length : Int) then (if (rd y261 bt264.1) < (rd y250 bt253.1) then (spec_l20Rule.j0 k a1 s0_0 bt264.2 (t244 == 0) (wrap64 (1 + bt246.1)) (wrap64 ((wrap64 (1 + bt246.1)) + bt257.1)) (wrap64 (100 + bt248.1)) (wrap64 ((wrap64 (100 + bt248.1)) + bt259.1)) (rd y250 bt253.1) (rd y250 bt253.1)) else (spec_l20Rule.j0 k a1 s0_0 bt264.2 (t244 == 0) (wrap64 (1 + bt246.1)) (wrap64 ((wrap64 (1 + bt246.1)) + bt257.1)) (wrap64 (100 + bt248.1)) (wrap64 ((wrap64 (100 + bt248.1)) + bt259.1)) (rd y250 bt253.1) (rd y261 bt264.1))) else (none)) else (none)))))) else (none)) else (none)))))) = some (r1, r2, r3, r4, r5, r6, r7, r8) := H
  have A3 := Aside0.mk A30
  clear A30
  replace H := Option.bind_eq_some_iff.mp H
  obtain ⟨⟨t246, t247⟩, A40, H⟩ := H
  replace H : ((spec_l20Rd_pick.f k s0_0 t247 4).bind fun bt248 => ((some (([1, 21, 7] : List Int) : List Int)).bind fun y250 => ((spec_l20Rd_pick.f k s0_0 bt248.2 3).bind fun bt253 => (if 0 ≤ bt253.1 then (if bt253.1 < (y250.length : Int) then ((spec_l20Rd_pick.f k s0_0 bt253.2 3).bind fun bt257 => ((spec_l20Rd_pick.f k s0_0 bt257.2 3).bind fun bt259 => ((some (([999, 21, rd y250 bt253.1] : List Int) : List Int)).bind fun y261 => ((spec_l20Rd_pick.f k s0_0 bt259.2 3).bind fun bt264 => (if 0 ≤ bt264.1 then (if bt264.1 < (y261.length : Int) then (if (rd y261 bt264.1) < (rd y250 bt253.1) then (spec_l20Rule.j0 k a1 s0_0 bt264.2 (t244 == 0) (wrap64 (1 + t246)) (wrap64 ((wrap64 (1 + t246)) + bt257.1)) (wrap64 (100 + bt248.1)) (wrap64 ((wrap64 (100 + bt248.1)) + bt259.1)) (rd y250 bt253.1) (rd y250 bt253.1)) else (spec_l20Rule.j0 k a1 s0_0 bt264.2 (t244 == 0) (wrap64 (1 + t246)) (wrap64 ((wrap64 (1 + t246)) + bt257.1)) (wrap64 (100 + bt248.1)) (wrap64 ((wrap64 (100 + bt248.1)) + bt259.1)) (rd y250 bt253.1) (rd y261 bt264.1))) else (none)) else (none)))))) else (none)) else (none))))) = some (r1, r2, r3, r4, r5, r6, r7, r8) := H
  have A4 := Aside0.mk A40
  clear A40
  replace H := Option.bind_eq_some_iff.mp H
  obtain ⟨⟨t248, t249⟩, A50, H⟩ := H
  replace H : ((some (([1, 21, 7] : List Int) : List Int)).bind fun y250 => ((spec_l20Rd_pick.f k s0_0 t249 3).bind fun bt253 => (if 0 ≤ bt253.1 then (if bt253.1 < (y250.length : Int) then ((spec_l20Rd_pick.f k s0_0 bt253.2 3).bind fun bt257 => ((spec_l20Rd_pick.f k s0_0 bt257.2 3).bind fun bt259 => ((some (([999, 21, rd y250 bt253.1] : List Int) : List Int)).bind fun y261 => ((spec_l20Rd_pick.f k s0_0 bt259.2 3).bind fun bt264 => (if 0 ≤ bt264.1 then (if bt264.1 < (y261.length : Int) then (if (rd y261 bt264.1) < (rd y250 bt253.1) then (spec_l20Rule.j0 k a1 s0_0 bt264.2 (t244 == 0) (wrap64 (1 + t246)) (wrap64 ((wrap64 (1 + t246)) + bt257.1)) (wrap64 (100 + t248)) (wrap64 ((wrap64 (100 + t248)) + bt259.1)) (rd y250 bt253.1) (rd y250 bt253.1)) else (spec_l20Rule.j0 k a1 s0_0 bt264.2 (t244 == 0) (wrap64 (1 + t246)) (wrap64 ((wrap64 (1 + t246)) + bt257.1)) (wrap64 (100 + t248)) (wrap64 ((wrap64 (100 + t248)) + bt259.1)) (rd y250 bt253.1) (rd y261 bt264.1))) else (none)) else (none)))))) else (none)) else (none)))) = some (r1, r2, r3, r4, r5, r6, r7, r8) := H
  have A5 := Aside0.mk A50
  clear A50
  obtain ⟨y250, hy250⟩ : ∃ y_ : List Int, y_ = (([1, 21, 7] : List Int)) := ⟨_, rfl⟩
  replace H : ((spec_l20Rd_pick.f k s0_0 t249 3).bind fun bt253 => (if 0 ≤ bt253.1 then (if bt253.1 < (y250.length : Int) then ((spec_l20Rd_pick.f k s0_0 bt253.2 3).bind fun bt257 => ((spec_l20Rd_pick.f k s0_0 bt257.2 3).bind fun bt259 => ((some (([999, 21, rd y250 bt253.1] : List Int) : List Int)).bind fun y261 => ((spec_l20Rd_pick.f k s0_0 bt259.2 3).bind fun bt264 => (if 0 ≤ bt264.1 then (if bt264.1 < (y261.length : Int) then (if (rd y261 bt264.1) < (rd y250 bt253.1) then (spec_l20Rule.j0 k a1 s0_0 bt264.2 (t244 == 0) (wrap64 (1 + t246)) (wrap64 ((wrap64 (1 + t246)) + bt257.1)) (wrap64 (100 + t248)) (wrap64 ((wrap64 (100 + t248)) + bt259.1)) (rd y250 bt253.1) (rd y250 bt253.1)) else (spec_l20Rule.j0 k a1 s0_0 bt264.2 (t244 == 0) (wrap64 (1 + t246)) (wrap64 ((wrap64 (1 + t246)) + bt257.1)) (wrap64 (100 + t248)) (wrap64 ((wrap64 (100 + t248)) + bt259.1)) (rd y250 bt253.1) (rd y261 bt264.1))) else (none)) else (none)))))) else (none)) else (none))) = some (r1, r2, r3, r4, r5, r6, r7, r8) := by first | (rw [hy250]; with_reducible exact H) | (have H2_ := (Option.bind_some _ _).symm.trans H; rw [hy250]; with_reducible exact H2_) | (have H2_ := (Option.bind_some _ _).symm.trans H; with_reducible exact H2_) | with_reducible exact H | (rw [hy250]; exact H) | exact H
  have Ny250 := Aside0.mk hy250
  clear hy250
  replace H := Option.bind_eq_some_iff.mp H
  obtain ⟨⟨t253, t254⟩, A60, H⟩ := H
  replace H : (if 0 ≤ t253 then (if t253 < (y250.length : Int) then ((spec_l20Rd_pick.f k s0_0 t254 3).bind fun bt257 => ((spec_l20Rd_pick.f k s0_0 bt257.2 3).bind fun bt259 => ((some (([999, 21, rd y250 t253] : List Int) : List Int)).bind fun y261 => ((spec_l20Rd_pick.f k s0_0 bt259.2 3).bind fun bt264 => (if 0 ≤ bt264.1 then (if bt264.1 < (y261.length : Int) then (if (rd y261 bt264.1) < (rd y250 t253) then (spec_l20Rule.j0 k a1 s0_0 bt264.2 (t244 == 0) (wrap64 (1 + t246)) (wrap64 ((wrap64 (1 + t246)) + bt257.1)) (wrap64 (100 + t248)) (wrap64 ((wrap64 (100 + t248)) + bt259.1)) (rd y250 t253) (rd y250 t253)) else (spec_l20Rule.j0 k a1 s0_0 bt264.2 (t244 == 0) (wrap64 (1 + t246)) (wrap64 ((wrap64 (1 + t246)) + bt257.1)) (wrap64 (100 + t248)) (wrap64 ((wrap64 (100 + t248)) + bt259.1)) (rd y250 t253) (rd y261 bt264.1))) else (none)) else (none)))))) else (none)) else (none)) = some (r1, r2, r3, r4, r5, r6, r7, r8) := H
  have A6 := Aside0.mk A60
  clear A60
  by_cases c7 : 0 ≤ t253
  · rw [if_pos c7] at H
    have c7b0 : decide (0 ≤ t253) = true := decide_eq_true c7
    clear c7
    by_cases c8 : t253 < (y250.length : Int)
    · rw [if_pos c8] at H
      have c8b0 : decide (t253 < (y250.length : Int)) = true := decide_eq_true c8
      clear c8
      replace H := Option.bind_eq_some_iff.mp H
      obtain ⟨⟨t257, t258⟩, A90, H⟩ := H
      replace H : ((spec_l20Rd_pick.f k s0_0 t258 3).bind fun bt259 => ((some (([999, 21, rd y250 t253] : List Int) : List Int)).bind fun y261 => ((spec_l20Rd_pick.f k s0_0 bt259.2 3).bind fun bt264 => (if 0 ≤ bt264.1 then (if bt264.1 < (y261.length : Int) then (if (rd y261 bt264.1) < (rd y250 t253) then (spec_l20Rule.j0 k a1 s0_0 bt264.2 (t244 == 0) (wrap64 (1 + t246)) (wrap64 ((wrap64 (1 + t246)) + t257)) (wrap64 (100 + t248)) (wrap64 ((wrap64 (100 + t248)) + bt259.1)) (rd y250 t253) (rd y250 t253)) else (spec_l20Rule.j0 k a1 s0_0 bt264.2 (t244 == 0) (wrap64 (1 + t246)) (wrap64 ((wrap64 (1 + t246)) + t257)) (wrap64 (100 + t248)) (wrap64 ((wrap64 (100 + t248)) + bt259.1)) (rd y250 t253) (rd y261 bt264.1))) else (none)) else (none))))) = some (r1, r2, r3, r4, r5, r6, r7, r8) := H
      have A9 := Aside0.mk A90
      clear A90
      replace H := Option.bind_eq_some_iff.mp H
      obtain ⟨⟨t259, t260⟩, A100, H⟩ := H
      replace H : ((some (([999, 21, rd y250 t253] : List Int) : List Int)).bind fun y261 => ((spec_l20Rd_pick.f k s0_0 t260 3).bind fun bt264 => (if 0 ≤ bt264.1 then (if bt264.1 < (y261.length : Int) then (if (rd y261 bt264.1) < (rd y250 t253) then (spec_l20Rule.j0 k a1 s0_0 bt264.2 (t244 == 0) (wrap64 (1 + t246)) (wrap64 ((wrap64 (1 + t246)) + t257)) (wrap64 (100 + t248)) (wrap64 ((wrap64 (100 + t248)) + t259)) (rd y250 t253) (rd y250 t253)) else (spec_l20Rule.j0 k a1 s0_0 bt264.2 (t244 == 0) (wrap64 (1 + t246)) (wrap64 ((wrap64 (1 + t246)) + t257)) (wrap64 (100 + t248)) (wrap64 ((wrap64 (100 + t248)) + t259)) (rd y250 t253) (rd y261 bt264.1))) else (none)) else (none)))) = some (r1, r2, r3, r4, r5, r6, r7, r8) := H
      have A10 := Aside0.mk A100
      clear A100
      obtain ⟨y261, hy261⟩ : ∃ y_ : List Int, y_ = (([999, 21, rd y250 t253] : List Int)) := ⟨_, rfl⟩
      replace H : ((spec_l20Rd_pick.f k s0_0 t260 3).bind fun bt264 => (if 0 ≤ bt264.1 then (if bt264.1 < (y261.length : Int) then (if (rd y261 bt264.1) < (rd y250 t253) then (spec_l20Rule.j0 k a1 s0_0 bt264.2 (t244 == 0) (wrap64 (1 + t246)) (wrap64 ((wrap64 (1 + t246)) + t257)) (wrap64 (100 + t248)) (wrap64 ((wrap64 (100 + t248)) + t259)) (rd y250 t253) (rd y250 t253)) else (spec_l20Rule.j0 k a1 s0_0 bt264.2 (t244 == 0) (wrap64 (1 + t246)) (wrap64 ((wrap64 (1 + t246)) + t257)) (wrap64 (100 + t248)) (wrap64 ((wrap64 (100 + t248)) + t259)) (rd y250 t253) (rd y261 bt264.1))) else (none)) else (none))) = some (r1, r2, r3, r4, r5, r6, r7, r8) := by first | (rw [hy261]; with_reducible exact H) | (have H2_ := (Option.bind_some _ _).symm.trans H; rw [hy261]; with_reducible exact H2_) | (have H2_ := (Option.bind_some _ _).symm.trans H; with_reducible exact H2_) | with_reducible exact H | (rw [hy261]; exact H) | exact H
      have Ny261 := Aside0.mk hy261
      clear hy261
      replace H := Option.bind_eq_some_iff.mp H
      obtain ⟨⟨t264, t265⟩, A110, H⟩ := H
      replace H : (if 0 ≤ t264 then (if t264 < (y261.length : Int) then (if (rd y261 t264) < (rd y250 t253) then (spec_l20Rule.j0 k a1 s0_0 t265 (t244 == 0) (wrap64 (1 + t246)) (wrap64 ((wrap64 (1 + t246)) + t257)) (wrap64 (100 + t248)) (wrap64 ((wrap64 (100 + t248)) + t259)) (rd y250 t253) (rd y250 t253)) else (spec_l20Rule.j0 k a1 s0_0 t265 (t244 == 0) (wrap64 (1 + t246)) (wrap64 ((wrap64 (1 + t246)) + t257)) (wrap64 (100 + t248)) (wrap64 ((wrap64 (100 + t248)) + t259)) (rd y250 t253) (rd y261 t264))) else (none)) else (none)) = some (r1, r2, r3, r4, r5, r6, r7, r8) := H
      have A11 := Aside0.mk A110
      clear A110
      by_cases c12 : 0 ≤ t264
      · rw [if_pos c12] at H
        have c12b0 : decide (0 ≤ t264) = true := decide_eq_true c12
        clear c12
        by_cases c13 : t264 < (y261.length : Int)
        · rw [if_pos c13] at H
          have c13b0 : decide (t264 < (y261.length : Int)) = true := decide_eq_true c13
          clear c13
          have HC14 := Aside0.mk H
          clear H
          go_enter Tryd.func24, Tryd.ntmps24
          try go_wp2_with (first | ((with_reducible refine gate_dst (N := 4) rfl ?_); refine box_event ?hg (N := 4) ?hd (cs := #[.bool false, .int .i64 0, .int .i64 0, .int .i64 0, .int .i64 0, .int .i64 0, .int .i64 0]) (t := 25) ?hr ?_; (case hd => rfl); (case hg => rfl); (case hr => first | (go_simp; done) | (go_simp; rfl)); intro gb243 hg w15 hbox hb; have n0_ := Aside0.mk (IsS62.below (by repeat (first | (with_reducible first | exact HI0.out | apply IsS62.alloc | apply IsS62.drewN | apply IsS62.drew | apply IsS62.set_1) | exact HI0.out)) hb); have n1_ := Aside0.mk (KeepBut.trans (by repeat (first | (with_reducible first | exact HK.out | apply KeepBut.set_ | apply keep_drewN | apply keep_drew | apply keep_alloc) | exact HK.out)) (KeepBut.of_below hb g none) (.inl rfl)); have n2_ := Aside0.mk (below_step (by repeat (first | (with_reducible first | exact HB.out | apply below_alloc | apply pw_below_drewN | apply below_drew1 | refine below_set ?_ (IsS62.ge HI0.out)) | exact HB.out)) hb); have n3_ := Aside0.mk (hbox); have n4_ := Aside0.mk ((by rw [hg]; exact (keep_size (w := w) (g := g) (row := none) (by repeat (first | (with_reducible first | exact HK.out | apply KeepBut.set_ | apply keep_drewN | apply keep_drew | apply keep_alloc) | exact HK.out))) : w.heap.size ≤ gb243)); have n5_ := Aside0.mk ((Nat.le_trans HW0.out (by rw [hg]; exact (keep_size (w := w) (g := g) (row := none) (by repeat (first | (with_reducible first | exact HK.out | apply KeepBut.set_ | apply keep_drewN | apply keep_drew | apply keep_alloc) | exact HK.out))) : w.heap.size ≤ gb243) : w0.heap.size ≤ gb243)); have n6_ := Aside0.mk ((by rw [hg]; exact Nat.ne_of_lt (IsS62.lt (show IsS62 w0 _ g s0_0 s0_1 from by repeat (first | (with_reducible first | exact HI0.out | apply IsS62.alloc | apply IsS62.drewN | apply IsS62.drew | apply IsS62.set_1) | exact HI0.out))) : g ≠ gb243)); have n7_ := Aside0.mk ((by rw [hg]; exact Nat.ne_of_gt (IsS62.lt (show IsS62 w0 _ g s0_0 s0_1 from by repeat (first | (with_reducible first | exact HI0.out | apply IsS62.alloc | apply IsS62.drewN | apply IsS62.drew | apply IsS62.set_1) | exact HI0.out))) : gb243 ≠ g)); clear HI0; clear HK; clear HB; have HI0 := n0_; have HK := n1_; have HB := n2_; have BK243 := n3_; have GW243 := n4_; have GE243 := n5_; have NB0_243 := n6_; have NB243_0 := n7_; clear n0_ n1_ n2_ n3_ n4_ n5_ n6_ n7_; clear hb hbox hg) | ((with_reducible refine gate_callee (f := 26) rfl ?_); refine goesL_ (some 7) rfl rfl Tryd.func26 (by kernel_rfl) rfl #[.pointer (some ⟨g, 0, none⟩), .int .i64 2] rfl (by (try simp only [List.map_toArray, List.map_cons, List.map_nil]); first | done | rfl | (simp only [List.length_drop, List.length_take]; rfl)) ?_; (with_reducible refine (spec_l20Rd_pick.calls k g s0_0 s0_1 2 t244 t245 w0 _ ?side1 ?side2 A3.out).mono ?_); (case side1 => repeat (first | (with_reducible first | exact HI0.out | apply IsS62.alloc | apply IsS62.drewN | apply IsS62.drew | apply IsS62.set_1 | refine IsS62.far ?_ NB0_243.out _) | exact HI0.out)); (case side2 => repeat (first | (with_reducible first | exact HB.out | apply below_alloc | apply pw_below_drewN | apply below_drew1 | refine below_set ?_ (IsS62.ge HI0.out) | refine below_set ?_ GE243.out) | exact HB.out)); rintro e w16 ⟨rfl, hi, hb, hk⟩; refine ⟨_, rfl, ?_⟩; have n0_ := Aside0.mk (KeepBut.blk hk (g' := gb243) (o := .cells #[.bool false, .int .i64 0, .int .i64 0, .int .i64 0, .int .i64 0, .int .i64 0, .int .i64 0] 25 (0, 0)) (bk BK243) NB243_0.out (by simp)); have n1_ := Aside0.mk (KeepBut.trans (by repeat (first | (with_reducible first | exact HK.out | apply KeepBut.set_ | apply keep_drewN | apply keep_drew | apply keep_alloc | refine keep_far ?_ GW243.out _) | exact HK.out)) hk (.inl rfl)); have n2_ := Aside0.mk (hb); have n3_ := Aside0.mk (hi); clear BK243; clear HK; clear HB; clear HI0; have BK243 := n0_; have HK := n1_; have HB := n2_; have HI0 := n3_; clear n0_ n1_ n2_ n3_; (try clear hb); (try clear hb2); (try clear hk); (try clear hi)) | ((with_reducible refine gate_callee (f := 26) rfl ?_); refine goesL_ (some 10) rfl rfl Tryd.func26 (by kernel_rfl) rfl #[.pointer (some ⟨g, 0, none⟩), .int .i64 4] rfl (by (try simp only [List.map_toArray, List.map_cons, List.map_nil]); first | done | rfl | (simp only [List.length_drop, List.length_take]; rfl)) ?_; (with_reducible refine (spec_l20Rd_pick.calls k g s0_0 t245 4 t246 t247 w0 _ ?side1 ?side2 A4.out).mono ?_); (case side1 => repeat (first | (with_reducible first | exact HI0.out | apply IsS62.alloc | apply IsS62.drewN | apply IsS62.drew | apply IsS62.set_1 | refine IsS62.far ?_ NB0_243.out _) | exact HI0.out)); (case side2 => repeat (first | (with_reducible first | exact HB.out | apply below_alloc | apply pw_below_drewN | apply below_drew1 | refine below_set ?_ (IsS62.ge HI0.out) | refine below_set ?_ GE243.out) | exact HB.out)); rintro e w17 ⟨rfl, hi, hb, hk⟩; refine ⟨_, rfl, ?_⟩; have n0_ := Aside0.mk (KeepBut.blk hk (g' := gb243) (o := .cells #[.bool false, .int .i64 0, .int .i64 0, .int .i64 0, .int .i64 0, .int .i64 0, .int .i64 0] 25 (0, 0)) (bk BK243) NB243_0.out (by simp)); have n1_ := Aside0.mk (KeepBut.trans (by repeat (first | (with_reducible first | exact HK.out | apply KeepBut.set_ | apply keep_drewN | apply keep_drew | apply keep_alloc | refine keep_far ?_ GW243.out _) | exact HK.out)) hk (.inl rfl)); have n2_ := Aside0.mk (hb); have n3_ := Aside0.mk (hi); clear BK243; clear HK; clear HB; clear HI0; have BK243 := n0_; have HK := n1_; have HB := n2_; have HI0 := n3_; clear n0_ n1_ n2_ n3_; (try clear hb); (try clear hb2); (try clear hk); (try clear hi)) | ((with_reducible refine gate_callee (f := 26) rfl ?_); refine goesL_ (some 13) rfl rfl Tryd.func26 (by kernel_rfl) rfl #[.pointer (some ⟨g, 0, none⟩), .int .i64 4] rfl (by (try simp only [List.map_toArray, List.map_cons, List.map_nil]); first | done | rfl | (simp only [List.length_drop, List.length_take]; rfl)) ?_; (with_reducible refine (spec_l20Rd_pick.calls k g s0_0 t247 4 t248 t249 w0 _ ?side1 ?side2 A5.out).mono ?_); (case side1 => repeat (first | (with_reducible first | exact HI0.out | apply IsS62.alloc | apply IsS62.drewN | apply IsS62.drew | apply IsS62.set_1 | refine IsS62.far ?_ NB0_243.out _) | exact HI0.out)); (case side2 => repeat (first | (with_reducible first | exact HB.out | apply below_alloc | apply pw_below_drewN | apply below_drew1 | refine below_set ?_ (IsS62.ge HI0.out) | refine below_set ?_ GE243.out) | exact HB.out)); rintro e w18 ⟨rfl, hi, hb, hk⟩; refine ⟨_, rfl, ?_⟩; have n0_ := Aside0.mk (KeepBut.blk hk (g' := gb243) (o := .cells #[.bool false, .int .i64 0, .int .i64 0, .int .i64 0, .int .i64 0, .int .i64 0, .int .i64 0] 25 (0, 0)) (bk BK243) NB243_0.out (by simp)); have n1_ := Aside0.mk (KeepBut.trans (by repeat (first | (with_reducible first | exact HK.out | apply KeepBut.set_ | apply keep_drewN | apply keep_drew | apply keep_alloc | refine keep_far ?_ GW243.out _) | exact HK.out)) hk (.inl rfl)); have n2_ := Aside0.mk (hb); have n3_ := Aside0.mk (hi); clear BK243; clear HK; clear HB; clear HI0; have BK243 := n0_; have HK := n1_; have HB := n2_; have HI0 := n3_; clear n0_ n1_ n2_ n3_; (try clear hb); (try clear hb2); (try clear hk); (try clear hi)) | ((with_reducible refine gate_dst (N := 15) rfl ?_); refine Kd.R_lit (Kd.int .i64) _ 3 ?hg (N := 15) ?hd (xs := ([1, 21, 7] : List Int)) (inner := [.int .i64 1, .int .i64 21, .int .i64 7]) (ok := fun _ => True) (okp := fun _ => True) ?hr ?hp (fun _ hk => hk) trivial (Below.refl _ _) (Nat.le_refl _) (by simp) ?_; (case hd => rfl); (case hg => rfl); (case hr => first | (go_simp; done) | (go_simp; rfl)); (case hp => exact (Reps.one (show Kd.M (Kd.int .i64) _ _ _ 1 [.int .i64 1] from rfl) (Reps.one (show Kd.M (Kd.int .i64) _ _ _ 21 [.int .i64 21] from rfl) (Reps.one (show Kd.M (Kd.int .i64) _ _ _ 7 [.int .i64 7] from rfl) (Reps.none _ _))))); intro v251 w19 ho20 hb hg_ hnew_; clear hg_ hnew_; (first | rw [← Ny250.out] at ho20 | (simp only [Int.reduceToNat] at ho20; rw [← Ny250.out] at ho20)); have n0_ := Aside0.mk (Kd.R_lower ho20 (keep_size (w := w) (g := g) (row := none) (by repeat (first | (with_reducible first | exact HK.out | apply KeepBut.set_ | apply keep_drewN | apply keep_drew | apply keep_alloc | refine keep_far ?_ GW243.out _) | exact HK.out)))); have n1_ := Aside0.mk (IsS62.below (by repeat (first | (with_reducible first | exact HI0.out | apply IsS62.alloc | apply IsS62.drewN | apply IsS62.drew | apply IsS62.set_1 | refine IsS62.far ?_ NB0_243.out _) | exact HI0.out)) hb); have n2_ := bkB BK243 hb; have n3_ := Aside0.mk (KeepBut.trans (by repeat (first | (with_reducible first | exact HK.out | apply KeepBut.set_ | apply keep_drewN | apply keep_drew | apply keep_alloc | refine keep_far ?_ GW243.out _) | exact HK.out)) (KeepBut.of_below hb g none) (.inl rfl)); have n4_ := Aside0.mk (below_step (by repeat (first | (with_reducible first | exact HB.out | apply below_alloc | apply pw_below_drewN | apply below_drew1 | refine below_set ?_ (IsS62.ge HI0.out) | refine below_set ?_ GE243.out) | exact HB.out)) hb); clear HI0; clear BK243; clear HK; clear HB; have HO252 := n0_; have HI0 := n1_; have BK243 := n2_; have HK := n3_; have HB := n4_; clear n0_ n1_ n2_ n3_ n4_; clear hb ho20) | ((with_reducible refine gate_callee (f := 26) rfl ?_); refine goesL_ (some 17) rfl rfl Tryd.func26 (by kernel_rfl) rfl #[.pointer (some ⟨g, 0, none⟩), .int .i64 3] rfl (by (try simp only [List.map_toArray, List.map_cons, List.map_nil]); first | done | rfl | (simp only [List.length_drop, List.length_take]; rfl)) ?_; (with_reducible refine (spec_l20Rd_pick.calls k g s0_0 t249 3 t253 t254 w0 _ ?side1 ?side2 A6.out).mono ?_); (case side1 => repeat (first | (with_reducible first | exact HI0.out | apply IsS62.alloc | apply IsS62.drewN | apply IsS62.drew | apply IsS62.set_1 | refine IsS62.far ?_ NB0_243.out _) | exact HI0.out)); (case side2 => repeat (first | (with_reducible first | exact HB.out | apply below_alloc | apply pw_below_drewN | apply below_drew1 | refine below_set ?_ (IsS62.ge HI0.out) | refine below_set ?_ GE243.out) | exact HB.out)); rintro e w21 ⟨rfl, hi, hb, hk⟩; refine ⟨_, rfl, ?_⟩; have n0_ := Aside0.mk (KeepBut.blk hk (g' := gb243) (o := .cells #[.bool false, .int .i64 0, .int .i64 0, .int .i64 0, .int .i64 0, .int .i64 0, .int .i64 0] 25 (0, 0)) (bk BK243) NB243_0.out (by simp)); have n1_ := Aside0.mk (Kd.R_mono (Kd.R_keep (IsS62.apart (show IsS62 w0 _ g s0_0 t249 from by repeat (first | (with_reducible first | exact HI0.out | apply IsS62.alloc | apply IsS62.drewN | apply IsS62.drew | apply IsS62.set_1 | refine IsS62.far ?_ NB0_243.out _) | exact HI0.out)) (rs HO252) (by decide)) hk (fun _ h => h.2)) (fun _ h => h.1)); have n2_ := Aside0.mk (KeepBut.trans (by repeat (first | (with_reducible first | exact HK.out | apply KeepBut.set_ | apply keep_drewN | apply keep_drew | apply keep_alloc | refine keep_far ?_ GW243.out _) | exact HK.out)) hk (.inl rfl)); have n3_ := Aside0.mk (hb); have n4_ := Aside0.mk (hi); clear BK243; clear HO252; clear HK; clear HB; clear HI0; have BK243 := n0_; have HO252 := n1_; have HK := n2_; have HB := n3_; have HI0 := n4_; clear n0_ n1_ n2_ n3_ n4_; (try clear hb); (try clear hb2); (try clear hk); (try clear hi); obtain ⟨Ao22, co22, eo22⟩ := Kd.R_slice HO252.out; subst eo22; have p255 : 0 ≤ (t253 : Int) := of_decide_eq_true (by first | (with_reducible assumption) | assumption); have q255 : t253 < (y250.length : Int) := of_decide_eq_true (by first | (with_reducible assumption) | assumption); obtain ⟨ad255, e255, hx255_0⟩ := Kd.at_int (Kd.R_reads' HO252.out).2.2 t253 p255 q255; cases e255; replace p255 := eq_true p255; replace q255 := eq_true q255) | ((with_reducible refine gate_dst (N := 5) rfl ?_); refine box_event ?hg (N := 5) ?hd (cs := #[.bool false, .int .i64 0, .int .i64 0, .int .i64 0, .int .i64 0, .int .i64 0, .int .i64 0]) (t := 25) ?hr ?_; (case hd => rfl); (case hg => rfl); (case hr => first | (go_simp; done) | (go_simp; rfl)); intro gb256 hg w23 hbox hb; have n0_ := Aside0.mk (Kd.R_below (rs HO252) hb); have n1_ := Aside0.mk (IsS62.below (by repeat (first | (with_reducible first | exact HI0.out | apply IsS62.alloc | apply IsS62.drewN | apply IsS62.drew | apply IsS62.set_1 | refine IsS62.far ?_ NB0_243.out _) | exact HI0.out)) hb); have n2_ := bkB BK243 hb; have n3_ := Aside0.mk (KeepBut.trans (by repeat (first | (with_reducible first | exact HK.out | apply KeepBut.set_ | apply keep_drewN | apply keep_drew | apply keep_alloc | refine keep_far ?_ GW243.out _) | exact HK.out)) (KeepBut.of_below hb g none) (.inl rfl)); have n4_ := Aside0.mk (below_step (by repeat (first | (with_reducible first | exact HB.out | apply below_alloc | apply pw_below_drewN | apply below_drew1 | refine below_set ?_ (IsS62.ge HI0.out) | refine below_set ?_ GE243.out) | exact HB.out)) hb); have n5_ := Aside0.mk (hbox); have n6_ := Aside0.mk ((by rw [hg]; exact (keep_size (w := w) (g := g) (row := none) (by repeat (first | (with_reducible first | exact HK.out | apply KeepBut.set_ | apply keep_drewN | apply keep_drew | apply keep_alloc | refine keep_far ?_ GW243.out _) | exact HK.out))) : w.heap.size ≤ gb256)); have n7_ := Aside0.mk ((Nat.le_trans HW0.out (by rw [hg]; exact (keep_size (w := w) (g := g) (row := none) (by repeat (first | (with_reducible first | exact HK.out | apply KeepBut.set_ | apply keep_drewN | apply keep_drew | apply keep_alloc | refine keep_far ?_ GW243.out _) | exact HK.out))) : w.heap.size ≤ gb256) : w0.heap.size ≤ gb256)); have n8_ := Aside0.mk ((by rw [hg]; exact Nat.ne_of_lt (bkL BK243) : gb243 ≠ gb256)); have n9_ := Aside0.mk ((by rw [hg]; exact Nat.ne_of_gt (bkL BK243) : gb256 ≠ gb243)); have n10_ := Aside0.mk ((by rw [hg]; exact Nat.ne_of_lt (IsS62.lt (show IsS62 w0 _ g s0_0 t254 from by repeat (first | (with_reducible first | exact HI0.out | apply IsS62.alloc | apply IsS62.drewN | apply IsS62.drew | apply IsS62.set_1 | refine IsS62.far ?_ NB0_243.out _) | exact HI0.out))) : g ≠ gb256)); have n11_ := Aside0.mk ((by rw [hg]; exact Nat.ne_of_gt (IsS62.lt (show IsS62 w0 _ g s0_0 t254 from by repeat (first | (with_reducible first | exact HI0.out | apply IsS62.alloc | apply IsS62.drewN | apply IsS62.drew | apply IsS62.set_1 | refine IsS62.far ?_ NB0_243.out _) | exact HI0.out))) : gb256 ≠ g)); clear HO252; clear HI0; clear BK243; clear HK; clear HB; have HO252 := n0_; have HI0 := n1_; have BK243 := n2_; have HK := n3_; have HB := n4_; have BK256 := n5_; have GW256 := n6_; have GE256 := n7_; have NB243_256 := n8_; have NB256_243 := n9_; have NB0_256 := n10_; have NB256_0 := n11_; clear n0_ n1_ n2_ n3_ n4_ n5_ n6_ n7_ n8_ n9_ n10_ n11_; clear hb hbox hg; have hnb24 := NB256_243.out; have hnc24 := NB243_256.out; have hnb25 := NB256_0.out; have hnc25 := NB0_256.out; have hcz26_0 : w23.cell? ⟨gb256, 0, none⟩ = some (.bool false) := (blk_cell BK256.out 0).trans rfl; have hcz26_1 : w23.cell? ⟨gb256, 1, none⟩ = some (.int .i64 0) := (blk_cell BK256.out 1).trans rfl; have hcz26_2 : w23.cell? ⟨gb256, 2, none⟩ = some (.int .i64 0) := (blk_cell BK256.out 2).trans rfl; have hcz26_3 : w23.cell? ⟨gb256, 3, none⟩ = some (.int .i64 0) := (blk_cell BK256.out 3).trans rfl; have hcz26_4 : w23.cell? ⟨gb256, 4, none⟩ = some (.int .i64 0) := (blk_cell BK256.out 4).trans rfl; have hcz26_5 : w23.cell? ⟨gb256, 5, none⟩ = some (.int .i64 0) := (blk_cell BK256.out 5).trans rfl; have hcz26_6 : w23.cell? ⟨gb256, 6, none⟩ = some (.int .i64 0) := (blk_cell BK256.out 6).trans rfl; have hfz26_0 := blk_frozen BK256.out 0; have hfz26_1 := blk_frozen BK256.out 1; have hfz26_2 := blk_frozen BK256.out 2; have hfz26_3 := blk_frozen BK256.out 3; have hfz26_4 := blk_frozen BK256.out 4; have hfz26_5 := blk_frozen BK256.out 5; have hfz26_6 := blk_frozen BK256.out 6))
          have n0_ : Aside0 (Kd.R (Kd.int .i64) 3 (((((((w23.setCell ⟨gb256, 0, none⟩ (.bool (t244 == 0))).setCell ⟨gb256, 1, none⟩ (.int .i64 (wrap64 (1 + t246)))).setCell ⟨gb256, 2, none⟩ (.int .i64 0)).setCell ⟨gb256, 3, none⟩ (.int .i64 (wrap64 (100 + t248)))).setCell ⟨gb256, 4, none⟩ (.int .i64 0)).setCell ⟨gb256, 5, none⟩ (.int .i64 (rd y250 t253))).setCell ⟨gb256, 6, none⟩ (.int .i64 0)) w.heap.size (fun _ => True) (.slice (some ad255) y250.length co22) y250) := ⟨by (with_reducible repeat apply ru); exact Kd.R_mono (Kd.R_far (p := ⟨gb256, 6, none⟩) (Kd.R_far (p := ⟨gb256, 5, none⟩) (Kd.R_far (p := ⟨gb256, 4, none⟩) (Kd.R_far (p := ⟨gb256, 3, none⟩) (Kd.R_far (p := ⟨gb256, 2, none⟩) (Kd.R_far (p := ⟨gb256, 1, none⟩) (Kd.R_far (p := ⟨gb256, 0, none⟩) (Kd.R_types HO252.out BK256.out (by decide)) (fun _ hk => hk.2) (.bool (t244 == 0))) (fun _ hk => hk.2) (.int .i64 (wrap64 (1 + t246)))) (fun _ hk => hk.2) (.int .i64 0)) (fun _ hk => hk.2) (.int .i64 (wrap64 (100 + t248)))) (fun _ hk => hk.2) (.int .i64 0)) (fun _ hk => hk.2) (.int .i64 (rd y250 t253))) (fun _ hk => hk.2) (.int .i64 0)) (fun _ hk => trivial)⟩
          have n1_ : Aside0 ((((((((w23.setCell ⟨gb256, 0, none⟩ (.bool (t244 == 0))).setCell ⟨gb256, 1, none⟩ (.int .i64 (wrap64 (1 + t246)))).setCell ⟨gb256, 2, none⟩ (.int .i64 0)).setCell ⟨gb256, 3, none⟩ (.int .i64 (wrap64 (100 + t248)))).setCell ⟨gb256, 4, none⟩ (.int .i64 0)).setCell ⟨gb256, 5, none⟩ (.int .i64 (rd y250 t253))).setCell ⟨gb256, 6, none⟩ (.int .i64 0)).heap[gb243]? = some (.cells #[.bool false, .int .i64 0, .int .i64 0, .int .i64 0, .int .i64 0, .int .i64 0, .int .i64 0] 25 (0, 0))) := ⟨by (with_reducible repeat refine bu ?_); refine blk_far ?_ NB243_256.out _; (with_reducible repeat refine bu ?_); refine blk_far ?_ NB243_256.out _; (with_reducible repeat refine bu ?_); refine blk_far ?_ NB243_256.out _; (with_reducible repeat refine bu ?_); refine blk_far ?_ NB243_256.out _; (with_reducible repeat refine bu ?_); refine blk_far ?_ NB243_256.out _; (with_reducible repeat refine bu ?_); refine blk_far ?_ NB243_256.out _; (with_reducible repeat refine bu ?_); refine blk_far ?_ NB243_256.out _; (with_reducible repeat refine bu ?_); exact BK243.out⟩
          have n2_ : Aside0 ((((((((w23.setCell ⟨gb256, 0, none⟩ (.bool (t244 == 0))).setCell ⟨gb256, 1, none⟩ (.int .i64 (wrap64 (1 + t246)))).setCell ⟨gb256, 2, none⟩ (.int .i64 0)).setCell ⟨gb256, 3, none⟩ (.int .i64 (wrap64 (100 + t248)))).setCell ⟨gb256, 4, none⟩ (.int .i64 0)).setCell ⟨gb256, 5, none⟩ (.int .i64 (rd y250 t253))).setCell ⟨gb256, 6, none⟩ (.int .i64 0)).heap[gb256]? = some (.cells #[.bool (t244 == 0), .int .i64 (wrap64 (1 + t246)), .int .i64 0, .int .i64 (wrap64 (100 + t248)), .int .i64 0, .int .i64 (rd y250 t253), .int .i64 0] 25 (0, 0))) := ⟨by (with_reducible repeat refine bu ?_); refine blk_put (cs := #[.bool (t244 == 0), .int .i64 (wrap64 (1 + t246)), .int .i64 0, .int .i64 (wrap64 (100 + t248)), .int .i64 0, .int .i64 (rd y250 t253), .int .i64 0]) ?_ 6 _ rfl; (with_reducible repeat refine bu ?_); refine blk_put (cs := #[.bool (t244 == 0), .int .i64 (wrap64 (1 + t246)), .int .i64 0, .int .i64 (wrap64 (100 + t248)), .int .i64 0, .int .i64 0, .int .i64 0]) ?_ 5 _ rfl; (with_reducible repeat refine bu ?_); refine blk_put (cs := #[.bool (t244 == 0), .int .i64 (wrap64 (1 + t246)), .int .i64 0, .int .i64 (wrap64 (100 + t248)), .int .i64 0, .int .i64 0, .int .i64 0]) ?_ 4 _ rfl; (with_reducible repeat refine bu ?_); refine blk_put (cs := #[.bool (t244 == 0), .int .i64 (wrap64 (1 + t246)), .int .i64 0, .int .i64 0, .int .i64 0, .int .i64 0, .int .i64 0]) ?_ 3 _ rfl; (with_reducible repeat refine bu ?_); refine blk_put (cs := #[.bool (t244 == 0), .int .i64 (wrap64 (1 + t246)), .int .i64 0, .int .i64 0, .int .i64 0, .int .i64 0, .int .i64 0]) ?_ 2 _ rfl; (with_reducible repeat refine bu ?_); refine blk_put (cs := #[.bool (t244 == 0), .int .i64 0, .int .i64 0, .int .i64 0, .int .i64 0, .int .i64 0, .int .i64 0]) ?_ 1 _ rfl; (with_reducible repeat refine bu ?_); refine blk_put (cs := #[.bool false, .int .i64 0, .int .i64 0, .int .i64 0, .int .i64 0, .int .i64 0, .int .i64 0]) ?_ 0 _ rfl; (with_reducible repeat refine bu ?_); exact BK256.out⟩
          have n3_ : Aside0 (IsS62 w0 (((((((w23.setCell ⟨gb256, 0, none⟩ (.bool (t244 == 0))).setCell ⟨gb256, 1, none⟩ (.int .i64 (wrap64 (1 + t246)))).setCell ⟨gb256, 2, none⟩ (.int .i64 0)).setCell ⟨gb256, 3, none⟩ (.int .i64 (wrap64 (100 + t248)))).setCell ⟨gb256, 4, none⟩ (.int .i64 0)).setCell ⟨gb256, 5, none⟩ (.int .i64 (rd y250 t253))).setCell ⟨gb256, 6, none⟩ (.int .i64 0)) g s0_0 t254) := ⟨by repeat (first | (with_reducible first | exact HI0.out | apply IsS62.alloc | apply IsS62.drewN | apply IsS62.drew | apply IsS62.set_1 | refine IsS62.far ?_ NB0_243.out _ | refine IsS62.far ?_ NB0_256.out _) | exact HI0.out)⟩
          have n4_ : Aside0 (KeepBut w (((((((w23.setCell ⟨gb256, 0, none⟩ (.bool (t244 == 0))).setCell ⟨gb256, 1, none⟩ (.int .i64 (wrap64 (1 + t246)))).setCell ⟨gb256, 2, none⟩ (.int .i64 0)).setCell ⟨gb256, 3, none⟩ (.int .i64 (wrap64 (100 + t248)))).setCell ⟨gb256, 4, none⟩ (.int .i64 0)).setCell ⟨gb256, 5, none⟩ (.int .i64 (rd y250 t253))).setCell ⟨gb256, 6, none⟩ (.int .i64 0)) g none) := ⟨by repeat (first | (with_reducible first | exact HK.out | apply KeepBut.set_ | apply keep_drewN | apply keep_drew | apply keep_alloc | refine keep_far ?_ GW243.out _ | refine keep_far ?_ GW256.out _) | exact HK.out)⟩
          have n5_ : Aside0 (Below w0.heap.size w0 (((((((w23.setCell ⟨gb256, 0, none⟩ (.bool (t244 == 0))).setCell ⟨gb256, 1, none⟩ (.int .i64 (wrap64 (1 + t246)))).setCell ⟨gb256, 2, none⟩ (.int .i64 0)).setCell ⟨gb256, 3, none⟩ (.int .i64 (wrap64 (100 + t248)))).setCell ⟨gb256, 4, none⟩ (.int .i64 0)).setCell ⟨gb256, 5, none⟩ (.int .i64 (rd y250 t253))).setCell ⟨gb256, 6, none⟩ (.int .i64 0))) := ⟨by repeat (first | (with_reducible first | exact HB.out | apply below_alloc | apply pw_below_drewN | apply below_drew1 | refine below_set ?_ (IsS62.ge HI0.out) | refine below_set ?_ GE243.out | refine below_set ?_ GE256.out) | exact HB.out)⟩
          (try clear HO252)
          (try clear BK243)
          (try clear BK256)
          (try clear HI0)
          (try clear HK)
          (try clear HB)
          generalize (((((((w23.setCell ⟨gb256, 0, none⟩ (.bool (t244 == 0))).setCell ⟨gb256, 1, none⟩ (.int .i64 (wrap64 (1 + t246)))).setCell ⟨gb256, 2, none⟩ (.int .i64 0)).setCell ⟨gb256, 3, none⟩ (.int .i64 (wrap64 (100 + t248)))).setCell ⟨gb256, 4, none⟩ (.int .i64 0)).setCell ⟨gb256, 5, none⟩ (.int .i64 (rd y250 t253))).setCell ⟨gb256, 6, none⟩ (.int .i64 0)) = w27 at n0_ n1_ n2_ n3_ n4_ n5_ ⊢
          have HO252 := n0_
          have BK243 := n1_
          have BK256 := n2_
          have HI0 := n3_
          have HK := n4_
          have HB := n5_
          clear n0_ n1_ n2_ n3_ n4_ n5_
          have n0_ := Aside0.mk (Kd.R_drew HO252.out)
          have n1_ := Aside0.mk (blk_drew BK243.out)
          have n2_ := Aside0.mk (blk_drew BK256.out)
          have n3_ := Aside0.mk (IsS62.drew HI0.out)
          have n4_ := Aside0.mk (keep_drew HK.out)
          have n5_ := Aside0.mk (below_drew1 HB.out)
          clear HO252
          clear BK243
          clear BK256
          clear HI0
          clear HK
          clear HB
          have HO252 := n0_
          have BK243 := n1_
          have BK256 := n2_
          have HI0 := n3_
          have HK := n4_
          have HB := n5_
          clear n0_ n1_ n2_ n3_ n4_ n5_
          refine start_ (n := 7) (S := fun w' => w'.cell? ⟨gb256, 0, none⟩ = some (.bool (t244 == 0)) ∧ w'.cell? ⟨gb256, 1, none⟩ = some (.int .i64 (wrap64 (1 + t246))) ∧ w'.cell? ⟨gb256, 2, none⟩ = some (.int .i64 0) ∧ w'.cell? ⟨gb256, 3, none⟩ = some (.int .i64 (wrap64 (100 + t248))) ∧ w'.cell? ⟨gb256, 4, none⟩ = some (.int .i64 0) ∧ w'.cell? ⟨gb256, 5, none⟩ = some (.int .i64 (rd y250 t253)) ∧ w'.cell? ⟨gb256, 6, none⟩ = some (.int .i64 0)) (ds := [6]) #[false, false, false, false, false, false, false] (by kernel_rfl) rfl rfl ⟨(blk_cell BK256.out 0).trans rfl, (blk_cell BK256.out 1).trans rfl, (blk_cell BK256.out 2).trans rfl, (blk_cell BK256.out 3).trans rfl, (blk_cell BK256.out 4).trans rfl, (blk_cell BK256.out 5).trans rfl, (blk_cell BK256.out 6).trans rfl⟩ (fun hHeld => ?_)
          generalize w27.drew = w28 at HO252 BK243 BK256 HI0 HK HB hHeld ⊢
          refine pure_ (i := 0) (N := some 21) (v := ?_) (a' := ?_) #[true, false, false, false, false, false, false] rfl rfl (by kernel_rfl) (fun _ _ _ h => h) (Or.inl ⟨by rfl, ?_⟩) ?_ ?_
          rotate_left
          · intro w'
            go_simp
            with_reducible rfl
          rotate_left
          · simp only [Act.put, List.setIfInBounds_toArray, List.set_cons_zero, List.set_cons_succ, i64_w, i32_w]
            rfl
          refine pure_ (i := 2) (N := some 23) (v := ?_) (a' := ?_) #[true, false, true, false, false, false, false] rfl rfl (by kernel_rfl) (fun _ _ _ h => h) (Or.inl ⟨by rfl, ?_⟩) ?_ ?_
          rotate_left
          · intro w'
            go_simp
            with_reducible rfl
          rotate_left
          · simp only [Act.put, List.setIfInBounds_toArray, List.set_cons_zero, List.set_cons_succ, i64_w, i32_w]
            rfl
          refine take_ (i := 1) (N := some 22) (v := ?_) (a' := ?_) #[true, true, true, false, false, false, false] rfl rfl (by kernel_rfl) (fun _ _ _ h => h) (Or.inl ⟨by rfl, ?_⟩) hHeld ?_ ?_
          rotate_left
          · rintro w' ⟨s0, s1, s2, s3, s4, s5, s6⟩
            go_simp
            with_reducible rfl
          rotate_left
          · simp only [Act.put, List.setIfInBounds_toArray, List.set_cons_zero, List.set_cons_succ, i64_w, i32_w]
            rfl
          refine one_ (i := 3) (N := some 24) #[true, true, true, true, false, false, false] rfl rfl (by kernel_rfl) (by decide) (fun K hK => ?_)
          refine goes_ Tryd.func26 (by kernel_rfl) rfl #[.pointer (some ⟨g, 0, none⟩), .int .i64 3] (by rfl) rfl rfl (by (try simp only [List.map_toArray, List.map_cons, List.map_nil]); first | done | rfl | (simp only [List.length_drop, List.length_take]; rfl)) ?_
          with_reducible refine (spec_l20Rd_pick.calls k g s0_0 t254 3 t257 t258 w0 _ ?side1 ?side2 A9.out).mono ?_
          (case side1 => repeat (first | (with_reducible first | exact HI0.out | apply IsS62.alloc | apply IsS62.drewN | apply IsS62.drew | apply IsS62.set_1 | refine IsS62.far ?_ NB0_243.out _ | refine IsS62.far ?_ NB0_256.out _) | exact HI0.out))
          (case side2 => repeat (first | (with_reducible first | exact HB.out | apply below_alloc | apply pw_below_drewN | apply below_drew1 | refine below_set ?_ (IsS62.ge HI0.out) | refine below_set ?_ GE243.out | refine below_set ?_ GE256.out) | exact HB.out))
          rintro e w29 ⟨rfl, hi, hb, hk⟩
          refine ⟨_, rfl, ?_⟩
          have n0_ := Aside0.mk (KeepBut.blk hk (g' := gb243) (o := .cells #[.bool false, .int .i64 0, .int .i64 0, .int .i64 0, .int .i64 0, .int .i64 0, .int .i64 0] 25 (0, 0)) (bk BK243) NB243_0.out (by simp))
          have n1_ := Aside0.mk (Kd.R_mono (Kd.R_keep (IsS62.apart (show IsS62 w0 _ g s0_0 t254 from by repeat (first | (with_reducible first | exact HI0.out | apply IsS62.alloc | apply IsS62.drewN | apply IsS62.drew | apply IsS62.set_1 | refine IsS62.far ?_ NB0_243.out _ | refine IsS62.far ?_ NB0_256.out _) | exact HI0.out)) (rs HO252) (by decide)) hk (fun _ h => h.2)) (fun _ h => h.1))
          have n2_ := Aside0.mk (KeepBut.blk hk (g' := gb256) (o := .cells #[.bool (t244 == 0), .int .i64 (wrap64 (1 + t246)), .int .i64 0, .int .i64 (wrap64 (100 + t248)), .int .i64 0, .int .i64 (rd y250 t253), .int .i64 0] 25 (0, 0)) (bk BK256) NB256_0.out (by simp))
          have n3_ := Aside0.mk (KeepBut.trans (by repeat (first | (with_reducible first | exact HK.out | apply KeepBut.set_ | apply keep_drewN | apply keep_drew | apply keep_alloc | refine keep_far ?_ GW243.out _ | refine keep_far ?_ GW256.out _) | exact HK.out)) hk (.inl rfl))
          have n4_ := Aside0.mk (hb)
          have n5_ := Aside0.mk (hi)
          clear BK243
          clear HO252
          clear BK256
          clear HK
          clear HB
          clear HI0
          have BK243 := n0_
          have HO252 := n1_
          have BK256 := n2_
          have HK := n3_
          have HB := n4_
          have HI0 := n5_
          clear n0_ n1_ n2_ n3_ n4_ n5_
          (try clear hb)
          (try clear hb2)
          (try clear hk)
          (try clear hi)
          refine hK.out _ _ ⟨(blk_cell BK256.out 0).trans rfl, (blk_cell BK256.out 1).trans rfl, (blk_cell BK256.out 2).trans rfl, (blk_cell BK256.out 3).trans rfl, (blk_cell BK256.out 4).trans rfl, (blk_cell BK256.out 5).trans rfl, (blk_cell BK256.out 6).trans rfl⟩ (fun hHeld => ?_)
          clear hK K
          refine norm_ (a' := ?_) ?_ ?_
          rotate_left
          · show Act.put _ (some 24) _ = _
            simp only [Act.put, List.setIfInBounds_toArray, List.set_cons_zero, List.set_cons_succ, i64_w, i32_w]
            rfl
          refine pure_ (i := 4) (N := some 25) (v := ?_) (a' := ?_) #[true, true, true, true, true, false, false] rfl rfl (by kernel_rfl) (fun _ _ _ h => h) (Or.inl ⟨by rfl, ?_⟩) ?_ ?_
          rotate_left
          · intro w'
            go_simp
            with_reducible rfl
          rotate_left
          · simp only [Act.put, List.setIfInBounds_toArray, List.set_cons_zero, List.set_cons_succ, i64_w, i32_w]
            rfl
          refine pure_ (i := 5) (N := some 26) (v := ?_) (a' := ?_) #[true, true, true, true, true, true, false] rfl rfl (by kernel_rfl) (fun _ _ _ h => h) (Or.inl ⟨by rfl, ?_⟩) ?_ ?_
          rotate_left
          · intro w'
            go_simp
            with_reducible rfl
          rotate_left
          · simp only [Act.put, List.setIfInBounds_toArray, List.set_cons_zero, List.set_cons_succ, i64_w, i32_w]
            rfl
          refine last_ (i := 6) (N := none) #[true, true, true, true, true, true, true] rfl rfl (by kernel_rfl) (by decide) (fun K hK => ?_)
          have hs30 : w29.cell? ⟨gb256, 2, none⟩ = some (.int .i64 0) := (blk_cell BK256.out 2).trans rfl
          have hfs30 := blk_frozen BK256.out 2
          have hns30_0 := NB243_256.out
          have hms30_0 := NB256_243.out
          refine skip_ (w1 := ?_) (by rfl) rfl ?_ ?_
          rotate_left
          · go_simp
            rfl
          refine hK.out _ _ ?_
          clear hK K
          refine done_ (by kernel_rfl) ?_
          try go_wp2
          have n0_ : Aside0 (Kd.R (Kd.int .i64) 3 (w29.setCell ⟨gb256, 2, none⟩ (.int .i64 (wrap64 ((wrap64 (1 + t246)) + t257)))) w.heap.size (fun _ => True) (.slice (some ad255) y250.length co22) y250) := ⟨by (with_reducible repeat apply ru); exact Kd.R_mono (Kd.R_far (p := ⟨gb256, 2, none⟩) (Kd.R_types HO252.out BK256.out (by decide)) (fun _ hk => hk.2) (.int .i64 (wrap64 ((wrap64 (1 + t246)) + t257)))) (fun _ hk => trivial)⟩
          have n1_ : Aside0 ((w29.setCell ⟨gb256, 2, none⟩ (.int .i64 (wrap64 ((wrap64 (1 + t246)) + t257)))).heap[gb243]? = some (.cells #[.bool false, .int .i64 0, .int .i64 0, .int .i64 0, .int .i64 0, .int .i64 0, .int .i64 0] 25 (0, 0))) := ⟨by (with_reducible repeat refine bu ?_); refine blk_far ?_ NB243_256.out _; (with_reducible repeat refine bu ?_); exact BK243.out⟩
          have n2_ : Aside0 ((w29.setCell ⟨gb256, 2, none⟩ (.int .i64 (wrap64 ((wrap64 (1 + t246)) + t257)))).heap[gb256]? = some (.cells #[.bool (t244 == 0), .int .i64 (wrap64 (1 + t246)), .int .i64 (wrap64 ((wrap64 (1 + t246)) + t257)), .int .i64 (wrap64 (100 + t248)), .int .i64 0, .int .i64 (rd y250 t253), .int .i64 0] 25 (0, 0))) := ⟨by (with_reducible repeat refine bu ?_); refine blk_put (cs := #[.bool (t244 == 0), .int .i64 (wrap64 (1 + t246)), .int .i64 0, .int .i64 (wrap64 (100 + t248)), .int .i64 0, .int .i64 (rd y250 t253), .int .i64 0]) ?_ 2 _ rfl; (with_reducible repeat refine bu ?_); exact BK256.out⟩
          have n3_ : Aside0 (IsS62 w0 (w29.setCell ⟨gb256, 2, none⟩ (.int .i64 (wrap64 ((wrap64 (1 + t246)) + t257)))) g s0_0 t258) := ⟨by repeat (first | (with_reducible first | exact HI0.out | apply IsS62.alloc | apply IsS62.drewN | apply IsS62.drew | apply IsS62.set_1 | refine IsS62.far ?_ NB0_243.out _ | refine IsS62.far ?_ NB0_256.out _) | exact HI0.out)⟩
          have n4_ : Aside0 (KeepBut w (w29.setCell ⟨gb256, 2, none⟩ (.int .i64 (wrap64 ((wrap64 (1 + t246)) + t257)))) g none) := ⟨by repeat (first | (with_reducible first | exact HK.out | apply KeepBut.set_ | apply keep_drewN | apply keep_drew | apply keep_alloc | refine keep_far ?_ GW243.out _ | refine keep_far ?_ GW256.out _) | exact HK.out)⟩
          have n5_ : Aside0 (Below w0.heap.size w0 (w29.setCell ⟨gb256, 2, none⟩ (.int .i64 (wrap64 ((wrap64 (1 + t246)) + t257))))) := ⟨by repeat (first | (with_reducible first | exact HB.out | apply below_alloc | apply pw_below_drewN | apply below_drew1 | refine below_set ?_ (IsS62.ge HI0.out) | refine below_set ?_ GE243.out | refine below_set ?_ GE256.out) | exact HB.out)⟩
          (try clear HO252)
          (try clear BK243)
          (try clear BK256)
          (try clear HI0)
          (try clear HK)
          (try clear HB)
          generalize (w29.setCell ⟨gb256, 2, none⟩ (.int .i64 (wrap64 ((wrap64 (1 + t246)) + t257)))) = w31 at n0_ n1_ n2_ n3_ n4_ n5_ ⊢
          have HO252 := n0_
          have BK243 := n1_
          have BK256 := n2_
          have HI0 := n3_
          have HK := n4_
          have HB := n5_
          clear n0_ n1_ n2_ n3_ n4_ n5_
          have n0_ := Aside0.mk (Kd.R_drew HO252.out)
          have n1_ := Aside0.mk (blk_drew BK243.out)
          have n2_ := Aside0.mk (blk_drew BK256.out)
          have n3_ := Aside0.mk (IsS62.drew HI0.out)
          have n4_ := Aside0.mk (keep_drew HK.out)
          have n5_ := Aside0.mk (below_drew1 HB.out)
          clear HO252
          clear BK243
          clear BK256
          clear HI0
          clear HK
          clear HB
          have HO252 := n0_
          have BK243 := n1_
          have BK256 := n2_
          have HI0 := n3_
          have HK := n4_
          have HB := n5_
          clear n0_ n1_ n2_ n3_ n4_ n5_
          refine start_ (n := 7) (S := fun w' => w'.cell? ⟨gb256, 0, none⟩ = some (.bool (t244 == 0)) ∧ w'.cell? ⟨gb256, 1, none⟩ = some (.int .i64 (wrap64 (1 + t246))) ∧ w'.cell? ⟨gb256, 2, none⟩ = some (.int .i64 (wrap64 ((wrap64 (1 + t246)) + t257))) ∧ w'.cell? ⟨gb256, 3, none⟩ = some (.int .i64 (wrap64 (100 + t248))) ∧ w'.cell? ⟨gb256, 4, none⟩ = some (.int .i64 0) ∧ w'.cell? ⟨gb256, 5, none⟩ = some (.int .i64 (rd y250 t253)) ∧ w'.cell? ⟨gb256, 6, none⟩ = some (.int .i64 0)) (ds := [6]) #[false, false, false, false, false, false, false] (by kernel_rfl) rfl rfl ⟨(blk_cell BK256.out 0).trans rfl, (blk_cell BK256.out 1).trans rfl, (blk_cell BK256.out 2).trans rfl, (blk_cell BK256.out 3).trans rfl, (blk_cell BK256.out 4).trans rfl, (blk_cell BK256.out 5).trans rfl, (blk_cell BK256.out 6).trans rfl⟩ (fun hHeld => ?_)
          generalize w31.drew = w32 at HO252 BK243 BK256 HI0 HK HB hHeld ⊢
          refine pure_ (i := 0) (N := some 27) (v := ?_) (a' := ?_) #[true, false, false, false, false, false, false] rfl rfl (by kernel_rfl) (fun _ _ _ h => h) (Or.inl ⟨by rfl, ?_⟩) ?_ ?_
          rotate_left
          · intro w'
            go_simp
            with_reducible rfl
          rotate_left
          · simp only [Act.put, List.setIfInBounds_toArray, List.set_cons_zero, List.set_cons_succ, i64_w, i32_w]
            rfl
          refine pure_ (i := 2) (N := some 29) (v := ?_) (a' := ?_) #[true, false, true, false, false, false, false] rfl rfl (by kernel_rfl) (fun _ _ _ h => h) (Or.inl ⟨by rfl, ?_⟩) ?_ ?_
          rotate_left
          · intro w'
            go_simp
            with_reducible rfl
          rotate_left
          · simp only [Act.put, List.setIfInBounds_toArray, List.set_cons_zero, List.set_cons_succ, i64_w, i32_w]
            rfl
          refine take_ (i := 1) (N := some 28) (v := ?_) (a' := ?_) #[true, true, true, false, false, false, false] rfl rfl (by kernel_rfl) (fun _ _ _ h => h) (Or.inl ⟨by rfl, ?_⟩) hHeld ?_ ?_
          rotate_left
          · rintro w' ⟨s0, s1, s2, s3, s4, s5, s6⟩
            go_simp
            with_reducible rfl
          rotate_left
          · simp only [Act.put, List.setIfInBounds_toArray, List.set_cons_zero, List.set_cons_succ, i64_w, i32_w]
            rfl
          refine one_ (i := 3) (N := some 30) #[true, true, true, true, false, false, false] rfl rfl (by kernel_rfl) (by decide) (fun K hK => ?_)
          refine goes_ Tryd.func26 (by kernel_rfl) rfl #[.pointer (some ⟨g, 0, none⟩), .int .i64 3] (by rfl) rfl rfl (by (try simp only [List.map_toArray, List.map_cons, List.map_nil]); first | done | rfl | (simp only [List.length_drop, List.length_take]; rfl)) ?_
          with_reducible refine (spec_l20Rd_pick.calls k g s0_0 t258 3 t259 t260 w0 _ ?side1 ?side2 A10.out).mono ?_
          (case side1 => repeat (first | (with_reducible first | exact HI0.out | apply IsS62.alloc | apply IsS62.drewN | apply IsS62.drew | apply IsS62.set_1 | refine IsS62.far ?_ NB0_243.out _ | refine IsS62.far ?_ NB0_256.out _) | exact HI0.out))
          (case side2 => repeat (first | (with_reducible first | exact HB.out | apply below_alloc | apply pw_below_drewN | apply below_drew1 | refine below_set ?_ (IsS62.ge HI0.out) | refine below_set ?_ GE243.out | refine below_set ?_ GE256.out) | exact HB.out))
          rintro e w33 ⟨rfl, hi, hb, hk⟩
          refine ⟨_, rfl, ?_⟩
          have n0_ := Aside0.mk (KeepBut.blk hk (g' := gb243) (o := .cells #[.bool false, .int .i64 0, .int .i64 0, .int .i64 0, .int .i64 0, .int .i64 0, .int .i64 0] 25 (0, 0)) (bk BK243) NB243_0.out (by simp))
          have n1_ := Aside0.mk (Kd.R_mono (Kd.R_keep (IsS62.apart (show IsS62 w0 _ g s0_0 t258 from by repeat (first | (with_reducible first | exact HI0.out | apply IsS62.alloc | apply IsS62.drewN | apply IsS62.drew | apply IsS62.set_1 | refine IsS62.far ?_ NB0_243.out _ | refine IsS62.far ?_ NB0_256.out _) | exact HI0.out)) (rs HO252) (by decide)) hk (fun _ h => h.2)) (fun _ h => h.1))
          have n2_ := Aside0.mk (KeepBut.blk hk (g' := gb256) (o := .cells #[.bool (t244 == 0), .int .i64 (wrap64 (1 + t246)), .int .i64 (wrap64 ((wrap64 (1 + t246)) + t257)), .int .i64 (wrap64 (100 + t248)), .int .i64 0, .int .i64 (rd y250 t253), .int .i64 0] 25 (0, 0)) (bk BK256) NB256_0.out (by simp))
          have n3_ := Aside0.mk (KeepBut.trans (by repeat (first | (with_reducible first | exact HK.out | apply KeepBut.set_ | apply keep_drewN | apply keep_drew | apply keep_alloc | refine keep_far ?_ GW243.out _ | refine keep_far ?_ GW256.out _) | exact HK.out)) hk (.inl rfl))
          have n4_ := Aside0.mk (hb)
          have n5_ := Aside0.mk (hi)
          clear BK243
          clear HO252
          clear BK256
          clear HK
          clear HB
          clear HI0
          have BK243 := n0_
          have HO252 := n1_
          have BK256 := n2_
          have HK := n3_
          have HB := n4_
          have HI0 := n5_
          clear n0_ n1_ n2_ n3_ n4_ n5_
          (try clear hb)
          (try clear hb2)
          (try clear hk)
          (try clear hi)
          refine hK.out _ _ ⟨(blk_cell BK256.out 0).trans rfl, (blk_cell BK256.out 1).trans rfl, (blk_cell BK256.out 2).trans rfl, (blk_cell BK256.out 3).trans rfl, (blk_cell BK256.out 4).trans rfl, (blk_cell BK256.out 5).trans rfl, (blk_cell BK256.out 6).trans rfl⟩ (fun hHeld => ?_)
          clear hK K
          refine norm_ (a' := ?_) ?_ ?_
          rotate_left
          · show Act.put _ (some 30) _ = _
            simp only [Act.put, List.setIfInBounds_toArray, List.set_cons_zero, List.set_cons_succ, i64_w, i32_w]
            rfl
          refine pure_ (i := 4) (N := some 31) (v := ?_) (a' := ?_) #[true, true, true, true, true, false, false] rfl rfl (by kernel_rfl) (fun _ _ _ h => h) (Or.inl ⟨by rfl, ?_⟩) ?_ ?_
          rotate_left
          · intro w'
            go_simp
            with_reducible rfl
          rotate_left
          · simp only [Act.put, List.setIfInBounds_toArray, List.set_cons_zero, List.set_cons_succ, i64_w, i32_w]
            rfl
          refine pure_ (i := 5) (N := some 32) (v := ?_) (a' := ?_) #[true, true, true, true, true, true, false] rfl rfl (by kernel_rfl) (fun _ _ _ h => h) (Or.inl ⟨by rfl, ?_⟩) ?_ ?_
          rotate_left
          · intro w'
            go_simp
            with_reducible rfl
          rotate_left
          · simp only [Act.put, List.setIfInBounds_toArray, List.set_cons_zero, List.set_cons_succ, i64_w, i32_w]
            rfl
          refine last_ (i := 6) (N := none) #[true, true, true, true, true, true, true] rfl rfl (by kernel_rfl) (by decide) (fun K hK => ?_)
          have hs34 : w33.cell? ⟨gb256, 4, none⟩ = some (.int .i64 0) := (blk_cell BK256.out 4).trans rfl
          have hfs34 := blk_frozen BK256.out 4
          have hns34_0 := NB243_256.out
          have hms34_0 := NB256_243.out
          refine skip_ (w1 := ?_) (by rfl) rfl ?_ ?_
          rotate_left
          · go_simp
            rfl
          refine hK.out _ _ ?_
          clear hK K
          refine done_ (by kernel_rfl) ?_
          try go_wp2
          have pi266 : (0 ≤ (t264 : Int)) = True := eq_true (of_decide_eq_true (by first | (with_reducible assumption) | assumption))
          have qi266 : (t264 < (y261.length : Int)) = True := eq_true (of_decide_eq_true (by first | (with_reducible assumption) | assumption))
          have n0_ : Aside0 (Kd.R (Kd.int .i64) 3 (w33.setCell ⟨gb256, 4, none⟩ (.int .i64 (wrap64 ((wrap64 (100 + t248)) + t259)))) w.heap.size (fun _ => True) (.slice (some ad255) y250.length co22) y250) := ⟨by (with_reducible repeat apply ru); exact Kd.R_mono (Kd.R_far (p := ⟨gb256, 4, none⟩) (Kd.R_types HO252.out BK256.out (by decide)) (fun _ hk => hk.2) (.int .i64 (wrap64 ((wrap64 (100 + t248)) + t259)))) (fun _ hk => trivial)⟩
          have n1_ : Aside0 ((w33.setCell ⟨gb256, 4, none⟩ (.int .i64 (wrap64 ((wrap64 (100 + t248)) + t259)))).heap[gb243]? = some (.cells #[.bool false, .int .i64 0, .int .i64 0, .int .i64 0, .int .i64 0, .int .i64 0, .int .i64 0] 25 (0, 0))) := ⟨by (with_reducible repeat refine bu ?_); refine blk_far ?_ NB243_256.out _; (with_reducible repeat refine bu ?_); exact BK243.out⟩
          have n2_ : Aside0 ((w33.setCell ⟨gb256, 4, none⟩ (.int .i64 (wrap64 ((wrap64 (100 + t248)) + t259)))).heap[gb256]? = some (.cells #[.bool (t244 == 0), .int .i64 (wrap64 (1 + t246)), .int .i64 (wrap64 ((wrap64 (1 + t246)) + t257)), .int .i64 (wrap64 (100 + t248)), .int .i64 (wrap64 ((wrap64 (100 + t248)) + t259)), .int .i64 (rd y250 t253), .int .i64 0] 25 (0, 0))) := ⟨by (with_reducible repeat refine bu ?_); refine blk_put (cs := #[.bool (t244 == 0), .int .i64 (wrap64 (1 + t246)), .int .i64 (wrap64 ((wrap64 (1 + t246)) + t257)), .int .i64 (wrap64 (100 + t248)), .int .i64 0, .int .i64 (rd y250 t253), .int .i64 0]) ?_ 4 _ rfl; (with_reducible repeat refine bu ?_); exact BK256.out⟩
          have n3_ : Aside0 (IsS62 w0 (w33.setCell ⟨gb256, 4, none⟩ (.int .i64 (wrap64 ((wrap64 (100 + t248)) + t259)))) g s0_0 t260) := ⟨by repeat (first | (with_reducible first | exact HI0.out | apply IsS62.alloc | apply IsS62.drewN | apply IsS62.drew | apply IsS62.set_1 | refine IsS62.far ?_ NB0_243.out _ | refine IsS62.far ?_ NB0_256.out _) | exact HI0.out)⟩
          have n4_ : Aside0 (KeepBut w (w33.setCell ⟨gb256, 4, none⟩ (.int .i64 (wrap64 ((wrap64 (100 + t248)) + t259)))) g none) := ⟨by repeat (first | (with_reducible first | exact HK.out | apply KeepBut.set_ | apply keep_drewN | apply keep_drew | apply keep_alloc | refine keep_far ?_ GW243.out _ | refine keep_far ?_ GW256.out _) | exact HK.out)⟩
          have n5_ : Aside0 (Below w0.heap.size w0 (w33.setCell ⟨gb256, 4, none⟩ (.int .i64 (wrap64 ((wrap64 (100 + t248)) + t259))))) := ⟨by repeat (first | (with_reducible first | exact HB.out | apply below_alloc | apply pw_below_drewN | apply below_drew1 | refine below_set ?_ (IsS62.ge HI0.out) | refine below_set ?_ GE243.out | refine below_set ?_ GE256.out) | exact HB.out)⟩
          (try clear HO252)
          (try clear BK243)
          (try clear BK256)
          (try clear HI0)
          (try clear HK)
          (try clear HB)
          generalize (w33.setCell ⟨gb256, 4, none⟩ (.int .i64 (wrap64 ((wrap64 (100 + t248)) + t259)))) = w35 at n0_ n1_ n2_ n3_ n4_ n5_ ⊢
          have HO252 := n0_
          have BK243 := n1_
          have BK256 := n2_
          have HI0 := n3_
          have HK := n4_
          have HB := n5_
          clear n0_ n1_ n2_ n3_ n4_ n5_
          have n0_ := Aside0.mk (Kd.R_drew HO252.out)
          have n1_ := Aside0.mk (blk_drew BK243.out)
          have n2_ := Aside0.mk (blk_drew BK256.out)
          have n3_ := Aside0.mk (IsS62.drew HI0.out)
          have n4_ := Aside0.mk (keep_drew HK.out)
          have n5_ := Aside0.mk (below_drew1 HB.out)
          clear HO252
          clear BK243
          clear BK256
          clear HI0
          clear HK
          clear HB
          have HO252 := n0_
          have BK243 := n1_
          have BK256 := n2_
          have HI0 := n3_
          have HK := n4_
          have HB := n5_
          clear n0_ n1_ n2_ n3_ n4_ n5_
          refine start_ (n := 9) (S := fun w' => w'.cell? ⟨gb256, 0, none⟩ = some (.bool (t244 == 0)) ∧ w'.cell? ⟨gb256, 1, none⟩ = some (.int .i64 (wrap64 (1 + t246))) ∧ w'.cell? ⟨gb256, 2, none⟩ = some (.int .i64 (wrap64 ((wrap64 (1 + t246)) + t257))) ∧ w'.cell? ⟨gb256, 3, none⟩ = some (.int .i64 (wrap64 (100 + t248))) ∧ w'.cell? ⟨gb256, 4, none⟩ = some (.int .i64 (wrap64 ((wrap64 (100 + t248)) + t259))) ∧ w'.cell? ⟨gb256, 5, none⟩ = some (.int .i64 (rd y250 t253)) ∧ w'.cell? ⟨gb256, 6, none⟩ = some (.int .i64 0)) (ds := [8]) #[false, false, false, false, false, false, false, false, false] (by kernel_rfl) rfl rfl ⟨(blk_cell BK256.out 0).trans rfl, (blk_cell BK256.out 1).trans rfl, (blk_cell BK256.out 2).trans rfl, (blk_cell BK256.out 3).trans rfl, (blk_cell BK256.out 4).trans rfl, (blk_cell BK256.out 5).trans rfl, (blk_cell BK256.out 6).trans rfl⟩ (fun hHeld => ?_); refine with_tabW spec_l20Rule.tab4 spec_l20Rule.bits4 (fun HT_ HW_ => ?_)
          generalize w35.drew = w36 at HO252 BK243 BK256 HI0 HK HB hHeld ⊢
          refine pure_ (i := 0) (N := some 33) (v := ?_) (a' := ?_) #[true, false, false, false, false, false, false, false, false] rfl rfl (any_of HT_.out (by kernel_rfl)) (fun _ _ _ h => h) (Or.inl ⟨by rfl, ?_⟩) ?_ ?_
          rotate_left
          · intro w'
            go_simp
            with_reducible rfl
          rotate_left
          · simp only [Act.put, List.setIfInBounds_toArray, List.set_cons_zero, List.set_cons_succ, i64_w, i32_w]
            rfl
          refine pure_ (i := 3) (N := some 36) (v := ?_) (a' := ?_) #[true, false, false, true, false, false, false, false, false] rfl rfl (any_of HT_.out (by kernel_rfl)) (fun _ _ _ h => h) (Or.inl ⟨by rfl, ?_⟩) ?_ ?_
          rotate_left
          · intro w'
            go_simp
            with_reducible rfl
          rotate_left
          · simp only [Act.put, List.setIfInBounds_toArray, List.set_cons_zero, List.set_cons_succ, i64_w, i32_w]
            rfl
          refine take_ (i := 1) (N := some 34) (v := ?_) (a' := ?_) #[true, true, false, true, false, false, false, false, false] rfl rfl (take_ofW HT_.out HW_.out (by kernel_rfl)) (fun _ _ _ h => h) (Or.inl ⟨by rfl, ?_⟩) hHeld ?_ ?_
          rotate_left
          · rintro w' ⟨s0, s1, s2, s3, s4, s5, s6⟩
            go_simp
            with_reducible rfl
          rotate_left
          · simp only [Act.put, List.setIfInBounds_toArray, List.set_cons_zero, List.set_cons_succ, i64_w, i32_w]
            rfl
          refine join_ (σ := Value × Addr) 4 #[true, true, true, true, true, false, false, false, false] (fun s_ => [(35, s_.1), (37, .int .i64 t264)]) (fun s_ w' => (w'.cell? ⟨gb256, 0, none⟩ = some (.bool (t244 == 0)) ∧ w'.cell? ⟨gb256, 1, none⟩ = some (.int .i64 (wrap64 (1 + t246))) ∧ w'.cell? ⟨gb256, 2, none⟩ = some (.int .i64 (wrap64 ((wrap64 (1 + t246)) + t257))) ∧ w'.cell? ⟨gb256, 3, none⟩ = some (.int .i64 (wrap64 (100 + t248))) ∧ w'.cell? ⟨gb256, 4, none⟩ = some (.int .i64 (wrap64 ((wrap64 (100 + t248)) + t259))) ∧ w'.cell? ⟨gb256, 5, none⟩ = some (.int .i64 (rd y250 t253)) ∧ w'.cell? ⟨gb256, 6, none⟩ = some (.int .i64 0)) ∧ (Kd.R (Kd.int .i64) 3 w' w.heap.size (fun k_ => some k_ ≠ (s_.1 : Value).ownBlock) (.slice (some ad255) y250.length co22) y250) ∧ (Kd.R (Kd.int .i64) 3 w' w.heap.size (fun k_ => some k_ ≠ (.slice (some ad255) y250.length co22 : Value).ownBlock) s_.1 y261) ∧ (∃ c_, (s_.1 : Value) = .slice (some s_.2) y261.length c_) ∧ (w'.heap[gb243]? = some (.cells #[.bool false, .int .i64 0, .int .i64 0, .int .i64 0, .int .i64 0, .int .i64 0, .int .i64 0] 25 (0, 0))) ∧ (w'.heap[gb256]? = some (.cells #[.bool (t244 == 0), .int .i64 (wrap64 (1 + t246)), .int .i64 (wrap64 ((wrap64 (1 + t246)) + t257)), .int .i64 (wrap64 (100 + t248)), .int .i64 (wrap64 ((wrap64 (100 + t248)) + t259)), .int .i64 (rd y250 t253), .int .i64 0] 25 (0, 0))) ∧ (IsS62 w0 w' g s0_0 t265) ∧ (KeepBut w w' g none) ∧ (Below w0.heap.size w0 w')) ?_ ?_
          rotate_left
          · intro hCont
            refine two_ (i := 2) (j := 4) (Ni := some 35) (Nj := some 37) #[true, true, true, true, false, false, false, false, false] #[true, true, false, true, true, false, false, false, false] rfl rfl rfl rfl (two_of HT_.out (by kernel_rfl)) (by decide) (by decide) (fun K hK => ?_) (fun K hK => ?_)
            · skip
              refine Kd.R_lit_step (Kd.int .i64) _ 3 ?hg (N := 35) ?hd (xs := ([999, 21, rd y250 t253] : List Int)) (inner := [.int .i64 999, .int .i64 21, .int .i64 (rd y250 t253)]) (ok := fun _ => True) (okp := fun _ => True) ?hr ?hp (fun _ hk => hk) trivial (Below.refl _ _) (Nat.le_refl _) (by simp) ?_; (case hd => rfl); (case hg => rfl); (case hr => first | (go_simp; done) | (go_simp; rfl)); (case hp => exact (Reps.one (show Kd.M (Kd.int .i64) _ _ _ 999 [.int .i64 999] from rfl) (Reps.one (show Kd.M (Kd.int .i64) _ _ _ 21 [.int .i64 21] from rfl) (Reps.one (show Kd.M (Kd.int .i64) _ _ _ (rd y250 t253) [.int .i64 (rd y250 t253)] from rfl) (Reps.none _ _)))))
              intro v262 w37 ho38 hb hg_ hnew_
              clear hg_ hnew_
              (first | rw [← Ny261.out] at ho38 | (simp only [Int.reduceToNat] at ho38; rw [← Ny261.out] at ho38))
              have n0_ := Aside0.mk (Kd.R_elder' (rs HO252) (Kd.R_base ho38) hb)
              have n1_ := Aside0.mk (Kd.R_lower (Kd.R_new' ho38 (Kd.R_lt (rs HO252))) (keep_size (w := w) (g := g) (row := none) (by repeat (first | (with_reducible first | exact HK.out | apply KeepBut.set_ | apply keep_drewN | apply keep_drew | apply keep_alloc | refine keep_far ?_ GW243.out _ | refine keep_far ?_ GW256.out _) | exact HK.out))))
              have n2_ := Aside0.mk (IsS62.below (by repeat (first | (with_reducible first | exact HI0.out | apply IsS62.alloc | apply IsS62.drewN | apply IsS62.drew | apply IsS62.set_1 | refine IsS62.far ?_ NB0_243.out _ | refine IsS62.far ?_ NB0_256.out _) | exact HI0.out)) hb)
              have n3_ := bkB BK243 hb
              have n4_ := bkB BK256 hb
              have n5_ := Aside0.mk (KeepBut.trans (by repeat (first | (with_reducible first | exact HK.out | apply KeepBut.set_ | apply keep_drewN | apply keep_drew | apply keep_alloc | refine keep_far ?_ GW243.out _ | refine keep_far ?_ GW256.out _) | exact HK.out)) (KeepBut.of_below hb g none) (.inl rfl))
              have n6_ := Aside0.mk (below_step (by repeat (first | (with_reducible first | exact HB.out | apply below_alloc | apply pw_below_drewN | apply below_drew1 | refine below_set ?_ (IsS62.ge HI0.out) | refine below_set ?_ GE243.out | refine below_set ?_ GE256.out) | exact HB.out)) hb)
              clear HO252
              clear HI0
              clear BK243
              clear BK256
              clear HK
              clear HB
              have HO252 := n0_
              have HO263 := n1_
              have HI0 := n2_
              have BK243 := n3_
              have BK256 := n4_
              have HK := n5_
              have HB := n6_
              clear n0_ n1_ n2_ n3_ n4_ n5_ n6_
              clear hb ho38
              obtain ⟨Ao39, co39, eo39⟩ := Kd.R_slice HO263.out
              subst eo39
              obtain ⟨ado39, fo39, _⟩ := Kd.at_int (Kd.R_reads' HO263.out).2.2 0 (by decide) (by rw [Ny261.out]; simp)
              cases fo39
              refine hK.out _ _ ⟨(blk_cell BK256.out 0).trans rfl, (blk_cell BK256.out 1).trans rfl, (blk_cell BK256.out 2).trans rfl, (blk_cell BK256.out 3).trans rfl, (blk_cell BK256.out 4).trans rfl, (blk_cell BK256.out 5).trans rfl, (blk_cell BK256.out 6).trans rfl⟩ (fun hHeld => ?_)
              clear hK K
              refine norm_ (a' := ?_) ?_ ?_
              rotate_left
              · show Act.put _ (some 35) _ = _
                simp only [Act.put, List.setIfInBounds_toArray, List.set_cons_zero, List.set_cons_succ, i64_w, i32_w]
                rfl
              refine one_ (i := 4) (N := some 37) #[true, true, true, true, true, false, false, false, false] rfl rfl (one_of HT_.out (by kernel_rfl)) (by decide) (fun K hK => ?_)
              refine goes_ Tryd.func26 (by kernel_rfl) rfl #[.pointer (some ⟨g, 0, none⟩), .int .i64 3] (by rfl) rfl rfl (by (try simp only [List.map_toArray, List.map_cons, List.map_nil]); first | done | rfl | (simp only [List.length_drop, List.length_take]; rfl)) ?_
              with_reducible refine (spec_l20Rd_pick.calls k g s0_0 t260 3 t264 t265 w0 _ ?side1 ?side2 A11.out).mono ?_
              (case side1 => repeat (first | (with_reducible first | exact HI0.out | apply IsS62.alloc | apply IsS62.drewN | apply IsS62.drew | apply IsS62.set_1 | refine IsS62.far ?_ NB0_243.out _ | refine IsS62.far ?_ NB0_256.out _) | exact HI0.out))
              (case side2 => repeat (first | (with_reducible first | exact HB.out | apply below_alloc | apply pw_below_drewN | apply below_drew1 | refine below_set ?_ (IsS62.ge HI0.out) | refine below_set ?_ GE243.out | refine below_set ?_ GE256.out) | exact HB.out))
              rintro e w40 ⟨rfl, hi, hb, hk⟩
              refine ⟨_, rfl, ?_⟩
              have n0_ := Aside0.mk (KeepBut.blk hk (g' := gb243) (o := .cells #[.bool false, .int .i64 0, .int .i64 0, .int .i64 0, .int .i64 0, .int .i64 0, .int .i64 0] 25 (0, 0)) (bk BK243) NB243_0.out (by simp))
              have n1_ := Aside0.mk (Kd.R_mono (Kd.R_keep (IsS62.apart (show IsS62 w0 _ g s0_0 t260 from by repeat (first | (with_reducible first | exact HI0.out | apply IsS62.alloc | apply IsS62.drewN | apply IsS62.drew | apply IsS62.set_1 | refine IsS62.far ?_ NB0_243.out _ | refine IsS62.far ?_ NB0_256.out _) | exact HI0.out)) (rs HO252) (by decide)) hk (fun _ h => h.2)) (fun _ h => h.1))
              have n2_ := Aside0.mk (KeepBut.blk hk (g' := gb256) (o := .cells #[.bool (t244 == 0), .int .i64 (wrap64 (1 + t246)), .int .i64 (wrap64 ((wrap64 (1 + t246)) + t257)), .int .i64 (wrap64 (100 + t248)), .int .i64 (wrap64 ((wrap64 (100 + t248)) + t259)), .int .i64 (rd y250 t253), .int .i64 0] 25 (0, 0)) (bk BK256) NB256_0.out (by simp))
              have n3_ := Aside0.mk (Kd.R_mono (Kd.R_keep (IsS62.apart (show IsS62 w0 _ g s0_0 t260 from by repeat (first | (with_reducible first | exact HI0.out | apply IsS62.alloc | apply IsS62.drewN | apply IsS62.drew | apply IsS62.set_1 | refine IsS62.far ?_ NB0_243.out _ | refine IsS62.far ?_ NB0_256.out _) | exact HI0.out)) (rs HO263) (by decide)) hk (fun _ h => h.2)) (fun _ h => h.1))
              have n4_ := Aside0.mk (KeepBut.trans (by repeat (first | (with_reducible first | exact HK.out | apply KeepBut.set_ | apply keep_drewN | apply keep_drew | apply keep_alloc | refine keep_far ?_ GW243.out _ | refine keep_far ?_ GW256.out _) | exact HK.out)) hk (.inl rfl))
              have n5_ := Aside0.mk (hb)
              have n6_ := Aside0.mk (hi)
              clear BK243
              clear HO252
              clear BK256
              clear HO263
              clear HK
              clear HB
              clear HI0
              have BK243 := n0_
              have HO252 := n1_
              have BK256 := n2_
              have HO263 := n3_
              have HK := n4_
              have HB := n5_
              have HI0 := n6_
              clear n0_ n1_ n2_ n3_ n4_ n5_ n6_
              (try clear hb)
              (try clear hb2)
              (try clear hk)
              (try clear hi)
              refine hK.out _ _ ⟨(blk_cell BK256.out 0).trans rfl, (blk_cell BK256.out 1).trans rfl, (blk_cell BK256.out 2).trans rfl, (blk_cell BK256.out 3).trans rfl, (blk_cell BK256.out 4).trans rfl, (blk_cell BK256.out 5).trans rfl, (blk_cell BK256.out 6).trans rfl⟩ (fun hHeld => ?_)
              clear hK K
              refine norm_ (a' := ?_) ?_ ?_
              rotate_left
              · show Act.put _ (some 37) _ = _
                simp only [Act.put, List.setIfInBounds_toArray, List.set_cons_zero, List.set_cons_succ, i64_w, i32_w]
                rfl
              exact norm_ (by simp only [putAll, Act.put, List.setIfInBounds_toArray, List.set_cons_zero, List.set_cons_succ]) (hCont (.slice (some ado39) y261.length co39, ado39) _ ⟨hHeld, (by (with_reducible repeat apply ru); exact Kd.R_mono HO252.out (fun _ hk => hk.2)), (by (with_reducible repeat apply ru); exact Kd.R_mono HO263.out (fun _ hk => hk.2)), ⟨_, rfl⟩, (bk BK243), (bk BK256), (by repeat (first | (with_reducible first | exact HI0.out | apply IsS62.alloc | apply IsS62.drewN | apply IsS62.drew | apply IsS62.set_1 | refine IsS62.far ?_ NB0_243.out _ | refine IsS62.far ?_ NB0_256.out _) | exact HI0.out)), (by repeat (first | (with_reducible first | exact HK.out | apply KeepBut.set_ | apply keep_drewN | apply keep_drew | apply keep_alloc | refine keep_far ?_ GW243.out _ | refine keep_far ?_ GW256.out _) | exact HK.out)), (by repeat (first | (with_reducible first | exact HB.out | apply below_alloc | apply pw_below_drewN | apply below_drew1 | refine below_set ?_ (IsS62.ge HI0.out) | refine below_set ?_ GE243.out | refine below_set ?_ GE256.out) | exact HB.out))⟩)
            · skip
              refine goes_ Tryd.func26 (by kernel_rfl) rfl #[.pointer (some ⟨g, 0, none⟩), .int .i64 3] (by rfl) rfl rfl (by (try simp only [List.map_toArray, List.map_cons, List.map_nil]); first | done | rfl | (simp only [List.length_drop, List.length_take]; rfl)) ?_
              with_reducible refine (spec_l20Rd_pick.calls k g s0_0 t260 3 t264 t265 w0 _ ?side1 ?side2 A11.out).mono ?_
              (case side1 => repeat (first | (with_reducible first | exact HI0.out | apply IsS62.alloc | apply IsS62.drewN | apply IsS62.drew | apply IsS62.set_1 | refine IsS62.far ?_ NB0_243.out _ | refine IsS62.far ?_ NB0_256.out _) | exact HI0.out))
              (case side2 => repeat (first | (with_reducible first | exact HB.out | apply below_alloc | apply pw_below_drewN | apply below_drew1 | refine below_set ?_ (IsS62.ge HI0.out) | refine below_set ?_ GE243.out | refine below_set ?_ GE256.out) | exact HB.out))
              rintro e w37 ⟨rfl, hi, hb, hk⟩
              refine ⟨_, rfl, ?_⟩
              have n0_ := Aside0.mk (KeepBut.blk hk (g' := gb243) (o := .cells #[.bool false, .int .i64 0, .int .i64 0, .int .i64 0, .int .i64 0, .int .i64 0, .int .i64 0] 25 (0, 0)) (bk BK243) NB243_0.out (by simp))
              have n1_ := Aside0.mk (Kd.R_mono (Kd.R_keep (IsS62.apart (show IsS62 w0 _ g s0_0 t260 from by repeat (first | (with_reducible first | exact HI0.out | apply IsS62.alloc | apply IsS62.drewN | apply IsS62.drew | apply IsS62.set_1 | refine IsS62.far ?_ NB0_243.out _ | refine IsS62.far ?_ NB0_256.out _) | exact HI0.out)) (rs HO252) (by decide)) hk (fun _ h => h.2)) (fun _ h => h.1))
              have n2_ := Aside0.mk (KeepBut.blk hk (g' := gb256) (o := .cells #[.bool (t244 == 0), .int .i64 (wrap64 (1 + t246)), .int .i64 (wrap64 ((wrap64 (1 + t246)) + t257)), .int .i64 (wrap64 (100 + t248)), .int .i64 (wrap64 ((wrap64 (100 + t248)) + t259)), .int .i64 (rd y250 t253), .int .i64 0] 25 (0, 0)) (bk BK256) NB256_0.out (by simp))
              have n3_ := Aside0.mk (KeepBut.trans (by repeat (first | (with_reducible first | exact HK.out | apply KeepBut.set_ | apply keep_drewN | apply keep_drew | apply keep_alloc | refine keep_far ?_ GW243.out _ | refine keep_far ?_ GW256.out _) | exact HK.out)) hk (.inl rfl))
              have n4_ := Aside0.mk (hb)
              have n5_ := Aside0.mk (hi)
              clear BK243
              clear HO252
              clear BK256
              clear HK
              clear HB
              clear HI0
              have BK243 := n0_
              have HO252 := n1_
              have BK256 := n2_
              have HK := n3_
              have HB := n4_
              have HI0 := n5_
              clear n0_ n1_ n2_ n3_ n4_ n5_
              (try clear hb)
              (try clear hb2)
              (try clear hk)
              (try clear hi)
              refine hK.out _ _ ⟨(blk_cell BK256.out 0).trans rfl, (blk_cell BK256.out 1).trans rfl, (blk_cell BK256.out 2).trans rfl, (blk_cell BK256.out 3).trans rfl, (blk_cell BK256.out 4).trans rfl, (blk_cell BK256.out 5).trans rfl, (blk_cell BK256.out 6).trans rfl⟩ (fun hHeld => ?_)
              clear hK K
              refine norm_ (a' := ?_) ?_ ?_
              rotate_left
              · show Act.put _ (some 37) _ = _
                simp only [Act.put, List.setIfInBounds_toArray, List.set_cons_zero, List.set_cons_succ, i64_w, i32_w]
                rfl
              refine one_ (i := 2) (N := some 35) #[true, true, true, true, true, false, false, false, false] rfl rfl (one_of HT_.out (by kernel_rfl)) (by decide) (fun K hK => ?_)
              refine Kd.R_lit_step (Kd.int .i64) _ 3 ?hg (N := 35) ?hd (xs := ([999, 21, rd y250 t253] : List Int)) (inner := [.int .i64 999, .int .i64 21, .int .i64 (rd y250 t253)]) (ok := fun _ => True) (okp := fun _ => True) ?hr ?hp (fun _ hk => hk) trivial (Below.refl _ _) (Nat.le_refl _) (by simp) ?_; (case hd => rfl); (case hg => rfl); (case hr => first | (go_simp; done) | (go_simp; rfl)); (case hp => exact (Reps.one (show Kd.M (Kd.int .i64) _ _ _ 999 [.int .i64 999] from rfl) (Reps.one (show Kd.M (Kd.int .i64) _ _ _ 21 [.int .i64 21] from rfl) (Reps.one (show Kd.M (Kd.int .i64) _ _ _ (rd y250 t253) [.int .i64 (rd y250 t253)] from rfl) (Reps.none _ _)))))
              intro v262 w38 ho39 hb hg_ hnew_
              clear hg_ hnew_
              (first | rw [← Ny261.out] at ho39 | (simp only [Int.reduceToNat] at ho39; rw [← Ny261.out] at ho39))
              have n0_ := Aside0.mk (Kd.R_elder' (rs HO252) (Kd.R_base ho39) hb)
              have n1_ := Aside0.mk (Kd.R_lower (Kd.R_new' ho39 (Kd.R_lt (rs HO252))) (keep_size (w := w) (g := g) (row := none) (by repeat (first | (with_reducible first | exact HK.out | apply KeepBut.set_ | apply keep_drewN | apply keep_drew | apply keep_alloc | refine keep_far ?_ GW243.out _ | refine keep_far ?_ GW256.out _) | exact HK.out))))
              have n2_ := Aside0.mk (IsS62.below (by repeat (first | (with_reducible first | exact HI0.out | apply IsS62.alloc | apply IsS62.drewN | apply IsS62.drew | apply IsS62.set_1 | refine IsS62.far ?_ NB0_243.out _ | refine IsS62.far ?_ NB0_256.out _) | exact HI0.out)) hb)
              have n3_ := bkB BK243 hb
              have n4_ := bkB BK256 hb
              have n5_ := Aside0.mk (KeepBut.trans (by repeat (first | (with_reducible first | exact HK.out | apply KeepBut.set_ | apply keep_drewN | apply keep_drew | apply keep_alloc | refine keep_far ?_ GW243.out _ | refine keep_far ?_ GW256.out _) | exact HK.out)) (KeepBut.of_below hb g none) (.inl rfl))
              have n6_ := Aside0.mk (below_step (by repeat (first | (with_reducible first | exact HB.out | apply below_alloc | apply pw_below_drewN | apply below_drew1 | refine below_set ?_ (IsS62.ge HI0.out) | refine below_set ?_ GE243.out | refine below_set ?_ GE256.out) | exact HB.out)) hb)
              clear HO252
              clear HI0
              clear BK243
              clear BK256
              clear HK
              clear HB
              have HO252 := n0_
              have HO263 := n1_
              have HI0 := n2_
              have BK243 := n3_
              have BK256 := n4_
              have HK := n5_
              have HB := n6_
              clear n0_ n1_ n2_ n3_ n4_ n5_ n6_
              clear hb ho39
              obtain ⟨Ao40, co40, eo40⟩ := Kd.R_slice HO263.out
              subst eo40
              obtain ⟨ado40, fo40, _⟩ := Kd.at_int (Kd.R_reads' HO263.out).2.2 0 (by decide) (by rw [Ny261.out]; simp)
              cases fo40
              refine hK.out _ _ ⟨(blk_cell BK256.out 0).trans rfl, (blk_cell BK256.out 1).trans rfl, (blk_cell BK256.out 2).trans rfl, (blk_cell BK256.out 3).trans rfl, (blk_cell BK256.out 4).trans rfl, (blk_cell BK256.out 5).trans rfl, (blk_cell BK256.out 6).trans rfl⟩ (fun hHeld => ?_)
              clear hK K
              refine norm_ (a' := ?_) ?_ ?_
              rotate_left
              · show Act.put _ (some 35) _ = _
                simp only [Act.put, List.setIfInBounds_toArray, List.set_cons_zero, List.set_cons_succ, i64_w, i32_w]
                rfl
              exact norm_ (by simp only [putAll, Act.put, List.setIfInBounds_toArray, List.set_cons_zero, List.set_cons_succ]) (hCont (.slice (some ado40) y261.length co40, ado40) _ ⟨hHeld, (by (with_reducible repeat apply ru); exact Kd.R_mono HO252.out (fun _ hk => hk.2)), (by (with_reducible repeat apply ru); exact Kd.R_mono HO263.out (fun _ hk => hk.2)), ⟨_, rfl⟩, (bk BK243), (bk BK256), (by repeat (first | (with_reducible first | exact HI0.out | apply IsS62.alloc | apply IsS62.drewN | apply IsS62.drew | apply IsS62.set_1 | refine IsS62.far ?_ NB0_243.out _ | refine IsS62.far ?_ NB0_256.out _) | exact HI0.out)), (by repeat (first | (with_reducible first | exact HK.out | apply KeepBut.set_ | apply keep_drewN | apply keep_drew | apply keep_alloc | refine keep_far ?_ GW243.out _ | refine keep_far ?_ GW256.out _) | exact HK.out)), (by repeat (first | (with_reducible first | exact HB.out | apply below_alloc | apply pw_below_drewN | apply below_drew1 | refine below_set ?_ (IsS62.ge HI0.out) | refine below_set ?_ GE243.out | refine below_set ?_ GE256.out) | exact HB.out))⟩)
          rintro ⟨v262, adz_v262⟩ w41 ⟨hS_, h0_, h1_, h2_, h3_, h4_, h5_, h6_, h7_⟩
          have n0_ : Aside0 (Kd.R (Kd.int .i64) 3 w41 w.heap.size (fun k_ => some k_ ≠ (v262 : Value).ownBlock) (.slice (some ad255) y250.length co22) y250) := ⟨h0_⟩
          have n1_ : Aside0 (Kd.R (Kd.int .i64) 3 w41 w.heap.size (fun k_ => some k_ ≠ (.slice (some ad255) y250.length co22 : Value).ownBlock) v262 y261) := ⟨h1_⟩
          have n2_ : Aside0 (∃ c_, (v262 : Value) = .slice (some adz_v262) y261.length c_) := ⟨h2_⟩
          have n3_ : Aside0 (w41.heap[gb243]? = some (.cells #[.bool false, .int .i64 0, .int .i64 0, .int .i64 0, .int .i64 0, .int .i64 0, .int .i64 0] 25 (0, 0))) := ⟨h3_⟩
          have n4_ : Aside0 (w41.heap[gb256]? = some (.cells #[.bool (t244 == 0), .int .i64 (wrap64 (1 + t246)), .int .i64 (wrap64 ((wrap64 (1 + t246)) + t257)), .int .i64 (wrap64 (100 + t248)), .int .i64 (wrap64 ((wrap64 (100 + t248)) + t259)), .int .i64 (rd y250 t253), .int .i64 0] 25 (0, 0))) := ⟨h4_⟩
          have n5_ : Aside0 (IsS62 w0 w41 g s0_0 t265) := ⟨h5_⟩
          have n6_ : Aside0 (KeepBut w w41 g none) := ⟨h6_⟩
          have n7_ : Aside0 (Below w0.heap.size w0 w41) := ⟨h7_⟩
          clear HO252
          clear BK243
          clear BK256
          clear HI0
          clear HK
          clear HB
          clear h0_ h1_ h2_ h3_ h4_ h5_ h6_ h7_
          have HO252 := n0_
          have HO263 := n1_
          have HA_HO263 := n2_
          have BK243 := n3_
          have BK256 := n4_
          have HI0 := n5_
          have HK := n6_
          have HB := n7_
          clear n0_ n1_ n2_ n3_ n4_ n5_ n6_ n7_
          have hHeld : w41.cell? ⟨gb256, 0, none⟩ = some (.bool (t244 == 0)) ∧ w41.cell? ⟨gb256, 1, none⟩ = some (.int .i64 (wrap64 (1 + t246))) ∧ w41.cell? ⟨gb256, 2, none⟩ = some (.int .i64 (wrap64 ((wrap64 (1 + t246)) + t257))) ∧ w41.cell? ⟨gb256, 3, none⟩ = some (.int .i64 (wrap64 (100 + t248))) ∧ w41.cell? ⟨gb256, 4, none⟩ = some (.int .i64 (wrap64 ((wrap64 (100 + t248)) + t259))) ∧ w41.cell? ⟨gb256, 5, none⟩ = some (.int .i64 (rd y250 t253)) ∧ w41.cell? ⟨gb256, 6, none⟩ = some (.int .i64 0) := hS_
          obtain ⟨co42, eo42⟩ := HA_HO263.out
          clear HA_HO263
          subst eo42
          refine norm_ (a' := ?_) ?_ ?_
          rotate_left
          · simp only [putAll, Act.put, List.setIfInBounds_toArray, List.set_cons_zero, List.set_cons_succ]
            rfl
          refine pure_ (i := 5) (N := some 38) (v := ?_) (a' := ?_) #[true, true, true, true, true, true, false, false, false] rfl rfl (any_of HT_.out (by kernel_rfl)) (fun _ _ _ h => h) (Or.inl ⟨by rfl, ?_⟩) ?_ ?_
          rotate_left
          · intro w'
            go_simp
            with_reducible rfl
          rotate_left
          · simp only [Act.put, List.setIfInBounds_toArray, List.set_cons_zero, List.set_cons_succ, i64_w, i32_w]
            rfl
          refine one_ (i := 6) (N := some 39) #[true, true, true, true, true, true, true, false, false] rfl rfl (one_of HT_.out (by kernel_rfl)) (by decide) (fun K hK => ?_)
          (have p266 : 0 ≤ (t264 : Int) := of_decide_eq_true (by first | (with_reducible assumption) | assumption); have q266 : t264 < (y261.length : Int) := of_decide_eq_true (by first | (with_reducible assumption) | assumption); obtain ⟨ad266, e266, hx266_0⟩ := Kd.at_int (Kd.R_reads' HO263.out).2.2 t264 p266 q266; obtain rfl : adz_v262 = ad266 := (by injection e266))
          refine value_ (w1 := ?_) (v := ?_) (by rfl) rfl ?_ ?_
          rotate_left 2
          · go_simp
            constructor
            · rfl
            · rfl
          clear hx266_0
          refine hK.out _ _ ⟨(blk_cell BK256.out 0).trans rfl, (blk_cell BK256.out 1).trans rfl, (blk_cell BK256.out 2).trans rfl, (blk_cell BK256.out 3).trans rfl, (blk_cell BK256.out 4).trans rfl, (blk_cell BK256.out 5).trans rfl, (blk_cell BK256.out 6).trans rfl⟩ (fun hHeld => ?_)
          clear hK K
          refine norm_ (a' := ?_) ?_ ?_
          rotate_left
          · show Act.put _ (some 39) _ = _
            simp only [Act.put, List.setIfInBounds_toArray, List.set_cons_zero, List.set_cons_succ, i64_w, i32_w]
            rfl
          refine pure_ (i := 7) (N := some 40) (v := ?_) (a' := ?_) #[true, true, true, true, true, true, true, true, false] rfl rfl (any_of HT_.out (by kernel_rfl)) (fun _ _ _ h => h) (Or.inl ⟨by rfl, ?_⟩) ?_ ?_
          rotate_left
          · intro w'
            go_simp
            with_reducible rfl
          rotate_left
          · simp only [Act.put, List.setIfInBounds_toArray, List.set_cons_zero, List.set_cons_succ, i64_w, i32_w]
            rfl
          refine last_ (i := 8) (N := none) #[true, true, true, true, true, true, true, true, true] rfl rfl (one_of HT_.out (by kernel_rfl)) (by decide) (fun K hK => ?_)
          have hs43 : w41.cell? ⟨gb256, 6, none⟩ = some (.int .i64 0) := (blk_cell BK256.out 6).trans rfl
          have hfs43 := blk_frozen BK256.out 6
          have hns43_0 := NB243_256.out
          have hms43_0 := NB256_243.out
          refine skip_ (w1 := ?_) (by rfl) rfl ?_ ?_
          rotate_left
          · go_simp
            rfl
          refine hK.out _ _ ?_
          clear hK K
          refine done_ (done_of HT_.out (by kernel_rfl)) ?_
          have hcz44_0 : w41.cell? ⟨gb256, 0, none⟩ = some (.bool (t244 == 0)) := (blk_cell BK256.out 0).trans rfl
          have hcz44_1 : w41.cell? ⟨gb256, 1, none⟩ = some (.int .i64 (wrap64 (1 + t246))) := (blk_cell BK256.out 1).trans rfl
          have hcz44_2 : w41.cell? ⟨gb256, 2, none⟩ = some (.int .i64 (wrap64 ((wrap64 (1 + t246)) + t257))) := (blk_cell BK256.out 2).trans rfl
          have hcz44_3 : w41.cell? ⟨gb256, 3, none⟩ = some (.int .i64 (wrap64 (100 + t248))) := (blk_cell BK256.out 3).trans rfl
          have hcz44_4 : w41.cell? ⟨gb256, 4, none⟩ = some (.int .i64 (wrap64 ((wrap64 (100 + t248)) + t259))) := (blk_cell BK256.out 4).trans rfl
          have hcz44_5 : w41.cell? ⟨gb256, 5, none⟩ = some (.int .i64 (rd y250 t253)) := (blk_cell BK256.out 5).trans rfl
          have hcz44_6 : w41.cell? ⟨gb256, 6, none⟩ = some (.int .i64 0) := (blk_cell BK256.out 6).trans rfl
          have hfz44_0 := blk_frozen BK256.out 0
          have hfz44_1 := blk_frozen BK256.out 1
          have hfz44_2 := blk_frozen BK256.out 2
          have hfz44_3 := blk_frozen BK256.out 3
          have hfz44_4 := blk_frozen BK256.out 4
          have hfz44_5 := blk_frozen BK256.out 5
          have hfz44_6 := blk_frozen BK256.out 6
          go_upto_if 45 with (fail)
          go_cut [] (fun wc => ∃ (kq : Nat) (x257006_13 : Int), Aside0 (spec_l20Rule.j0 kq a1 s0_0 t265 (t244 == 0) (wrap64 (1 + t246)) (wrap64 ((wrap64 (1 + t246)) + t257)) (wrap64 (100 + t248)) (wrap64 ((wrap64 (100 + t248)) + t259)) (rd y250 t253) x257006_13 = some (r1, r2, r3, r4, r5, r6, r7, r8)) ∧ Aside0 (kq ≤ k) ∧ Aside0 (wc.heap[gb243]? = some (.cells #[.bool false, .int .i64 0, .int .i64 0, .int .i64 0, .int .i64 0, .int .i64 0, .int .i64 0] 25 (0, 0))) ∧ Aside0 (wc.heap[gb256]? = some (.cells #[.bool (t244 == 0), .int .i64 (wrap64 (1 + t246)), .int .i64 (wrap64 ((wrap64 (1 + t246)) + t257)), .int .i64 (wrap64 (100 + t248)), .int .i64 (wrap64 ((wrap64 (100 + t248)) + t259)), .int .i64 (rd y250 t253), .int .i64 x257006_13] 25 (0, 0))) ∧ Aside0 (IsS62 w0 wc g s0_0 t265) ∧ Aside0 (KeepBut w wc g none) ∧ Aside0 (Below w0.heap.size w0 wc))
          case first =>
            have H := HC14.out
            clear HC14
            by_cases c45 : (rd y261 t264) < (rd y250 t253)
            · rw [if_pos c45] at H
              have c45b0 : decide ((rd y261 t264) < (rd y250 t253)) = true := decide_eq_true c45
              clear c45
              (first | rw [c45b0] | (simp only [i64_w, i32_w]; rw [c45b0]) | skip)
              have H' := Aside0.mk H
              clear H
              have hnb46 := NB256_243.out
              have hnc46 := NB243_256.out
              have hnb47 := NB256_0.out
              have hnc47 := NB0_256.out
              have hcz48_0 : w41.cell? ⟨gb256, 0, none⟩ = some (.bool (t244 == 0)) := (blk_cell BK256.out 0).trans rfl
              have hcz48_1 : w41.cell? ⟨gb256, 1, none⟩ = some (.int .i64 (wrap64 (1 + t246))) := (blk_cell BK256.out 1).trans rfl
              have hcz48_2 : w41.cell? ⟨gb256, 2, none⟩ = some (.int .i64 (wrap64 ((wrap64 (1 + t246)) + t257))) := (blk_cell BK256.out 2).trans rfl
              have hcz48_3 : w41.cell? ⟨gb256, 3, none⟩ = some (.int .i64 (wrap64 (100 + t248))) := (blk_cell BK256.out 3).trans rfl
              have hcz48_4 : w41.cell? ⟨gb256, 4, none⟩ = some (.int .i64 (wrap64 ((wrap64 (100 + t248)) + t259))) := (blk_cell BK256.out 4).trans rfl
              have hcz48_5 : w41.cell? ⟨gb256, 5, none⟩ = some (.int .i64 (rd y250 t253)) := (blk_cell BK256.out 5).trans rfl
              have hcz48_6 : w41.cell? ⟨gb256, 6, none⟩ = some (.int .i64 0) := (blk_cell BK256.out 6).trans rfl
              have hfz48_0 := blk_frozen BK256.out 0
              have hfz48_1 := blk_frozen BK256.out 1
              have hfz48_2 := blk_frozen BK256.out 2
              have hfz48_3 := blk_frozen BK256.out 3
              have hfz48_4 := blk_frozen BK256.out 4
              have hfz48_5 := blk_frozen BK256.out 5
              have hfz48_6 := blk_frozen BK256.out 6
              go_wp2
              go_meet
              case rel => exact ⟨_, (rd y250 t253), H', ⟨by first | omega | exact Nat.le_refl _⟩, ⟨by (with_reducible repeat refine bu ?_); refine blk_far ?_ NB243_256.out _; (with_reducible repeat refine bu ?_); refine blk_far ?_ NB243_256.out _; (with_reducible repeat refine bu ?_); exact BK243.out⟩, ⟨by (with_reducible repeat refine bu ?_); refine blk_put (cs := #[.bool (t244 == 0), .int .i64 (wrap64 (1 + t246)), .int .i64 (wrap64 ((wrap64 (1 + t246)) + t257)), .int .i64 (wrap64 (100 + t248)), .int .i64 (wrap64 ((wrap64 (100 + t248)) + t259)), .int .i64 (rd y250 t253), .int .i64 (rd y261 t264)]) ?_ 6 _ rfl; (with_reducible repeat refine bu ?_); refine blk_put (cs := #[.bool (t244 == 0), .int .i64 (wrap64 (1 + t246)), .int .i64 (wrap64 ((wrap64 (1 + t246)) + t257)), .int .i64 (wrap64 (100 + t248)), .int .i64 (wrap64 ((wrap64 (100 + t248)) + t259)), .int .i64 (rd y250 t253), .int .i64 0]) ?_ 6 _ rfl; (with_reducible repeat refine bu ?_); exact BK256.out⟩, ⟨by repeat (first | (with_reducible first | exact HI0.out | apply IsS62.alloc | apply IsS62.drewN | apply IsS62.drew | apply IsS62.set_1 | refine IsS62.far ?_ NB0_243.out _ | refine IsS62.far ?_ NB0_256.out _) | exact HI0.out)⟩, ⟨by repeat (first | (with_reducible first | exact HK.out | apply KeepBut.set_ | apply keep_drewN | apply keep_drew | apply keep_alloc | refine keep_far ?_ GW243.out _ | refine keep_far ?_ GW256.out _) | exact HK.out)⟩, ⟨by repeat (first | (with_reducible first | exact HB.out | apply below_alloc | apply pw_below_drewN | apply below_drew1 | refine below_set ?_ (IsS62.ge HI0.out) | refine below_set ?_ GE243.out | refine below_set ?_ GE256.out) | exact HB.out)⟩⟩
            · rw [if_neg c45] at H
              have c45b0 : decide ((rd y261 t264) < (rd y250 t253)) = false := decide_eq_false c45
              clear c45
              (first | rw [c45b0] | (simp only [i64_w, i32_w]; rw [c45b0]) | skip)
              have H' := Aside0.mk H
              clear H
              go_wp2
              go_meet
              case rel => exact ⟨_, (rd y261 t264), H', ⟨by first | omega | exact Nat.le_refl _⟩, ⟨by (with_reducible repeat refine bu ?_); refine blk_far ?_ NB243_256.out _; (with_reducible repeat refine bu ?_); exact BK243.out⟩, ⟨by (with_reducible repeat refine bu ?_); refine blk_put (cs := #[.bool (t244 == 0), .int .i64 (wrap64 (1 + t246)), .int .i64 (wrap64 ((wrap64 (1 + t246)) + t257)), .int .i64 (wrap64 (100 + t248)), .int .i64 (wrap64 ((wrap64 (100 + t248)) + t259)), .int .i64 (rd y250 t253), .int .i64 0]) ?_ 6 _ rfl; (with_reducible repeat refine bu ?_); exact BK256.out⟩, ⟨by repeat (first | (with_reducible first | exact HI0.out | apply IsS62.alloc | apply IsS62.drewN | apply IsS62.drew | apply IsS62.set_1 | refine IsS62.far ?_ NB0_243.out _ | refine IsS62.far ?_ NB0_256.out _) | exact HI0.out)⟩, ⟨by repeat (first | (with_reducible first | exact HK.out | apply KeepBut.set_ | apply keep_drewN | apply keep_drew | apply keep_alloc | refine keep_far ?_ GW243.out _ | refine keep_far ?_ GW256.out _) | exact HK.out)⟩, ⟨by repeat (first | (with_reducible first | exact HB.out | apply below_alloc | apply pw_below_drewN | apply below_drew1 | refine below_set ?_ (IsS62.ge HI0.out) | refine below_set ?_ GE243.out | refine below_set ?_ GE256.out) | exact HB.out)⟩⟩
          case rest =>
            clear HC14
            try clear c2
            try clear p2
            try clear q2
            try clear hx2
            try clear qi2
            try clear c4
            try clear p6
            try clear c26
            try clear p26
            try clear q26
            try clear hx26
            try clear qi26
            try clear c45
            try clear c45b0
            try clear c46
            try clear c47
            try clear hcz44_0
            try clear hcz44_1
            try clear hcz44_2
            try clear hcz44_3
            try clear hcz44_4
            try clear hcz44_5
            try clear hcz44_6
            try clear hcz48_0
            try clear hcz48_1
            try clear hcz48_2
            try clear hcz48_3
            try clear hcz48_4
            try clear hcz48_5
            try clear hcz48_6
            try clear hfz44_0
            try clear hfz44_1
            try clear hfz44_2
            try clear hfz44_3
            try clear hfz44_4
            try clear hfz44_5
            try clear hfz44_6
            try clear hfz48_0
            try clear hfz48_1
            try clear hfz48_2
            try clear hfz48_3
            try clear hfz48_4
            try clear hfz48_5
            try clear hfz48_6
            try clear hx266_0
            try clear p266
            try clear q266
            obtain ⟨kq, x257006_13, HA, HJ13, BK243, BK256, HI0, HK, HB⟩ := hcut
            cases kq with
            | zero => exact absurd HA.out (by simp [spec_l20Rule.j0])
            | succ kj13 =>
              have H := HA.out
              clear HA
              simp only [spec_l20Rule.j0] at H
              replace H := Option.bind_eq_some_iff.mp H
              obtain ⟨⟨t267, t268⟩, A490, H⟩ := H
              replace H : (if t267 = true then ((spec_l20Rd_pick.f kj13 s0_0 t268 4).bind fun bt269 => (if bt269.1 = 0 then ((some (([0, 9, (-1)] : List Int) : List Int)).bind fun y271 => ((spec_l20Rd_pick.f kj13 s0_0 bt269.2 3).bind fun bt274 => (if 0 ≤ bt274.1 then (if bt274.1 < (y271.length : Int) then (some ((t244 == 0), rd y271 bt274.1, (wrap64 ((wrap64 (1 + t246)) + t257)), (wrap64 (100 + t248)), (wrap64 ((wrap64 (100 + t248)) + t259)), (rd y250 t253), x257006_13, bt274.2)) else (none)) else (none)))) else (if bt269.1 = 1 then ((some (([110, 99] : List Int) : List Int)).bind fun y277 => ((spec_l20Rd_pick.f kj13 s0_0 bt269.2 2).bind fun bt280 => (if 0 ≤ bt280.1 then (if bt280.1 < (y277.length : Int) then (some ((t244 == 0), (wrap64 (1 + t246)), (wrap64 ((wrap64 (1 + t246)) + t257)), (wrap64 (100 + t248)), rd y277 bt280.1, (rd y250 t253), x257006_13, bt280.2)) else (none)) else (none)))) else (if bt269.1 = 2 then ((some (([0, 1000] : List Int) : List Int)).bind fun y283 => ((spec_l20Rd_pick.f kj13 s0_0 bt269.2 2).bind fun bt286 => (if 0 ≤ bt286.1 then (if bt286.1 < (y283.length : Int) then (some ((t244 == 0), (wrap64 (1 + t246)), (wrap64 ((wrap64 (1 + t246)) + t257)), (wrap64 (100 + t248)), (wrap64 ((wrap64 (100 + t248)) + t259)), (rd y250 t253), rd y283 bt286.1, bt286.2)) else (none)) else (none)))) else (some ((t244 == 0), (wrap64 (1 + t246)), 10, (wrap64 (100 + t248)), (wrap64 ((wrap64 (100 + t248)) + t259)), (rd y250 t253), x257006_13, bt269.2)))))) else (some ((t244 == 0), (wrap64 (1 + t246)), (wrap64 ((wrap64 (1 + t246)) + t257)), (wrap64 (100 + t248)), (wrap64 ((wrap64 (100 + t248)) + t259)), (rd y250 t253), x257006_13, t268))) = some (r1, r2, r3, r4, r5, r6, r7, r8) := H
              have A49 := Aside0.mk A490
              clear A490
              by_cases c50 : t267 = true
              · subst c50
                have H1 : ((spec_l20Rd_pick.f kj13 s0_0 t268 4).bind fun bt269 => (if bt269.1 = 0 then ((some (([0, 9, (-1)] : List Int) : List Int)).bind fun y271 => ((spec_l20Rd_pick.f kj13 s0_0 bt269.2 3).bind fun bt274 => (if 0 ≤ bt274.1 then (if bt274.1 < (y271.length : Int) then (some ((t244 == 0), rd y271 bt274.1, (wrap64 ((wrap64 (1 + t246)) + t257)), (wrap64 (100 + t248)), (wrap64 ((wrap64 (100 + t248)) + t259)), (rd y250 t253), x257006_13, bt274.2)) else (none)) else (none)))) else (if bt269.1 = 1 then ((some (([110, 99] : List Int) : List Int)).bind fun y277 => ((spec_l20Rd_pick.f kj13 s0_0 bt269.2 2).bind fun bt280 => (if 0 ≤ bt280.1 then (if bt280.1 < (y277.length : Int) then (some ((t244 == 0), (wrap64 (1 + t246)), (wrap64 ((wrap64 (1 + t246)) + t257)), (wrap64 (100 + t248)), rd y277 bt280.1, (rd y250 t253), x257006_13, bt280.2)) else (none)) else (none)))) else (if bt269.1 = 2 then ((some (([0, 1000] : List Int) : List Int)).bind fun y283 => ((spec_l20Rd_pick.f kj13 s0_0 bt269.2 2).bind fun bt286 => (if 0 ≤ bt286.1 then (if bt286.1 < (y283.length : Int) then (some ((t244 == 0), (wrap64 (1 + t246)), (wrap64 ((wrap64 (1 + t246)) + t257)), (wrap64 (100 + t248)), (wrap64 ((wrap64 (100 + t248)) + t259)), (rd y250 t253), rd y283 bt286.1, bt286.2)) else (none)) else (none)))) else (some ((t244 == 0), (wrap64 (1 + t246)), 10, (wrap64 (100 + t248)), (wrap64 ((wrap64 (100 + t248)) + t259)), (rd y250 t253), x257006_13, bt269.2)))))) = some (r1, r2, r3, r4, r5, r6, r7, r8) := by rw [if_pos rfl] at H; exact H
                clear H
                have H := H1
                clear H1
                replace H := Option.bind_eq_some_iff.mp H
                obtain ⟨⟨t269, t270⟩, A510, H⟩ := H
                replace H : (if t269 = 0 then ((some (([0, 9, (-1)] : List Int) : List Int)).bind fun y271 => ((spec_l20Rd_pick.f kj13 s0_0 t270 3).bind fun bt274 => (if 0 ≤ bt274.1 then (if bt274.1 < (y271.length : Int) then (some ((t244 == 0), rd y271 bt274.1, (wrap64 ((wrap64 (1 + t246)) + t257)), (wrap64 (100 + t248)), (wrap64 ((wrap64 (100 + t248)) + t259)), (rd y250 t253), x257006_13, bt274.2)) else (none)) else (none)))) else (if t269 = 1 then ((some (([110, 99] : List Int) : List Int)).bind fun y277 => ((spec_l20Rd_pick.f kj13 s0_0 t270 2).bind fun bt280 => (if 0 ≤ bt280.1 then (if bt280.1 < (y277.length : Int) then (some ((t244 == 0), (wrap64 (1 + t246)), (wrap64 ((wrap64 (1 + t246)) + t257)), (wrap64 (100 + t248)), rd y277 bt280.1, (rd y250 t253), x257006_13, bt280.2)) else (none)) else (none)))) else (if t269 = 2 then ((some (([0, 1000] : List Int) : List Int)).bind fun y283 => ((spec_l20Rd_pick.f kj13 s0_0 t270 2).bind fun bt286 => (if 0 ≤ bt286.1 then (if bt286.1 < (y283.length : Int) then (some ((t244 == 0), (wrap64 (1 + t246)), (wrap64 ((wrap64 (1 + t246)) + t257)), (wrap64 (100 + t248)), (wrap64 ((wrap64 (100 + t248)) + t259)), (rd y250 t253), rd y283 bt286.1, bt286.2)) else (none)) else (none)))) else (some ((t244 == 0), (wrap64 (1 + t246)), 10, (wrap64 (100 + t248)), (wrap64 ((wrap64 (100 + t248)) + t259)), (rd y250 t253), x257006_13, t270))))) = some (r1, r2, r3, r4, r5, r6, r7, r8) := H
                have A51 := Aside0.mk A510
                clear A510
                by_cases c52 : t269 = 0
                · rw [if_pos c52] at H
                  have c52b0 : (t269 == 0) = true := beq_iff_eq.mpr c52
                  have c52b1 : (t269 != 0) = false := bne_eq_false_iff_eq.mpr c52
                  clear c52
                  obtain ⟨y271, hy271⟩ : ∃ y_ : List Int, y_ = (([0, 9, (-1)] : List Int)) := ⟨_, rfl⟩
                  replace H : ((spec_l20Rd_pick.f kj13 s0_0 t270 3).bind fun bt274 => (if 0 ≤ bt274.1 then (if bt274.1 < (y271.length : Int) then (some ((t244 == 0), rd y271 bt274.1, (wrap64 ((wrap64 (1 + t246)) + t257)), (wrap64 (100 + t248)), (wrap64 ((wrap64 (100 + t248)) + t259)), (rd y250 t253), x257006_13, bt274.2)) else (none)) else (none))) = some (r1, r2, r3, r4, r5, r6, r7, r8) := by first | (rw [hy271]; with_reducible exact H) | (have H2_ := (Option.bind_some _ _).symm.trans H; rw [hy271]; with_reducible exact H2_) | (have H2_ := (Option.bind_some _ _).symm.trans H; with_reducible exact H2_) | with_reducible exact H | (rw [hy271]; exact H) | exact H
                  have Ny271 := Aside0.mk hy271
                  clear hy271
                  replace H := Option.bind_eq_some_iff.mp H
                  obtain ⟨⟨t274, t275⟩, A530, H⟩ := H
                  replace H : (if 0 ≤ t274 then (if t274 < (y271.length : Int) then (some ((t244 == 0), rd y271 t274, (wrap64 ((wrap64 (1 + t246)) + t257)), (wrap64 (100 + t248)), (wrap64 ((wrap64 (100 + t248)) + t259)), (rd y250 t253), x257006_13, t275)) else (none)) else (none)) = some (r1, r2, r3, r4, r5, r6, r7, r8) := H
                  have A53 := Aside0.mk A530
                  clear A530
                  by_cases c54 : 0 ≤ t274
                  · rw [if_pos c54] at H
                    have c54b0 : decide (0 ≤ t274) = true := decide_eq_true c54
                    clear c54
                    by_cases c55 : t274 < (y271.length : Int)
                    · rw [if_pos c55] at H
                      have c55b0 : decide (t274 < (y271.length : Int)) = true := decide_eq_true c55
                      clear c55
                      simp only [Option.some.injEq, Prod.mk.injEq] at H
                      obtain ⟨rfl, rfl, rfl, rfl, rfl, rfl, rfl, rfl⟩ := H
                      go_wp2_with (first | ((with_reducible refine gate_callee (f := 37) rfl ?_); refine goesL_ (some 51) rfl rfl Tryd.func37 (by kernel_rfl) rfl #[.pointer (some ⟨g, 0, none⟩), .int .i64 a1] rfl (by (try simp only [List.map_toArray, List.map_cons, List.map_nil]); first | done | rfl | (simp only [List.length_drop, List.length_take]; rfl)) ?_; (with_reducible refine (spec_l20Rd_odd.calls kj13 g s0_0 t265 a1 true t268 w0 _ ?side1 ?side2 A49.out).mono ?_); (case side1 => repeat (first | (with_reducible first | exact HI0.out | apply IsS62.alloc | apply IsS62.drewN | apply IsS62.drew | apply IsS62.set_1 | refine IsS62.far ?_ NB0_243.out _ | refine IsS62.far ?_ NB0_256.out _) | exact HI0.out)); (case side2 => repeat (first | (with_reducible first | exact HB.out | apply below_alloc | apply pw_below_drewN | apply below_drew1 | refine below_set ?_ (IsS62.ge HI0.out) | refine below_set ?_ GE243.out | refine below_set ?_ GE256.out) | exact HB.out)); rintro e w56 ⟨rfl, hi, hb, hk⟩; refine ⟨_, rfl, ?_⟩; have n0_ := Aside0.mk (KeepBut.blk hk (g' := gb243) (o := .cells #[.bool false, .int .i64 0, .int .i64 0, .int .i64 0, .int .i64 0, .int .i64 0, .int .i64 0] 25 (0, 0)) (bk BK243) NB243_0.out (by simp)); have n1_ := Aside0.mk (KeepBut.blk hk (g' := gb256) (o := .cells #[.bool (t244 == 0), .int .i64 (wrap64 (1 + t246)), .int .i64 (wrap64 ((wrap64 (1 + t246)) + t257)), .int .i64 (wrap64 (100 + t248)), .int .i64 (wrap64 ((wrap64 (100 + t248)) + t259)), .int .i64 (rd y250 t253), .int .i64 x257006_13] 25 (0, 0)) (bk BK256) NB256_0.out (by simp)); have n2_ := Aside0.mk (KeepBut.trans (by repeat (first | (with_reducible first | exact HK.out | apply KeepBut.set_ | apply keep_drewN | apply keep_drew | apply keep_alloc | refine keep_far ?_ GW243.out _ | refine keep_far ?_ GW256.out _) | exact HK.out)) hk (.inl rfl)); have n3_ := Aside0.mk (hb); have n4_ := Aside0.mk (hi); clear BK243; clear BK256; clear HK; clear HB; clear HI0; have BK243 := n0_; have BK256 := n1_; have HK := n2_; have HB := n3_; have HI0 := n4_; clear n0_ n1_ n2_ n3_ n4_; (try clear hb); (try clear hb2); (try clear hk); (try clear hi)) | ((with_reducible refine gate_callee (f := 26) rfl ?_); refine goesL_ (some 53) rfl rfl Tryd.func26 (by kernel_rfl) rfl #[.pointer (some ⟨g, 0, none⟩), .int .i64 4] rfl (by (try simp only [List.map_toArray, List.map_cons, List.map_nil]); first | done | rfl | (simp only [List.length_drop, List.length_take]; rfl)) ?_; (with_reducible refine (spec_l20Rd_pick.calls kj13 g s0_0 t268 4 t269 t270 w0 _ ?side1 ?side2 A51.out).mono ?_); (case side1 => repeat (first | (with_reducible first | exact HI0.out | apply IsS62.alloc | apply IsS62.drewN | apply IsS62.drew | apply IsS62.set_1 | refine IsS62.far ?_ NB0_243.out _ | refine IsS62.far ?_ NB0_256.out _) | exact HI0.out)); (case side2 => repeat (first | (with_reducible first | exact HB.out | apply below_alloc | apply pw_below_drewN | apply below_drew1 | refine below_set ?_ (IsS62.ge HI0.out) | refine below_set ?_ GE243.out | refine below_set ?_ GE256.out) | exact HB.out)); rintro e w57 ⟨rfl, hi, hb, hk⟩; refine ⟨_, rfl, ?_⟩; have n0_ := Aside0.mk (KeepBut.blk hk (g' := gb243) (o := .cells #[.bool false, .int .i64 0, .int .i64 0, .int .i64 0, .int .i64 0, .int .i64 0, .int .i64 0] 25 (0, 0)) (bk BK243) NB243_0.out (by simp)); have n1_ := Aside0.mk (KeepBut.blk hk (g' := gb256) (o := .cells #[.bool (t244 == 0), .int .i64 (wrap64 (1 + t246)), .int .i64 (wrap64 ((wrap64 (1 + t246)) + t257)), .int .i64 (wrap64 (100 + t248)), .int .i64 (wrap64 ((wrap64 (100 + t248)) + t259)), .int .i64 (rd y250 t253), .int .i64 x257006_13] 25 (0, 0)) (bk BK256) NB256_0.out (by simp)); have n2_ := Aside0.mk (KeepBut.trans (by repeat (first | (with_reducible first | exact HK.out | apply KeepBut.set_ | apply keep_drewN | apply keep_drew | apply keep_alloc | refine keep_far ?_ GW243.out _ | refine keep_far ?_ GW256.out _) | exact HK.out)) hk (.inl rfl)); have n3_ := Aside0.mk (hb); have n4_ := Aside0.mk (hi); clear BK243; clear BK256; clear HK; clear HB; clear HI0; have BK243 := n0_; have BK256 := n1_; have HK := n2_; have HB := n3_; have HI0 := n4_; clear n0_ n1_ n2_ n3_ n4_; (try clear hb); (try clear hb2); (try clear hk); (try clear hi)) | ((with_reducible refine gate_dst (N := 57) rfl ?_); refine Kd.R_lit (Kd.int .i64) _ 3 ?hg (N := 57) ?hd (xs := ([0, 9, (-1)] : List Int)) (inner := [.int .i64 0, .int .i64 9, .int .i64 (-1)]) (ok := fun _ => True) (okp := fun _ => True) ?hr ?hp (fun _ hk => hk) trivial (Below.refl _ _) (Nat.le_refl _) (by simp) ?_; (case hd => rfl); (case hg => rfl); (case hr => first | (go_simp; done) | (go_simp; rfl)); (case hp => exact (Reps.one (show Kd.M (Kd.int .i64) _ _ _ 0 [.int .i64 0] from rfl) (Reps.one (show Kd.M (Kd.int .i64) _ _ _ 9 [.int .i64 9] from rfl) (Reps.one (show Kd.M (Kd.int .i64) _ _ _ (-1) [.int .i64 (-1)] from rfl) (Reps.none _ _))))); intro v272 w58 ho59 hb hg_ hnew_; clear hg_ hnew_; (first | rw [← Ny271.out] at ho59 | (simp only [Int.reduceToNat] at ho59; rw [← Ny271.out] at ho59)); have n0_ := Aside0.mk (Kd.R_lower ho59 (keep_size (w := w) (g := g) (row := none) (by repeat (first | (with_reducible first | exact HK.out | apply KeepBut.set_ | apply keep_drewN | apply keep_drew | apply keep_alloc | refine keep_far ?_ GW243.out _ | refine keep_far ?_ GW256.out _) | exact HK.out)))); have n1_ := bkB BK243 hb; have n2_ := bkB BK256 hb; have n3_ := Aside0.mk (IsS62.below (by repeat (first | (with_reducible first | exact HI0.out | apply IsS62.alloc | apply IsS62.drewN | apply IsS62.drew | apply IsS62.set_1 | refine IsS62.far ?_ NB0_243.out _ | refine IsS62.far ?_ NB0_256.out _) | exact HI0.out)) hb); have n4_ := Aside0.mk (KeepBut.trans (by repeat (first | (with_reducible first | exact HK.out | apply KeepBut.set_ | apply keep_drewN | apply keep_drew | apply keep_alloc | refine keep_far ?_ GW243.out _ | refine keep_far ?_ GW256.out _) | exact HK.out)) (KeepBut.of_below hb g none) (.inl rfl)); have n5_ := Aside0.mk (below_step (by repeat (first | (with_reducible first | exact HB.out | apply below_alloc | apply pw_below_drewN | apply below_drew1 | refine below_set ?_ (IsS62.ge HI0.out) | refine below_set ?_ GE243.out | refine below_set ?_ GE256.out) | exact HB.out)) hb); clear BK243; clear BK256; clear HI0; clear HK; clear HB; have HO273 := n0_; have BK243 := n1_; have BK256 := n2_; have HI0 := n3_; have HK := n4_; have HB := n5_; clear n0_ n1_ n2_ n3_ n4_ n5_; clear hb ho59) | ((with_reducible refine gate_callee (f := 26) rfl ?_); refine goesL_ (some 59) rfl rfl Tryd.func26 (by kernel_rfl) rfl #[.pointer (some ⟨g, 0, none⟩), .int .i64 3] rfl (by (try simp only [List.map_toArray, List.map_cons, List.map_nil]); first | done | rfl | (simp only [List.length_drop, List.length_take]; rfl)) ?_; (with_reducible refine (spec_l20Rd_pick.calls kj13 g s0_0 t270 3 t274 t275 w0 _ ?side1 ?side2 A53.out).mono ?_); (case side1 => repeat (first | (with_reducible first | exact HI0.out | apply IsS62.alloc | apply IsS62.drewN | apply IsS62.drew | apply IsS62.set_1 | refine IsS62.far ?_ NB0_243.out _ | refine IsS62.far ?_ NB0_256.out _) | exact HI0.out)); (case side2 => repeat (first | (with_reducible first | exact HB.out | apply below_alloc | apply pw_below_drewN | apply below_drew1 | refine below_set ?_ (IsS62.ge HI0.out) | refine below_set ?_ GE243.out | refine below_set ?_ GE256.out) | exact HB.out)); rintro e w60 ⟨rfl, hi, hb, hk⟩; refine ⟨_, rfl, ?_⟩; have n0_ := Aside0.mk (KeepBut.blk hk (g' := gb243) (o := .cells #[.bool false, .int .i64 0, .int .i64 0, .int .i64 0, .int .i64 0, .int .i64 0, .int .i64 0] 25 (0, 0)) (bk BK243) NB243_0.out (by simp)); have n1_ := Aside0.mk (KeepBut.blk hk (g' := gb256) (o := .cells #[.bool (t244 == 0), .int .i64 (wrap64 (1 + t246)), .int .i64 (wrap64 ((wrap64 (1 + t246)) + t257)), .int .i64 (wrap64 (100 + t248)), .int .i64 (wrap64 ((wrap64 (100 + t248)) + t259)), .int .i64 (rd y250 t253), .int .i64 x257006_13] 25 (0, 0)) (bk BK256) NB256_0.out (by simp)); have n2_ := Aside0.mk (Kd.R_mono (Kd.R_keep (IsS62.apart (show IsS62 w0 _ g s0_0 t270 from by repeat (first | (with_reducible first | exact HI0.out | apply IsS62.alloc | apply IsS62.drewN | apply IsS62.drew | apply IsS62.set_1 | refine IsS62.far ?_ NB0_243.out _ | refine IsS62.far ?_ NB0_256.out _) | exact HI0.out)) (rs HO273) (by decide)) hk (fun _ h => h.2)) (fun _ h => h.1)); have n3_ := Aside0.mk (KeepBut.trans (by repeat (first | (with_reducible first | exact HK.out | apply KeepBut.set_ | apply keep_drewN | apply keep_drew | apply keep_alloc | refine keep_far ?_ GW243.out _ | refine keep_far ?_ GW256.out _) | exact HK.out)) hk (.inl rfl)); have n4_ := Aside0.mk (hb); have n5_ := Aside0.mk (hi); clear BK243; clear BK256; clear HO273; clear HK; clear HB; clear HI0; have BK243 := n0_; have BK256 := n1_; have HO273 := n2_; have HK := n3_; have HB := n4_; have HI0 := n5_; clear n0_ n1_ n2_ n3_ n4_ n5_; (try clear hb); (try clear hb2); (try clear hk); (try clear hi); obtain ⟨Ao61, co61, eo61⟩ := Kd.R_slice HO273.out; subst eo61; have p276 : 0 ≤ (t274 : Int) := of_decide_eq_true (by first | (with_reducible assumption) | assumption); have q276 : t274 < (y271.length : Int) := of_decide_eq_true (by first | (with_reducible assumption) | assumption); obtain ⟨ad276, e276, hx276_0⟩ := Kd.at_int (Kd.R_reads' HO273.out).2.2 t274 p276 q276; cases e276; replace p276 := eq_true p276; replace q276 := eq_true q276; have hnb62 := NB256_243.out; have hnc62 := NB243_256.out; have hnb63 := NB256_0.out; have hnc63 := NB0_256.out; have hcz64_0 : w60.cell? ⟨gb256, 0, none⟩ = some (.bool (t244 == 0)) := (blk_cell BK256.out 0).trans rfl; have hcz64_1 : w60.cell? ⟨gb256, 1, none⟩ = some (.int .i64 (wrap64 (1 + t246))) := (blk_cell BK256.out 1).trans rfl; have hcz64_2 : w60.cell? ⟨gb256, 2, none⟩ = some (.int .i64 (wrap64 ((wrap64 (1 + t246)) + t257))) := (blk_cell BK256.out 2).trans rfl; have hcz64_3 : w60.cell? ⟨gb256, 3, none⟩ = some (.int .i64 (wrap64 (100 + t248))) := (blk_cell BK256.out 3).trans rfl; have hcz64_4 : w60.cell? ⟨gb256, 4, none⟩ = some (.int .i64 (wrap64 ((wrap64 (100 + t248)) + t259))) := (blk_cell BK256.out 4).trans rfl; have hcz64_5 : w60.cell? ⟨gb256, 5, none⟩ = some (.int .i64 (rd y250 t253)) := (blk_cell BK256.out 5).trans rfl; have hcz64_6 : w60.cell? ⟨gb256, 6, none⟩ = some (.int .i64 x257006_13) := (blk_cell BK256.out 6).trans rfl; have hfz64_0 := blk_frozen BK256.out 0; have hfz64_1 := blk_frozen BK256.out 1; have hfz64_2 := blk_frozen BK256.out 2; have hfz64_3 := blk_frozen BK256.out 3; have hfz64_4 := blk_frozen BK256.out 4; have hfz64_5 := blk_frozen BK256.out 5; have hfz64_6 := blk_frozen BK256.out 6; have hnb65 := NB243_0.out; have hnc65 := NB0_243.out; have hcz66_0 : w60.cell? ⟨gb243, 0, none⟩ = some (.bool false) := (blk_cell BK243.out 0).trans rfl; have hcz66_1 : w60.cell? ⟨gb243, 1, none⟩ = some (.int .i64 0) := (blk_cell BK243.out 1).trans rfl; have hcz66_2 : w60.cell? ⟨gb243, 2, none⟩ = some (.int .i64 0) := (blk_cell BK243.out 2).trans rfl; have hcz66_3 : w60.cell? ⟨gb243, 3, none⟩ = some (.int .i64 0) := (blk_cell BK243.out 3).trans rfl; have hcz66_4 : w60.cell? ⟨gb243, 4, none⟩ = some (.int .i64 0) := (blk_cell BK243.out 4).trans rfl; have hcz66_5 : w60.cell? ⟨gb243, 5, none⟩ = some (.int .i64 0) := (blk_cell BK243.out 5).trans rfl; have hcz66_6 : w60.cell? ⟨gb243, 6, none⟩ = some (.int .i64 0) := (blk_cell BK243.out 6).trans rfl; have hfz66_0 := blk_frozen BK243.out 0; have hfz66_1 := blk_frozen BK243.out 1; have hfz66_2 := blk_frozen BK243.out 2; have hfz66_3 := blk_frozen BK243.out 3; have hfz66_4 := blk_frozen BK243.out 4; have hfz66_5 := blk_frozen BK243.out 5; have hfz66_6 := blk_frozen BK243.out 6))
                      refine bodyPost_ret (results_cell_row rfl _ _ gb243 25 #[.bool (t244 == 0), .int .i64 (rd y271 t274), .int .i64 (wrap64 ((wrap64 (1 + t246)) + t257)), .int .i64 (wrap64 (100 + t248)), .int .i64 (wrap64 ((wrap64 (100 + t248)) + t259)), .int .i64 (rd y250 t253), .int .i64 x257006_13] (0, 0) _ rfl (by (with_reducible repeat refine bu ?_); refine blk_put (cs := #[.bool (t244 == 0), .int .i64 (rd y271 t274), .int .i64 (wrap64 ((wrap64 (1 + t246)) + t257)), .int .i64 (wrap64 (100 + t248)), .int .i64 (wrap64 ((wrap64 (100 + t248)) + t259)), .int .i64 (rd y250 t253), .int .i64 0]) ?_ 6 _ rfl; (with_reducible repeat refine bu ?_); refine blk_put (cs := #[.bool (t244 == 0), .int .i64 (rd y271 t274), .int .i64 (wrap64 ((wrap64 (1 + t246)) + t257)), .int .i64 (wrap64 (100 + t248)), .int .i64 (wrap64 ((wrap64 (100 + t248)) + t259)), .int .i64 0, .int .i64 0]) ?_ 5 _ rfl; (with_reducible repeat refine bu ?_); refine blk_put (cs := #[.bool (t244 == 0), .int .i64 (rd y271 t274), .int .i64 (wrap64 ((wrap64 (1 + t246)) + t257)), .int .i64 (wrap64 (100 + t248)), .int .i64 0, .int .i64 0, .int .i64 0]) ?_ 4 _ rfl; (with_reducible repeat refine bu ?_); refine blk_put (cs := #[.bool (t244 == 0), .int .i64 (rd y271 t274), .int .i64 (wrap64 ((wrap64 (1 + t246)) + t257)), .int .i64 0, .int .i64 0, .int .i64 0, .int .i64 0]) ?_ 3 _ rfl; (with_reducible repeat refine bu ?_); refine blk_put (cs := #[.bool (t244 == 0), .int .i64 (rd y271 t274), .int .i64 0, .int .i64 0, .int .i64 0, .int .i64 0, .int .i64 0]) ?_ 2 _ rfl; (with_reducible repeat refine bu ?_); refine blk_put (cs := #[.bool (t244 == 0), .int .i64 0, .int .i64 0, .int .i64 0, .int .i64 0, .int .i64 0, .int .i64 0]) ?_ 1 _ rfl; (with_reducible repeat refine bu ?_); refine blk_put (cs := #[.bool false, .int .i64 0, .int .i64 0, .int .i64 0, .int .i64 0, .int .i64 0, .int .i64 0]) ?_ 0 _ rfl; (with_reducible repeat refine bu ?_); refine blk_far ?_ NB243_256.out _; (with_reducible repeat refine bu ?_); exact BK243.out) Tryd.underlying25 rfl (by kernel_rfl)) rfl ?_
                      exact ⟨by first | rfl | (simp [errW_none, errW_some] <;> rfl) | (simp [*, errW_none, errW_some] <;> rfl), by repeat (first | (with_reducible first | exact HI0.out | apply IsS62.alloc | apply IsS62.drewN | apply IsS62.drew | apply IsS62.set_1 | refine IsS62.far ?_ NB0_243.out _ | refine IsS62.far ?_ NB0_256.out _) | exact HI0.out), by repeat (first | (with_reducible first | exact HB.out | apply below_alloc | apply pw_below_drewN | apply below_drew1 | refine below_set ?_ (IsS62.ge HI0.out) | refine below_set ?_ GE243.out | refine below_set ?_ GE256.out) | exact HB.out), by repeat (first | (with_reducible first | exact HK.out | apply KeepBut.set_ | apply keep_drewN | apply keep_drew | apply keep_alloc | refine keep_far ?_ GW243.out _ | refine keep_far ?_ GW256.out _) | exact HK.out)⟩
                    · rw [if_neg c55] at H
                      exact absurd H (by simp)
                  · rw [if_neg c54] at H
                    exact absurd H (by simp)
                · rw [if_neg c52] at H
                  have c52b0 : (t269 == 0) = false := beq_eq_false_iff_ne.mpr c52
                  have c52b1 : (t269 != 0) = true := bne_iff_ne.mpr c52
                  by_cases c67 : t269 = 1
                  · rw [if_pos c67] at H
                    have c67b0 : (t269 == 1) = true := beq_iff_eq.mpr c67
                    have c67b1 : (t269 != 1) = false := bne_eq_false_iff_eq.mpr c67
                    clear c67
                    obtain ⟨y277, hy277⟩ : ∃ y_ : List Int, y_ = (([110, 99] : List Int)) := ⟨_, rfl⟩
                    replace H : ((spec_l20Rd_pick.f kj13 s0_0 t270 2).bind fun bt280 => (if 0 ≤ bt280.1 then (if bt280.1 < (y277.length : Int) then (some ((t244 == 0), (wrap64 (1 + t246)), (wrap64 ((wrap64 (1 + t246)) + t257)), (wrap64 (100 + t248)), rd y277 bt280.1, (rd y250 t253), x257006_13, bt280.2)) else (none)) else (none))) = some (r1, r2, r3, r4, r5, r6, r7, r8) := by first | (rw [hy277]; with_reducible exact H) | (have H2_ := (Option.bind_some _ _).symm.trans H; rw [hy277]; with_reducible exact H2_) | (have H2_ := (Option.bind_some _ _).symm.trans H; with_reducible exact H2_) | with_reducible exact H | (rw [hy277]; exact H) | exact H
                    have Ny277 := Aside0.mk hy277
                    clear hy277
                    replace H := Option.bind_eq_some_iff.mp H
                    obtain ⟨⟨t280, t281⟩, A680, H⟩ := H
                    replace H : (if 0 ≤ t280 then (if t280 < (y277.length : Int) then (some ((t244 == 0), (wrap64 (1 + t246)), (wrap64 ((wrap64 (1 + t246)) + t257)), (wrap64 (100 + t248)), rd y277 t280, (rd y250 t253), x257006_13, t281)) else (none)) else (none)) = some (r1, r2, r3, r4, r5, r6, r7, r8) := H
                    have A68 := Aside0.mk A680
                    clear A680
                    by_cases c69 : 0 ≤ t280
                    · rw [if_pos c69] at H
                      have c69b0 : decide (0 ≤ t280) = true := decide_eq_true c69
                      clear c69
                      by_cases c70 : t280 < (y277.length : Int)
                      · rw [if_pos c70] at H
                        have c70b0 : decide (t280 < (y277.length : Int)) = true := decide_eq_true c70
                        clear c70
                        simp only [Option.some.injEq, Prod.mk.injEq] at H
                        obtain ⟨rfl, rfl, rfl, rfl, rfl, rfl, rfl, rfl⟩ := H
                        go_wp2_with (first | ((with_reducible refine gate_callee (f := 37) rfl ?_); refine goesL_ (some 51) rfl rfl Tryd.func37 (by kernel_rfl) rfl #[.pointer (some ⟨g, 0, none⟩), .int .i64 a1] rfl (by (try simp only [List.map_toArray, List.map_cons, List.map_nil]); first | done | rfl | (simp only [List.length_drop, List.length_take]; rfl)) ?_; (with_reducible refine (spec_l20Rd_odd.calls kj13 g s0_0 t265 a1 true t268 w0 _ ?side1 ?side2 A49.out).mono ?_); (case side1 => repeat (first | (with_reducible first | exact HI0.out | apply IsS62.alloc | apply IsS62.drewN | apply IsS62.drew | apply IsS62.set_1 | refine IsS62.far ?_ NB0_243.out _ | refine IsS62.far ?_ NB0_256.out _) | exact HI0.out)); (case side2 => repeat (first | (with_reducible first | exact HB.out | apply below_alloc | apply pw_below_drewN | apply below_drew1 | refine below_set ?_ (IsS62.ge HI0.out) | refine below_set ?_ GE243.out | refine below_set ?_ GE256.out) | exact HB.out)); rintro e w71 ⟨rfl, hi, hb, hk⟩; refine ⟨_, rfl, ?_⟩; have n0_ := Aside0.mk (KeepBut.blk hk (g' := gb243) (o := .cells #[.bool false, .int .i64 0, .int .i64 0, .int .i64 0, .int .i64 0, .int .i64 0, .int .i64 0] 25 (0, 0)) (bk BK243) NB243_0.out (by simp)); have n1_ := Aside0.mk (KeepBut.blk hk (g' := gb256) (o := .cells #[.bool (t244 == 0), .int .i64 (wrap64 (1 + t246)), .int .i64 (wrap64 ((wrap64 (1 + t246)) + t257)), .int .i64 (wrap64 (100 + t248)), .int .i64 (wrap64 ((wrap64 (100 + t248)) + t259)), .int .i64 (rd y250 t253), .int .i64 x257006_13] 25 (0, 0)) (bk BK256) NB256_0.out (by simp)); have n2_ := Aside0.mk (KeepBut.trans (by repeat (first | (with_reducible first | exact HK.out | apply KeepBut.set_ | apply keep_drewN | apply keep_drew | apply keep_alloc | refine keep_far ?_ GW243.out _ | refine keep_far ?_ GW256.out _) | exact HK.out)) hk (.inl rfl)); have n3_ := Aside0.mk (hb); have n4_ := Aside0.mk (hi); clear BK243; clear BK256; clear HK; clear HB; clear HI0; have BK243 := n0_; have BK256 := n1_; have HK := n2_; have HB := n3_; have HI0 := n4_; clear n0_ n1_ n2_ n3_ n4_; (try clear hb); (try clear hb2); (try clear hk); (try clear hi)) | ((with_reducible refine gate_callee (f := 26) rfl ?_); refine goesL_ (some 53) rfl rfl Tryd.func26 (by kernel_rfl) rfl #[.pointer (some ⟨g, 0, none⟩), .int .i64 4] rfl (by (try simp only [List.map_toArray, List.map_cons, List.map_nil]); first | done | rfl | (simp only [List.length_drop, List.length_take]; rfl)) ?_; (with_reducible refine (spec_l20Rd_pick.calls kj13 g s0_0 t268 4 t269 t270 w0 _ ?side1 ?side2 A51.out).mono ?_); (case side1 => repeat (first | (with_reducible first | exact HI0.out | apply IsS62.alloc | apply IsS62.drewN | apply IsS62.drew | apply IsS62.set_1 | refine IsS62.far ?_ NB0_243.out _ | refine IsS62.far ?_ NB0_256.out _) | exact HI0.out)); (case side2 => repeat (first | (with_reducible first | exact HB.out | apply below_alloc | apply pw_below_drewN | apply below_drew1 | refine below_set ?_ (IsS62.ge HI0.out) | refine below_set ?_ GE243.out | refine below_set ?_ GE256.out) | exact HB.out)); rintro e w72 ⟨rfl, hi, hb, hk⟩; refine ⟨_, rfl, ?_⟩; have n0_ := Aside0.mk (KeepBut.blk hk (g' := gb243) (o := .cells #[.bool false, .int .i64 0, .int .i64 0, .int .i64 0, .int .i64 0, .int .i64 0, .int .i64 0] 25 (0, 0)) (bk BK243) NB243_0.out (by simp)); have n1_ := Aside0.mk (KeepBut.blk hk (g' := gb256) (o := .cells #[.bool (t244 == 0), .int .i64 (wrap64 (1 + t246)), .int .i64 (wrap64 ((wrap64 (1 + t246)) + t257)), .int .i64 (wrap64 (100 + t248)), .int .i64 (wrap64 ((wrap64 (100 + t248)) + t259)), .int .i64 (rd y250 t253), .int .i64 x257006_13] 25 (0, 0)) (bk BK256) NB256_0.out (by simp)); have n2_ := Aside0.mk (KeepBut.trans (by repeat (first | (with_reducible first | exact HK.out | apply KeepBut.set_ | apply keep_drewN | apply keep_drew | apply keep_alloc | refine keep_far ?_ GW243.out _ | refine keep_far ?_ GW256.out _) | exact HK.out)) hk (.inl rfl)); have n3_ := Aside0.mk (hb); have n4_ := Aside0.mk (hi); clear BK243; clear BK256; clear HK; clear HB; clear HI0; have BK243 := n0_; have BK256 := n1_; have HK := n2_; have HB := n3_; have HI0 := n4_; clear n0_ n1_ n2_ n3_ n4_; (try clear hb); (try clear hb2); (try clear hk); (try clear hi)) | ((with_reducible refine gate_dst (N := 65) rfl ?_); refine Kd.R_lit (Kd.int .i64) _ 3 ?hg (N := 65) ?hd (xs := ([110, 99] : List Int)) (inner := [.int .i64 110, .int .i64 99]) (ok := fun _ => True) (okp := fun _ => True) ?hr ?hp (fun _ hk => hk) trivial (Below.refl _ _) (Nat.le_refl _) (by simp) ?_; (case hd => rfl); (case hg => rfl); (case hr => first | (go_simp; done) | (go_simp; rfl)); (case hp => exact (Reps.one (show Kd.M (Kd.int .i64) _ _ _ 110 [.int .i64 110] from rfl) (Reps.one (show Kd.M (Kd.int .i64) _ _ _ 99 [.int .i64 99] from rfl) (Reps.none _ _)))); intro v278 w73 ho74 hb hg_ hnew_; clear hg_ hnew_; (first | rw [← Ny277.out] at ho74 | (simp only [Int.reduceToNat] at ho74; rw [← Ny277.out] at ho74)); have n0_ := Aside0.mk (Kd.R_lower ho74 (keep_size (w := w) (g := g) (row := none) (by repeat (first | (with_reducible first | exact HK.out | apply KeepBut.set_ | apply keep_drewN | apply keep_drew | apply keep_alloc | refine keep_far ?_ GW243.out _ | refine keep_far ?_ GW256.out _) | exact HK.out)))); have n1_ := bkB BK243 hb; have n2_ := bkB BK256 hb; have n3_ := Aside0.mk (IsS62.below (by repeat (first | (with_reducible first | exact HI0.out | apply IsS62.alloc | apply IsS62.drewN | apply IsS62.drew | apply IsS62.set_1 | refine IsS62.far ?_ NB0_243.out _ | refine IsS62.far ?_ NB0_256.out _) | exact HI0.out)) hb); have n4_ := Aside0.mk (KeepBut.trans (by repeat (first | (with_reducible first | exact HK.out | apply KeepBut.set_ | apply keep_drewN | apply keep_drew | apply keep_alloc | refine keep_far ?_ GW243.out _ | refine keep_far ?_ GW256.out _) | exact HK.out)) (KeepBut.of_below hb g none) (.inl rfl)); have n5_ := Aside0.mk (below_step (by repeat (first | (with_reducible first | exact HB.out | apply below_alloc | apply pw_below_drewN | apply below_drew1 | refine below_set ?_ (IsS62.ge HI0.out) | refine below_set ?_ GE243.out | refine below_set ?_ GE256.out) | exact HB.out)) hb); clear BK243; clear BK256; clear HI0; clear HK; clear HB; have HO279 := n0_; have BK243 := n1_; have BK256 := n2_; have HI0 := n3_; have HK := n4_; have HB := n5_; clear n0_ n1_ n2_ n3_ n4_ n5_; clear hb ho74) | ((with_reducible refine gate_callee (f := 26) rfl ?_); refine goesL_ (some 67) rfl rfl Tryd.func26 (by kernel_rfl) rfl #[.pointer (some ⟨g, 0, none⟩), .int .i64 2] rfl (by (try simp only [List.map_toArray, List.map_cons, List.map_nil]); first | done | rfl | (simp only [List.length_drop, List.length_take]; rfl)) ?_; (with_reducible refine (spec_l20Rd_pick.calls kj13 g s0_0 t270 2 t280 t281 w0 _ ?side1 ?side2 A68.out).mono ?_); (case side1 => repeat (first | (with_reducible first | exact HI0.out | apply IsS62.alloc | apply IsS62.drewN | apply IsS62.drew | apply IsS62.set_1 | refine IsS62.far ?_ NB0_243.out _ | refine IsS62.far ?_ NB0_256.out _) | exact HI0.out)); (case side2 => repeat (first | (with_reducible first | exact HB.out | apply below_alloc | apply pw_below_drewN | apply below_drew1 | refine below_set ?_ (IsS62.ge HI0.out) | refine below_set ?_ GE243.out | refine below_set ?_ GE256.out) | exact HB.out)); rintro e w75 ⟨rfl, hi, hb, hk⟩; refine ⟨_, rfl, ?_⟩; have n0_ := Aside0.mk (KeepBut.blk hk (g' := gb243) (o := .cells #[.bool false, .int .i64 0, .int .i64 0, .int .i64 0, .int .i64 0, .int .i64 0, .int .i64 0] 25 (0, 0)) (bk BK243) NB243_0.out (by simp)); have n1_ := Aside0.mk (KeepBut.blk hk (g' := gb256) (o := .cells #[.bool (t244 == 0), .int .i64 (wrap64 (1 + t246)), .int .i64 (wrap64 ((wrap64 (1 + t246)) + t257)), .int .i64 (wrap64 (100 + t248)), .int .i64 (wrap64 ((wrap64 (100 + t248)) + t259)), .int .i64 (rd y250 t253), .int .i64 x257006_13] 25 (0, 0)) (bk BK256) NB256_0.out (by simp)); have n2_ := Aside0.mk (Kd.R_mono (Kd.R_keep (IsS62.apart (show IsS62 w0 _ g s0_0 t270 from by repeat (first | (with_reducible first | exact HI0.out | apply IsS62.alloc | apply IsS62.drewN | apply IsS62.drew | apply IsS62.set_1 | refine IsS62.far ?_ NB0_243.out _ | refine IsS62.far ?_ NB0_256.out _) | exact HI0.out)) (rs HO279) (by decide)) hk (fun _ h => h.2)) (fun _ h => h.1)); have n3_ := Aside0.mk (KeepBut.trans (by repeat (first | (with_reducible first | exact HK.out | apply KeepBut.set_ | apply keep_drewN | apply keep_drew | apply keep_alloc | refine keep_far ?_ GW243.out _ | refine keep_far ?_ GW256.out _) | exact HK.out)) hk (.inl rfl)); have n4_ := Aside0.mk (hb); have n5_ := Aside0.mk (hi); clear BK243; clear BK256; clear HO279; clear HK; clear HB; clear HI0; have BK243 := n0_; have BK256 := n1_; have HO279 := n2_; have HK := n3_; have HB := n4_; have HI0 := n5_; clear n0_ n1_ n2_ n3_ n4_ n5_; (try clear hb); (try clear hb2); (try clear hk); (try clear hi); obtain ⟨Ao76, co76, eo76⟩ := Kd.R_slice HO279.out; subst eo76; have p282 : 0 ≤ (t280 : Int) := of_decide_eq_true (by first | (with_reducible assumption) | assumption); have q282 : t280 < (y277.length : Int) := of_decide_eq_true (by first | (with_reducible assumption) | assumption); obtain ⟨ad282, e282, hx282_0⟩ := Kd.at_int (Kd.R_reads' HO279.out).2.2 t280 p282 q282; cases e282; replace p282 := eq_true p282; replace q282 := eq_true q282; have hnb77 := NB256_243.out; have hnc77 := NB243_256.out; have hnb78 := NB256_0.out; have hnc78 := NB0_256.out; have hcz79_0 : w75.cell? ⟨gb256, 0, none⟩ = some (.bool (t244 == 0)) := (blk_cell BK256.out 0).trans rfl; have hcz79_1 : w75.cell? ⟨gb256, 1, none⟩ = some (.int .i64 (wrap64 (1 + t246))) := (blk_cell BK256.out 1).trans rfl; have hcz79_2 : w75.cell? ⟨gb256, 2, none⟩ = some (.int .i64 (wrap64 ((wrap64 (1 + t246)) + t257))) := (blk_cell BK256.out 2).trans rfl; have hcz79_3 : w75.cell? ⟨gb256, 3, none⟩ = some (.int .i64 (wrap64 (100 + t248))) := (blk_cell BK256.out 3).trans rfl; have hcz79_4 : w75.cell? ⟨gb256, 4, none⟩ = some (.int .i64 (wrap64 ((wrap64 (100 + t248)) + t259))) := (blk_cell BK256.out 4).trans rfl; have hcz79_5 : w75.cell? ⟨gb256, 5, none⟩ = some (.int .i64 (rd y250 t253)) := (blk_cell BK256.out 5).trans rfl; have hcz79_6 : w75.cell? ⟨gb256, 6, none⟩ = some (.int .i64 x257006_13) := (blk_cell BK256.out 6).trans rfl; have hfz79_0 := blk_frozen BK256.out 0; have hfz79_1 := blk_frozen BK256.out 1; have hfz79_2 := blk_frozen BK256.out 2; have hfz79_3 := blk_frozen BK256.out 3; have hfz79_4 := blk_frozen BK256.out 4; have hfz79_5 := blk_frozen BK256.out 5; have hfz79_6 := blk_frozen BK256.out 6; have hnb80 := NB243_0.out; have hnc80 := NB0_243.out; have hcz81_0 : w75.cell? ⟨gb243, 0, none⟩ = some (.bool false) := (blk_cell BK243.out 0).trans rfl; have hcz81_1 : w75.cell? ⟨gb243, 1, none⟩ = some (.int .i64 0) := (blk_cell BK243.out 1).trans rfl; have hcz81_2 : w75.cell? ⟨gb243, 2, none⟩ = some (.int .i64 0) := (blk_cell BK243.out 2).trans rfl; have hcz81_3 : w75.cell? ⟨gb243, 3, none⟩ = some (.int .i64 0) := (blk_cell BK243.out 3).trans rfl; have hcz81_4 : w75.cell? ⟨gb243, 4, none⟩ = some (.int .i64 0) := (blk_cell BK243.out 4).trans rfl; have hcz81_5 : w75.cell? ⟨gb243, 5, none⟩ = some (.int .i64 0) := (blk_cell BK243.out 5).trans rfl; have hcz81_6 : w75.cell? ⟨gb243, 6, none⟩ = some (.int .i64 0) := (blk_cell BK243.out 6).trans rfl; have hfz81_0 := blk_frozen BK243.out 0; have hfz81_1 := blk_frozen BK243.out 1; have hfz81_2 := blk_frozen BK243.out 2; have hfz81_3 := blk_frozen BK243.out 3; have hfz81_4 := blk_frozen BK243.out 4; have hfz81_5 := blk_frozen BK243.out 5; have hfz81_6 := blk_frozen BK243.out 6))
                        refine bodyPost_ret (results_cell_row rfl _ _ gb243 25 #[.bool (t244 == 0), .int .i64 (wrap64 (1 + t246)), .int .i64 (wrap64 ((wrap64 (1 + t246)) + t257)), .int .i64 (wrap64 (100 + t248)), .int .i64 (rd y277 t280), .int .i64 (rd y250 t253), .int .i64 x257006_13] (0, 0) _ rfl (by (with_reducible repeat refine bu ?_); refine blk_put (cs := #[.bool (t244 == 0), .int .i64 (wrap64 (1 + t246)), .int .i64 (wrap64 ((wrap64 (1 + t246)) + t257)), .int .i64 (wrap64 (100 + t248)), .int .i64 (rd y277 t280), .int .i64 (rd y250 t253), .int .i64 0]) ?_ 6 _ rfl; (with_reducible repeat refine bu ?_); refine blk_put (cs := #[.bool (t244 == 0), .int .i64 (wrap64 (1 + t246)), .int .i64 (wrap64 ((wrap64 (1 + t246)) + t257)), .int .i64 (wrap64 (100 + t248)), .int .i64 (rd y277 t280), .int .i64 0, .int .i64 0]) ?_ 5 _ rfl; (with_reducible repeat refine bu ?_); refine blk_put (cs := #[.bool (t244 == 0), .int .i64 (wrap64 (1 + t246)), .int .i64 (wrap64 ((wrap64 (1 + t246)) + t257)), .int .i64 (wrap64 (100 + t248)), .int .i64 0, .int .i64 0, .int .i64 0]) ?_ 4 _ rfl; (with_reducible repeat refine bu ?_); refine blk_put (cs := #[.bool (t244 == 0), .int .i64 (wrap64 (1 + t246)), .int .i64 (wrap64 ((wrap64 (1 + t246)) + t257)), .int .i64 0, .int .i64 0, .int .i64 0, .int .i64 0]) ?_ 3 _ rfl; (with_reducible repeat refine bu ?_); refine blk_put (cs := #[.bool (t244 == 0), .int .i64 (wrap64 (1 + t246)), .int .i64 0, .int .i64 0, .int .i64 0, .int .i64 0, .int .i64 0]) ?_ 2 _ rfl; (with_reducible repeat refine bu ?_); refine blk_put (cs := #[.bool (t244 == 0), .int .i64 0, .int .i64 0, .int .i64 0, .int .i64 0, .int .i64 0, .int .i64 0]) ?_ 1 _ rfl; (with_reducible repeat refine bu ?_); refine blk_put (cs := #[.bool false, .int .i64 0, .int .i64 0, .int .i64 0, .int .i64 0, .int .i64 0, .int .i64 0]) ?_ 0 _ rfl; (with_reducible repeat refine bu ?_); refine blk_far ?_ NB243_256.out _; (with_reducible repeat refine bu ?_); exact BK243.out) Tryd.underlying25 rfl (by kernel_rfl)) rfl ?_
                        exact ⟨by first | rfl | (simp [errW_none, errW_some] <;> rfl) | (simp [*, errW_none, errW_some] <;> rfl), by repeat (first | (with_reducible first | exact HI0.out | apply IsS62.alloc | apply IsS62.drewN | apply IsS62.drew | apply IsS62.set_1 | refine IsS62.far ?_ NB0_243.out _ | refine IsS62.far ?_ NB0_256.out _) | exact HI0.out), by repeat (first | (with_reducible first | exact HB.out | apply below_alloc | apply pw_below_drewN | apply below_drew1 | refine below_set ?_ (IsS62.ge HI0.out) | refine below_set ?_ GE243.out | refine below_set ?_ GE256.out) | exact HB.out), by repeat (first | (with_reducible first | exact HK.out | apply KeepBut.set_ | apply keep_drewN | apply keep_drew | apply keep_alloc | refine keep_far ?_ GW243.out _ | refine keep_far ?_ GW256.out _) | exact HK.out)⟩
                      · rw [if_neg c70] at H
                        exact absurd H (by simp)
                    · rw [if_neg c69] at H
                      exact absurd H (by simp)
                  · rw [if_neg c67] at H
                    have c67b0 : (t269 == 1) = false := beq_eq_false_iff_ne.mpr c67
                    have c67b1 : (t269 != 1) = true := bne_iff_ne.mpr c67
                    by_cases c82 : t269 = 2
                    · rw [if_pos c82] at H
                      have c82b0 : (t269 == 2) = true := beq_iff_eq.mpr c82
                      have c82b1 : (t269 != 2) = false := bne_eq_false_iff_eq.mpr c82
                      clear c82
                      obtain ⟨y283, hy283⟩ : ∃ y_ : List Int, y_ = (([0, 1000] : List Int)) := ⟨_, rfl⟩
                      replace H : ((spec_l20Rd_pick.f kj13 s0_0 t270 2).bind fun bt286 => (if 0 ≤ bt286.1 then (if bt286.1 < (y283.length : Int) then (some ((t244 == 0), (wrap64 (1 + t246)), (wrap64 ((wrap64 (1 + t246)) + t257)), (wrap64 (100 + t248)), (wrap64 ((wrap64 (100 + t248)) + t259)), (rd y250 t253), rd y283 bt286.1, bt286.2)) else (none)) else (none))) = some (r1, r2, r3, r4, r5, r6, r7, r8) := by first | (rw [hy283]; with_reducible exact H) | (have H2_ := (Option.bind_some _ _).symm.trans H; rw [hy283]; with_reducible exact H2_) | (have H2_ := (Option.bind_some _ _).symm.trans H; with_reducible exact H2_) | with_reducible exact H | (rw [hy283]; exact H) | exact H
                      have Ny283 := Aside0.mk hy283
                      clear hy283
                      replace H := Option.bind_eq_some_iff.mp H
                      obtain ⟨⟨t286, t287⟩, A830, H⟩ := H
                      replace H : (if 0 ≤ t286 then (if t286 < (y283.length : Int) then (some ((t244 == 0), (wrap64 (1 + t246)), (wrap64 ((wrap64 (1 + t246)) + t257)), (wrap64 (100 + t248)), (wrap64 ((wrap64 (100 + t248)) + t259)), (rd y250 t253), rd y283 t286, t287)) else (none)) else (none)) = some (r1, r2, r3, r4, r5, r6, r7, r8) := H
                      have A83 := Aside0.mk A830
                      clear A830
                      by_cases c84 : 0 ≤ t286
                      · rw [if_pos c84] at H
                        have c84b0 : decide (0 ≤ t286) = true := decide_eq_true c84
                        clear c84
                        by_cases c85 : t286 < (y283.length : Int)
                        · rw [if_pos c85] at H
                          have c85b0 : decide (t286 < (y283.length : Int)) = true := decide_eq_true c85
                          clear c85
                          simp only [Option.some.injEq, Prod.mk.injEq] at H
                          obtain ⟨rfl, rfl, rfl, rfl, rfl, rfl, rfl, rfl⟩ := H
                          go_wp2_with (first | ((with_reducible refine gate_callee (f := 37) rfl ?_); refine goesL_ (some 51) rfl rfl Tryd.func37 (by kernel_rfl) rfl #[.pointer (some ⟨g, 0, none⟩), .int .i64 a1] rfl (by (try simp only [List.map_toArray, List.map_cons, List.map_nil]); first | done | rfl | (simp only [List.length_drop, List.length_take]; rfl)) ?_; (with_reducible refine (spec_l20Rd_odd.calls kj13 g s0_0 t265 a1 true t268 w0 _ ?side1 ?side2 A49.out).mono ?_); (case side1 => repeat (first | (with_reducible first | exact HI0.out | apply IsS62.alloc | apply IsS62.drewN | apply IsS62.drew | apply IsS62.set_1 | refine IsS62.far ?_ NB0_243.out _ | refine IsS62.far ?_ NB0_256.out _) | exact HI0.out)); (case side2 => repeat (first | (with_reducible first | exact HB.out | apply below_alloc | apply pw_below_drewN | apply below_drew1 | refine below_set ?_ (IsS62.ge HI0.out) | refine below_set ?_ GE243.out | refine below_set ?_ GE256.out) | exact HB.out)); rintro e w86 ⟨rfl, hi, hb, hk⟩; refine ⟨_, rfl, ?_⟩; have n0_ := Aside0.mk (KeepBut.blk hk (g' := gb243) (o := .cells #[.bool false, .int .i64 0, .int .i64 0, .int .i64 0, .int .i64 0, .int .i64 0, .int .i64 0] 25 (0, 0)) (bk BK243) NB243_0.out (by simp)); have n1_ := Aside0.mk (KeepBut.blk hk (g' := gb256) (o := .cells #[.bool (t244 == 0), .int .i64 (wrap64 (1 + t246)), .int .i64 (wrap64 ((wrap64 (1 + t246)) + t257)), .int .i64 (wrap64 (100 + t248)), .int .i64 (wrap64 ((wrap64 (100 + t248)) + t259)), .int .i64 (rd y250 t253), .int .i64 x257006_13] 25 (0, 0)) (bk BK256) NB256_0.out (by simp)); have n2_ := Aside0.mk (KeepBut.trans (by repeat (first | (with_reducible first | exact HK.out | apply KeepBut.set_ | apply keep_drewN | apply keep_drew | apply keep_alloc | refine keep_far ?_ GW243.out _ | refine keep_far ?_ GW256.out _) | exact HK.out)) hk (.inl rfl)); have n3_ := Aside0.mk (hb); have n4_ := Aside0.mk (hi); clear BK243; clear BK256; clear HK; clear HB; clear HI0; have BK243 := n0_; have BK256 := n1_; have HK := n2_; have HB := n3_; have HI0 := n4_; clear n0_ n1_ n2_ n3_ n4_; (try clear hb); (try clear hb2); (try clear hk); (try clear hi)) | ((with_reducible refine gate_callee (f := 26) rfl ?_); refine goesL_ (some 53) rfl rfl Tryd.func26 (by kernel_rfl) rfl #[.pointer (some ⟨g, 0, none⟩), .int .i64 4] rfl (by (try simp only [List.map_toArray, List.map_cons, List.map_nil]); first | done | rfl | (simp only [List.length_drop, List.length_take]; rfl)) ?_; (with_reducible refine (spec_l20Rd_pick.calls kj13 g s0_0 t268 4 t269 t270 w0 _ ?side1 ?side2 A51.out).mono ?_); (case side1 => repeat (first | (with_reducible first | exact HI0.out | apply IsS62.alloc | apply IsS62.drewN | apply IsS62.drew | apply IsS62.set_1 | refine IsS62.far ?_ NB0_243.out _ | refine IsS62.far ?_ NB0_256.out _) | exact HI0.out)); (case side2 => repeat (first | (with_reducible first | exact HB.out | apply below_alloc | apply pw_below_drewN | apply below_drew1 | refine below_set ?_ (IsS62.ge HI0.out) | refine below_set ?_ GE243.out | refine below_set ?_ GE256.out) | exact HB.out)); rintro e w87 ⟨rfl, hi, hb, hk⟩; refine ⟨_, rfl, ?_⟩; have n0_ := Aside0.mk (KeepBut.blk hk (g' := gb243) (o := .cells #[.bool false, .int .i64 0, .int .i64 0, .int .i64 0, .int .i64 0, .int .i64 0, .int .i64 0] 25 (0, 0)) (bk BK243) NB243_0.out (by simp)); have n1_ := Aside0.mk (KeepBut.blk hk (g' := gb256) (o := .cells #[.bool (t244 == 0), .int .i64 (wrap64 (1 + t246)), .int .i64 (wrap64 ((wrap64 (1 + t246)) + t257)), .int .i64 (wrap64 (100 + t248)), .int .i64 (wrap64 ((wrap64 (100 + t248)) + t259)), .int .i64 (rd y250 t253), .int .i64 x257006_13] 25 (0, 0)) (bk BK256) NB256_0.out (by simp)); have n2_ := Aside0.mk (KeepBut.trans (by repeat (first | (with_reducible first | exact HK.out | apply KeepBut.set_ | apply keep_drewN | apply keep_drew | apply keep_alloc | refine keep_far ?_ GW243.out _ | refine keep_far ?_ GW256.out _) | exact HK.out)) hk (.inl rfl)); have n3_ := Aside0.mk (hb); have n4_ := Aside0.mk (hi); clear BK243; clear BK256; clear HK; clear HB; clear HI0; have BK243 := n0_; have BK256 := n1_; have HK := n2_; have HB := n3_; have HI0 := n4_; clear n0_ n1_ n2_ n3_ n4_; (try clear hb); (try clear hb2); (try clear hk); (try clear hi)) | ((with_reducible refine gate_dst (N := 73) rfl ?_); refine Kd.R_lit (Kd.int .i64) _ 3 ?hg (N := 73) ?hd (xs := ([0, 1000] : List Int)) (inner := [.int .i64 0, .int .i64 1000]) (ok := fun _ => True) (okp := fun _ => True) ?hr ?hp (fun _ hk => hk) trivial (Below.refl _ _) (Nat.le_refl _) (by simp) ?_; (case hd => rfl); (case hg => rfl); (case hr => first | (go_simp; done) | (go_simp; rfl)); (case hp => exact (Reps.one (show Kd.M (Kd.int .i64) _ _ _ 0 [.int .i64 0] from rfl) (Reps.one (show Kd.M (Kd.int .i64) _ _ _ 1000 [.int .i64 1000] from rfl) (Reps.none _ _)))); intro v284 w88 ho89 hb hg_ hnew_; clear hg_ hnew_; (first | rw [← Ny283.out] at ho89 | (simp only [Int.reduceToNat] at ho89; rw [← Ny283.out] at ho89)); have n0_ := Aside0.mk (Kd.R_lower ho89 (keep_size (w := w) (g := g) (row := none) (by repeat (first | (with_reducible first | exact HK.out | apply KeepBut.set_ | apply keep_drewN | apply keep_drew | apply keep_alloc | refine keep_far ?_ GW243.out _ | refine keep_far ?_ GW256.out _) | exact HK.out)))); have n1_ := bkB BK243 hb; have n2_ := bkB BK256 hb; have n3_ := Aside0.mk (IsS62.below (by repeat (first | (with_reducible first | exact HI0.out | apply IsS62.alloc | apply IsS62.drewN | apply IsS62.drew | apply IsS62.set_1 | refine IsS62.far ?_ NB0_243.out _ | refine IsS62.far ?_ NB0_256.out _) | exact HI0.out)) hb); have n4_ := Aside0.mk (KeepBut.trans (by repeat (first | (with_reducible first | exact HK.out | apply KeepBut.set_ | apply keep_drewN | apply keep_drew | apply keep_alloc | refine keep_far ?_ GW243.out _ | refine keep_far ?_ GW256.out _) | exact HK.out)) (KeepBut.of_below hb g none) (.inl rfl)); have n5_ := Aside0.mk (below_step (by repeat (first | (with_reducible first | exact HB.out | apply below_alloc | apply pw_below_drewN | apply below_drew1 | refine below_set ?_ (IsS62.ge HI0.out) | refine below_set ?_ GE243.out | refine below_set ?_ GE256.out) | exact HB.out)) hb); clear BK243; clear BK256; clear HI0; clear HK; clear HB; have HO285 := n0_; have BK243 := n1_; have BK256 := n2_; have HI0 := n3_; have HK := n4_; have HB := n5_; clear n0_ n1_ n2_ n3_ n4_ n5_; clear hb ho89) | ((with_reducible refine gate_callee (f := 26) rfl ?_); refine goesL_ (some 75) rfl rfl Tryd.func26 (by kernel_rfl) rfl #[.pointer (some ⟨g, 0, none⟩), .int .i64 2] rfl (by (try simp only [List.map_toArray, List.map_cons, List.map_nil]); first | done | rfl | (simp only [List.length_drop, List.length_take]; rfl)) ?_; (with_reducible refine (spec_l20Rd_pick.calls kj13 g s0_0 t270 2 t286 t287 w0 _ ?side1 ?side2 A83.out).mono ?_); (case side1 => repeat (first | (with_reducible first | exact HI0.out | apply IsS62.alloc | apply IsS62.drewN | apply IsS62.drew | apply IsS62.set_1 | refine IsS62.far ?_ NB0_243.out _ | refine IsS62.far ?_ NB0_256.out _) | exact HI0.out)); (case side2 => repeat (first | (with_reducible first | exact HB.out | apply below_alloc | apply pw_below_drewN | apply below_drew1 | refine below_set ?_ (IsS62.ge HI0.out) | refine below_set ?_ GE243.out | refine below_set ?_ GE256.out) | exact HB.out)); rintro e w90 ⟨rfl, hi, hb, hk⟩; refine ⟨_, rfl, ?_⟩; have n0_ := Aside0.mk (KeepBut.blk hk (g' := gb243) (o := .cells #[.bool false, .int .i64 0, .int .i64 0, .int .i64 0, .int .i64 0, .int .i64 0, .int .i64 0] 25 (0, 0)) (bk BK243) NB243_0.out (by simp)); have n1_ := Aside0.mk (KeepBut.blk hk (g' := gb256) (o := .cells #[.bool (t244 == 0), .int .i64 (wrap64 (1 + t246)), .int .i64 (wrap64 ((wrap64 (1 + t246)) + t257)), .int .i64 (wrap64 (100 + t248)), .int .i64 (wrap64 ((wrap64 (100 + t248)) + t259)), .int .i64 (rd y250 t253), .int .i64 x257006_13] 25 (0, 0)) (bk BK256) NB256_0.out (by simp)); have n2_ := Aside0.mk (Kd.R_mono (Kd.R_keep (IsS62.apart (show IsS62 w0 _ g s0_0 t270 from by repeat (first | (with_reducible first | exact HI0.out | apply IsS62.alloc | apply IsS62.drewN | apply IsS62.drew | apply IsS62.set_1 | refine IsS62.far ?_ NB0_243.out _ | refine IsS62.far ?_ NB0_256.out _) | exact HI0.out)) (rs HO285) (by decide)) hk (fun _ h => h.2)) (fun _ h => h.1)); have n3_ := Aside0.mk (KeepBut.trans (by repeat (first | (with_reducible first | exact HK.out | apply KeepBut.set_ | apply keep_drewN | apply keep_drew | apply keep_alloc | refine keep_far ?_ GW243.out _ | refine keep_far ?_ GW256.out _) | exact HK.out)) hk (.inl rfl)); have n4_ := Aside0.mk (hb); have n5_ := Aside0.mk (hi); clear BK243; clear BK256; clear HO285; clear HK; clear HB; clear HI0; have BK243 := n0_; have BK256 := n1_; have HO285 := n2_; have HK := n3_; have HB := n4_; have HI0 := n5_; clear n0_ n1_ n2_ n3_ n4_ n5_; (try clear hb); (try clear hb2); (try clear hk); (try clear hi); obtain ⟨Ao91, co91, eo91⟩ := Kd.R_slice HO285.out; subst eo91; have p288 : 0 ≤ (t286 : Int) := of_decide_eq_true (by first | (with_reducible assumption) | assumption); have q288 : t286 < (y283.length : Int) := of_decide_eq_true (by first | (with_reducible assumption) | assumption); obtain ⟨ad288, e288, hx288_0⟩ := Kd.at_int (Kd.R_reads' HO285.out).2.2 t286 p288 q288; cases e288; replace p288 := eq_true p288; replace q288 := eq_true q288; have hnb92 := NB256_243.out; have hnc92 := NB243_256.out; have hnb93 := NB256_0.out; have hnc93 := NB0_256.out; have hcz94_0 : w90.cell? ⟨gb256, 0, none⟩ = some (.bool (t244 == 0)) := (blk_cell BK256.out 0).trans rfl; have hcz94_1 : w90.cell? ⟨gb256, 1, none⟩ = some (.int .i64 (wrap64 (1 + t246))) := (blk_cell BK256.out 1).trans rfl; have hcz94_2 : w90.cell? ⟨gb256, 2, none⟩ = some (.int .i64 (wrap64 ((wrap64 (1 + t246)) + t257))) := (blk_cell BK256.out 2).trans rfl; have hcz94_3 : w90.cell? ⟨gb256, 3, none⟩ = some (.int .i64 (wrap64 (100 + t248))) := (blk_cell BK256.out 3).trans rfl; have hcz94_4 : w90.cell? ⟨gb256, 4, none⟩ = some (.int .i64 (wrap64 ((wrap64 (100 + t248)) + t259))) := (blk_cell BK256.out 4).trans rfl; have hcz94_5 : w90.cell? ⟨gb256, 5, none⟩ = some (.int .i64 (rd y250 t253)) := (blk_cell BK256.out 5).trans rfl; have hcz94_6 : w90.cell? ⟨gb256, 6, none⟩ = some (.int .i64 x257006_13) := (blk_cell BK256.out 6).trans rfl; have hfz94_0 := blk_frozen BK256.out 0; have hfz94_1 := blk_frozen BK256.out 1; have hfz94_2 := blk_frozen BK256.out 2; have hfz94_3 := blk_frozen BK256.out 3; have hfz94_4 := blk_frozen BK256.out 4; have hfz94_5 := blk_frozen BK256.out 5; have hfz94_6 := blk_frozen BK256.out 6; have hnb95 := NB243_0.out; have hnc95 := NB0_243.out; have hcz96_0 : w90.cell? ⟨gb243, 0, none⟩ = some (.bool false) := (blk_cell BK243.out 0).trans rfl; have hcz96_1 : w90.cell? ⟨gb243, 1, none⟩ = some (.int .i64 0) := (blk_cell BK243.out 1).trans rfl; have hcz96_2 : w90.cell? ⟨gb243, 2, none⟩ = some (.int .i64 0) := (blk_cell BK243.out 2).trans rfl; have hcz96_3 : w90.cell? ⟨gb243, 3, none⟩ = some (.int .i64 0) := (blk_cell BK243.out 3).trans rfl; have hcz96_4 : w90.cell? ⟨gb243, 4, none⟩ = some (.int .i64 0) := (blk_cell BK243.out 4).trans rfl; have hcz96_5 : w90.cell? ⟨gb243, 5, none⟩ = some (.int .i64 0) := (blk_cell BK243.out 5).trans rfl; have hcz96_6 : w90.cell? ⟨gb243, 6, none⟩ = some (.int .i64 0) := (blk_cell BK243.out 6).trans rfl; have hfz96_0 := blk_frozen BK243.out 0; have hfz96_1 := blk_frozen BK243.out 1; have hfz96_2 := blk_frozen BK243.out 2; have hfz96_3 := blk_frozen BK243.out 3; have hfz96_4 := blk_frozen BK243.out 4; have hfz96_5 := blk_frozen BK243.out 5; have hfz96_6 := blk_frozen BK243.out 6))
                          refine bodyPost_ret (results_cell_row rfl _ _ gb243 25 #[.bool (t244 == 0), .int .i64 (wrap64 (1 + t246)), .int .i64 (wrap64 ((wrap64 (1 + t246)) + t257)), .int .i64 (wrap64 (100 + t248)), .int .i64 (wrap64 ((wrap64 (100 + t248)) + t259)), .int .i64 (rd y250 t253), .int .i64 (rd y283 t286)] (0, 0) _ rfl (by (with_reducible repeat refine bu ?_); refine blk_put (cs := #[.bool (t244 == 0), .int .i64 (wrap64 (1 + t246)), .int .i64 (wrap64 ((wrap64 (1 + t246)) + t257)), .int .i64 (wrap64 (100 + t248)), .int .i64 (wrap64 ((wrap64 (100 + t248)) + t259)), .int .i64 (rd y250 t253), .int .i64 0]) ?_ 6 _ rfl; (with_reducible repeat refine bu ?_); refine blk_put (cs := #[.bool (t244 == 0), .int .i64 (wrap64 (1 + t246)), .int .i64 (wrap64 ((wrap64 (1 + t246)) + t257)), .int .i64 (wrap64 (100 + t248)), .int .i64 (wrap64 ((wrap64 (100 + t248)) + t259)), .int .i64 0, .int .i64 0]) ?_ 5 _ rfl; (with_reducible repeat refine bu ?_); refine blk_put (cs := #[.bool (t244 == 0), .int .i64 (wrap64 (1 + t246)), .int .i64 (wrap64 ((wrap64 (1 + t246)) + t257)), .int .i64 (wrap64 (100 + t248)), .int .i64 0, .int .i64 0, .int .i64 0]) ?_ 4 _ rfl; (with_reducible repeat refine bu ?_); refine blk_put (cs := #[.bool (t244 == 0), .int .i64 (wrap64 (1 + t246)), .int .i64 (wrap64 ((wrap64 (1 + t246)) + t257)), .int .i64 0, .int .i64 0, .int .i64 0, .int .i64 0]) ?_ 3 _ rfl; (with_reducible repeat refine bu ?_); refine blk_put (cs := #[.bool (t244 == 0), .int .i64 (wrap64 (1 + t246)), .int .i64 0, .int .i64 0, .int .i64 0, .int .i64 0, .int .i64 0]) ?_ 2 _ rfl; (with_reducible repeat refine bu ?_); refine blk_put (cs := #[.bool (t244 == 0), .int .i64 0, .int .i64 0, .int .i64 0, .int .i64 0, .int .i64 0, .int .i64 0]) ?_ 1 _ rfl; (with_reducible repeat refine bu ?_); refine blk_put (cs := #[.bool false, .int .i64 0, .int .i64 0, .int .i64 0, .int .i64 0, .int .i64 0, .int .i64 0]) ?_ 0 _ rfl; (with_reducible repeat refine bu ?_); refine blk_far ?_ NB243_256.out _; (with_reducible repeat refine bu ?_); exact BK243.out) Tryd.underlying25 rfl (by kernel_rfl)) rfl ?_
                          exact ⟨by first | rfl | (simp [errW_none, errW_some] <;> rfl) | (simp [*, errW_none, errW_some] <;> rfl), by repeat (first | (with_reducible first | exact HI0.out | apply IsS62.alloc | apply IsS62.drewN | apply IsS62.drew | apply IsS62.set_1 | refine IsS62.far ?_ NB0_243.out _ | refine IsS62.far ?_ NB0_256.out _) | exact HI0.out), by repeat (first | (with_reducible first | exact HB.out | apply below_alloc | apply pw_below_drewN | apply below_drew1 | refine below_set ?_ (IsS62.ge HI0.out) | refine below_set ?_ GE243.out | refine below_set ?_ GE256.out) | exact HB.out), by repeat (first | (with_reducible first | exact HK.out | apply KeepBut.set_ | apply keep_drewN | apply keep_drew | apply keep_alloc | refine keep_far ?_ GW243.out _ | refine keep_far ?_ GW256.out _) | exact HK.out)⟩
                        · rw [if_neg c85] at H
                          exact absurd H (by simp)
                      · rw [if_neg c84] at H
                        exact absurd H (by simp)
                    · rw [if_neg c82] at H
                      have c82b0 : (t269 == 2) = false := beq_eq_false_iff_ne.mpr c82
                      have c82b1 : (t269 != 2) = true := bne_iff_ne.mpr c82
                      simp only [Option.some.injEq, Prod.mk.injEq] at H
                      obtain ⟨rfl, rfl, rfl, rfl, rfl, rfl, rfl, rfl⟩ := H
                      go_wp2_with (first | ((with_reducible refine gate_callee (f := 37) rfl ?_); refine goesL_ (some 51) rfl rfl Tryd.func37 (by kernel_rfl) rfl #[.pointer (some ⟨g, 0, none⟩), .int .i64 a1] rfl (by (try simp only [List.map_toArray, List.map_cons, List.map_nil]); first | done | rfl | (simp only [List.length_drop, List.length_take]; rfl)) ?_; (with_reducible refine (spec_l20Rd_odd.calls kj13 g s0_0 t265 a1 true t268 w0 _ ?side1 ?side2 A49.out).mono ?_); (case side1 => repeat (first | (with_reducible first | exact HI0.out | apply IsS62.alloc | apply IsS62.drewN | apply IsS62.drew | apply IsS62.set_1 | refine IsS62.far ?_ NB0_243.out _ | refine IsS62.far ?_ NB0_256.out _) | exact HI0.out)); (case side2 => repeat (first | (with_reducible first | exact HB.out | apply below_alloc | apply pw_below_drewN | apply below_drew1 | refine below_set ?_ (IsS62.ge HI0.out) | refine below_set ?_ GE243.out | refine below_set ?_ GE256.out) | exact HB.out)); rintro e w97 ⟨rfl, hi, hb, hk⟩; refine ⟨_, rfl, ?_⟩; have n0_ := Aside0.mk (KeepBut.blk hk (g' := gb243) (o := .cells #[.bool false, .int .i64 0, .int .i64 0, .int .i64 0, .int .i64 0, .int .i64 0, .int .i64 0] 25 (0, 0)) (bk BK243) NB243_0.out (by simp)); have n1_ := Aside0.mk (KeepBut.blk hk (g' := gb256) (o := .cells #[.bool (t244 == 0), .int .i64 (wrap64 (1 + t246)), .int .i64 (wrap64 ((wrap64 (1 + t246)) + t257)), .int .i64 (wrap64 (100 + t248)), .int .i64 (wrap64 ((wrap64 (100 + t248)) + t259)), .int .i64 (rd y250 t253), .int .i64 x257006_13] 25 (0, 0)) (bk BK256) NB256_0.out (by simp)); have n2_ := Aside0.mk (KeepBut.trans (by repeat (first | (with_reducible first | exact HK.out | apply KeepBut.set_ | apply keep_drewN | apply keep_drew | apply keep_alloc | refine keep_far ?_ GW243.out _ | refine keep_far ?_ GW256.out _) | exact HK.out)) hk (.inl rfl)); have n3_ := Aside0.mk (hb); have n4_ := Aside0.mk (hi); clear BK243; clear BK256; clear HK; clear HB; clear HI0; have BK243 := n0_; have BK256 := n1_; have HK := n2_; have HB := n3_; have HI0 := n4_; clear n0_ n1_ n2_ n3_ n4_; (try clear hb); (try clear hb2); (try clear hk); (try clear hi)) | ((with_reducible refine gate_callee (f := 26) rfl ?_); refine goesL_ (some 53) rfl rfl Tryd.func26 (by kernel_rfl) rfl #[.pointer (some ⟨g, 0, none⟩), .int .i64 4] rfl (by (try simp only [List.map_toArray, List.map_cons, List.map_nil]); first | done | rfl | (simp only [List.length_drop, List.length_take]; rfl)) ?_; (with_reducible refine (spec_l20Rd_pick.calls kj13 g s0_0 t268 4 t269 t270 w0 _ ?side1 ?side2 A51.out).mono ?_); (case side1 => repeat (first | (with_reducible first | exact HI0.out | apply IsS62.alloc | apply IsS62.drewN | apply IsS62.drew | apply IsS62.set_1 | refine IsS62.far ?_ NB0_243.out _ | refine IsS62.far ?_ NB0_256.out _) | exact HI0.out)); (case side2 => repeat (first | (with_reducible first | exact HB.out | apply below_alloc | apply pw_below_drewN | apply below_drew1 | refine below_set ?_ (IsS62.ge HI0.out) | refine below_set ?_ GE243.out | refine below_set ?_ GE256.out) | exact HB.out)); rintro e w98 ⟨rfl, hi, hb, hk⟩; refine ⟨_, rfl, ?_⟩; have n0_ := Aside0.mk (KeepBut.blk hk (g' := gb243) (o := .cells #[.bool false, .int .i64 0, .int .i64 0, .int .i64 0, .int .i64 0, .int .i64 0, .int .i64 0] 25 (0, 0)) (bk BK243) NB243_0.out (by simp)); have n1_ := Aside0.mk (KeepBut.blk hk (g' := gb256) (o := .cells #[.bool (t244 == 0), .int .i64 (wrap64 (1 + t246)), .int .i64 (wrap64 ((wrap64 (1 + t246)) + t257)), .int .i64 (wrap64 (100 + t248)), .int .i64 (wrap64 ((wrap64 (100 + t248)) + t259)), .int .i64 (rd y250 t253), .int .i64 x257006_13] 25 (0, 0)) (bk BK256) NB256_0.out (by simp)); have n2_ := Aside0.mk (KeepBut.trans (by repeat (first | (with_reducible first | exact HK.out | apply KeepBut.set_ | apply keep_drewN | apply keep_drew | apply keep_alloc | refine keep_far ?_ GW243.out _ | refine keep_far ?_ GW256.out _) | exact HK.out)) hk (.inl rfl)); have n3_ := Aside0.mk (hb); have n4_ := Aside0.mk (hi); clear BK243; clear BK256; clear HK; clear HB; clear HI0; have BK243 := n0_; have BK256 := n1_; have HK := n2_; have HB := n3_; have HI0 := n4_; clear n0_ n1_ n2_ n3_ n4_; (try clear hb); (try clear hb2); (try clear hk); (try clear hi); have hnb99 := NB256_243.out; have hnc99 := NB243_256.out; have hnb100 := NB256_0.out; have hnc100 := NB0_256.out; have hcz101_0 : w98.cell? ⟨gb256, 0, none⟩ = some (.bool (t244 == 0)) := (blk_cell BK256.out 0).trans rfl; have hcz101_1 : w98.cell? ⟨gb256, 1, none⟩ = some (.int .i64 (wrap64 (1 + t246))) := (blk_cell BK256.out 1).trans rfl; have hcz101_2 : w98.cell? ⟨gb256, 2, none⟩ = some (.int .i64 (wrap64 ((wrap64 (1 + t246)) + t257))) := (blk_cell BK256.out 2).trans rfl; have hcz101_3 : w98.cell? ⟨gb256, 3, none⟩ = some (.int .i64 (wrap64 (100 + t248))) := (blk_cell BK256.out 3).trans rfl; have hcz101_4 : w98.cell? ⟨gb256, 4, none⟩ = some (.int .i64 (wrap64 ((wrap64 (100 + t248)) + t259))) := (blk_cell BK256.out 4).trans rfl; have hcz101_5 : w98.cell? ⟨gb256, 5, none⟩ = some (.int .i64 (rd y250 t253)) := (blk_cell BK256.out 5).trans rfl; have hcz101_6 : w98.cell? ⟨gb256, 6, none⟩ = some (.int .i64 x257006_13) := (blk_cell BK256.out 6).trans rfl; have hfz101_0 := blk_frozen BK256.out 0; have hfz101_1 := blk_frozen BK256.out 1; have hfz101_2 := blk_frozen BK256.out 2; have hfz101_3 := blk_frozen BK256.out 3; have hfz101_4 := blk_frozen BK256.out 4; have hfz101_5 := blk_frozen BK256.out 5; have hfz101_6 := blk_frozen BK256.out 6; have hnb102 := NB243_0.out; have hnc102 := NB0_243.out; have hcz103_0 : w98.cell? ⟨gb243, 0, none⟩ = some (.bool false) := (blk_cell BK243.out 0).trans rfl; have hcz103_1 : w98.cell? ⟨gb243, 1, none⟩ = some (.int .i64 0) := (blk_cell BK243.out 1).trans rfl; have hcz103_2 : w98.cell? ⟨gb243, 2, none⟩ = some (.int .i64 0) := (blk_cell BK243.out 2).trans rfl; have hcz103_3 : w98.cell? ⟨gb243, 3, none⟩ = some (.int .i64 0) := (blk_cell BK243.out 3).trans rfl; have hcz103_4 : w98.cell? ⟨gb243, 4, none⟩ = some (.int .i64 0) := (blk_cell BK243.out 4).trans rfl; have hcz103_5 : w98.cell? ⟨gb243, 5, none⟩ = some (.int .i64 0) := (blk_cell BK243.out 5).trans rfl; have hcz103_6 : w98.cell? ⟨gb243, 6, none⟩ = some (.int .i64 0) := (blk_cell BK243.out 6).trans rfl; have hfz103_0 := blk_frozen BK243.out 0; have hfz103_1 := blk_frozen BK243.out 1; have hfz103_2 := blk_frozen BK243.out 2; have hfz103_3 := blk_frozen BK243.out 3; have hfz103_4 := blk_frozen BK243.out 4; have hfz103_5 := blk_frozen BK243.out 5; have hfz103_6 := blk_frozen BK243.out 6))
                      refine bodyPost_ret (results_cell_row rfl _ _ gb243 25 #[.bool (t244 == 0), .int .i64 (wrap64 (1 + t246)), .int .i64 10, .int .i64 (wrap64 (100 + t248)), .int .i64 (wrap64 ((wrap64 (100 + t248)) + t259)), .int .i64 (rd y250 t253), .int .i64 x257006_13] (0, 0) _ rfl (by (with_reducible repeat refine bu ?_); refine blk_put (cs := #[.bool (t244 == 0), .int .i64 (wrap64 (1 + t246)), .int .i64 10, .int .i64 (wrap64 (100 + t248)), .int .i64 (wrap64 ((wrap64 (100 + t248)) + t259)), .int .i64 (rd y250 t253), .int .i64 0]) ?_ 6 _ rfl; (with_reducible repeat refine bu ?_); refine blk_put (cs := #[.bool (t244 == 0), .int .i64 (wrap64 (1 + t246)), .int .i64 10, .int .i64 (wrap64 (100 + t248)), .int .i64 (wrap64 ((wrap64 (100 + t248)) + t259)), .int .i64 0, .int .i64 0]) ?_ 5 _ rfl; (with_reducible repeat refine bu ?_); refine blk_put (cs := #[.bool (t244 == 0), .int .i64 (wrap64 (1 + t246)), .int .i64 10, .int .i64 (wrap64 (100 + t248)), .int .i64 0, .int .i64 0, .int .i64 0]) ?_ 4 _ rfl; (with_reducible repeat refine bu ?_); refine blk_put (cs := #[.bool (t244 == 0), .int .i64 (wrap64 (1 + t246)), .int .i64 10, .int .i64 0, .int .i64 0, .int .i64 0, .int .i64 0]) ?_ 3 _ rfl; (with_reducible repeat refine bu ?_); refine blk_put (cs := #[.bool (t244 == 0), .int .i64 (wrap64 (1 + t246)), .int .i64 0, .int .i64 0, .int .i64 0, .int .i64 0, .int .i64 0]) ?_ 2 _ rfl; (with_reducible repeat refine bu ?_); refine blk_put (cs := #[.bool (t244 == 0), .int .i64 0, .int .i64 0, .int .i64 0, .int .i64 0, .int .i64 0, .int .i64 0]) ?_ 1 _ rfl; (with_reducible repeat refine bu ?_); refine blk_put (cs := #[.bool false, .int .i64 0, .int .i64 0, .int .i64 0, .int .i64 0, .int .i64 0, .int .i64 0]) ?_ 0 _ rfl; (with_reducible repeat refine bu ?_); refine blk_far ?_ NB243_256.out _; (with_reducible repeat refine bu ?_); exact BK243.out) Tryd.underlying25 rfl (by kernel_rfl)) rfl ?_
                      exact ⟨by first | rfl | (simp [errW_none, errW_some] <;> rfl) | (simp [*, errW_none, errW_some] <;> rfl), by repeat (first | (with_reducible first | exact HI0.out | apply IsS62.alloc | apply IsS62.drewN | apply IsS62.drew | apply IsS62.set_1 | refine IsS62.far ?_ NB0_243.out _ | refine IsS62.far ?_ NB0_256.out _) | exact HI0.out), by repeat (first | (with_reducible first | exact HB.out | apply below_alloc | apply pw_below_drewN | apply below_drew1 | refine below_set ?_ (IsS62.ge HI0.out) | refine below_set ?_ GE243.out | refine below_set ?_ GE256.out) | exact HB.out), by repeat (first | (with_reducible first | exact HK.out | apply KeepBut.set_ | apply keep_drewN | apply keep_drew | apply keep_alloc | refine keep_far ?_ GW243.out _ | refine keep_far ?_ GW256.out _) | exact HK.out)⟩
              · replace c50 := Bool.eq_false_iff.mpr c50
                subst c50
                have H1 : (some ((t244 == 0), (wrap64 (1 + t246)), (wrap64 ((wrap64 (1 + t246)) + t257)), (wrap64 (100 + t248)), (wrap64 ((wrap64 (100 + t248)) + t259)), (rd y250 t253), x257006_13, t268)) = some (r1, r2, r3, r4, r5, r6, r7, r8) := by rw [if_neg (show ¬ (false = true) by decide)] at H; exact H
                clear H
                have H := H1
                clear H1
                simp only [Option.some.injEq, Prod.mk.injEq] at H
                obtain ⟨rfl, rfl, rfl, rfl, rfl, rfl, rfl, rfl⟩ := H
                go_wp2_with (first | ((with_reducible refine gate_callee (f := 37) rfl ?_); refine goesL_ (some 51) rfl rfl Tryd.func37 (by kernel_rfl) rfl #[.pointer (some ⟨g, 0, none⟩), .int .i64 a1] rfl (by (try simp only [List.map_toArray, List.map_cons, List.map_nil]); first | done | rfl | (simp only [List.length_drop, List.length_take]; rfl)) ?_; (with_reducible refine (spec_l20Rd_odd.calls kj13 g s0_0 t265 a1 false t268 w0 _ ?side1 ?side2 A49.out).mono ?_); (case side1 => repeat (first | (with_reducible first | exact HI0.out | apply IsS62.alloc | apply IsS62.drewN | apply IsS62.drew | apply IsS62.set_1 | refine IsS62.far ?_ NB0_243.out _ | refine IsS62.far ?_ NB0_256.out _) | exact HI0.out)); (case side2 => repeat (first | (with_reducible first | exact HB.out | apply below_alloc | apply pw_below_drewN | apply below_drew1 | refine below_set ?_ (IsS62.ge HI0.out) | refine below_set ?_ GE243.out | refine below_set ?_ GE256.out) | exact HB.out)); rintro e w104 ⟨rfl, hi, hb, hk⟩; refine ⟨_, rfl, ?_⟩; have n0_ := Aside0.mk (KeepBut.blk hk (g' := gb243) (o := .cells #[.bool false, .int .i64 0, .int .i64 0, .int .i64 0, .int .i64 0, .int .i64 0, .int .i64 0] 25 (0, 0)) (bk BK243) NB243_0.out (by simp)); have n1_ := Aside0.mk (KeepBut.blk hk (g' := gb256) (o := .cells #[.bool (t244 == 0), .int .i64 (wrap64 (1 + t246)), .int .i64 (wrap64 ((wrap64 (1 + t246)) + t257)), .int .i64 (wrap64 (100 + t248)), .int .i64 (wrap64 ((wrap64 (100 + t248)) + t259)), .int .i64 (rd y250 t253), .int .i64 x257006_13] 25 (0, 0)) (bk BK256) NB256_0.out (by simp)); have n2_ := Aside0.mk (KeepBut.trans (by repeat (first | (with_reducible first | exact HK.out | apply KeepBut.set_ | apply keep_drewN | apply keep_drew | apply keep_alloc | refine keep_far ?_ GW243.out _ | refine keep_far ?_ GW256.out _) | exact HK.out)) hk (.inl rfl)); have n3_ := Aside0.mk (hb); have n4_ := Aside0.mk (hi); clear BK243; clear BK256; clear HK; clear HB; clear HI0; have BK243 := n0_; have BK256 := n1_; have HK := n2_; have HB := n3_; have HI0 := n4_; clear n0_ n1_ n2_ n3_ n4_; (try clear hb); (try clear hb2); (try clear hk); (try clear hi); have hnb105 := NB256_243.out; have hnc105 := NB243_256.out; have hnb106 := NB256_0.out; have hnc106 := NB0_256.out; have hcz107_0 : w104.cell? ⟨gb256, 0, none⟩ = some (.bool (t244 == 0)) := (blk_cell BK256.out 0).trans rfl; have hcz107_1 : w104.cell? ⟨gb256, 1, none⟩ = some (.int .i64 (wrap64 (1 + t246))) := (blk_cell BK256.out 1).trans rfl; have hcz107_2 : w104.cell? ⟨gb256, 2, none⟩ = some (.int .i64 (wrap64 ((wrap64 (1 + t246)) + t257))) := (blk_cell BK256.out 2).trans rfl; have hcz107_3 : w104.cell? ⟨gb256, 3, none⟩ = some (.int .i64 (wrap64 (100 + t248))) := (blk_cell BK256.out 3).trans rfl; have hcz107_4 : w104.cell? ⟨gb256, 4, none⟩ = some (.int .i64 (wrap64 ((wrap64 (100 + t248)) + t259))) := (blk_cell BK256.out 4).trans rfl; have hcz107_5 : w104.cell? ⟨gb256, 5, none⟩ = some (.int .i64 (rd y250 t253)) := (blk_cell BK256.out 5).trans rfl; have hcz107_6 : w104.cell? ⟨gb256, 6, none⟩ = some (.int .i64 x257006_13) := (blk_cell BK256.out 6).trans rfl; have hfz107_0 := blk_frozen BK256.out 0; have hfz107_1 := blk_frozen BK256.out 1; have hfz107_2 := blk_frozen BK256.out 2; have hfz107_3 := blk_frozen BK256.out 3; have hfz107_4 := blk_frozen BK256.out 4; have hfz107_5 := blk_frozen BK256.out 5; have hfz107_6 := blk_frozen BK256.out 6; have hnb108 := NB243_0.out; have hnc108 := NB0_243.out; have hcz109_0 : w104.cell? ⟨gb243, 0, none⟩ = some (.bool false) := (blk_cell BK243.out 0).trans rfl; have hcz109_1 : w104.cell? ⟨gb243, 1, none⟩ = some (.int .i64 0) := (blk_cell BK243.out 1).trans rfl; have hcz109_2 : w104.cell? ⟨gb243, 2, none⟩ = some (.int .i64 0) := (blk_cell BK243.out 2).trans rfl; have hcz109_3 : w104.cell? ⟨gb243, 3, none⟩ = some (.int .i64 0) := (blk_cell BK243.out 3).trans rfl; have hcz109_4 : w104.cell? ⟨gb243, 4, none⟩ = some (.int .i64 0) := (blk_cell BK243.out 4).trans rfl; have hcz109_5 : w104.cell? ⟨gb243, 5, none⟩ = some (.int .i64 0) := (blk_cell BK243.out 5).trans rfl; have hcz109_6 : w104.cell? ⟨gb243, 6, none⟩ = some (.int .i64 0) := (blk_cell BK243.out 6).trans rfl; have hfz109_0 := blk_frozen BK243.out 0; have hfz109_1 := blk_frozen BK243.out 1; have hfz109_2 := blk_frozen BK243.out 2; have hfz109_3 := blk_frozen BK243.out 3; have hfz109_4 := blk_frozen BK243.out 4; have hfz109_5 := blk_frozen BK243.out 5; have hfz109_6 := blk_frozen BK243.out 6))
                refine bodyPost_ret (results_cell_row rfl _ _ gb243 25 #[.bool (t244 == 0), .int .i64 (wrap64 (1 + t246)), .int .i64 (wrap64 ((wrap64 (1 + t246)) + t257)), .int .i64 (wrap64 (100 + t248)), .int .i64 (wrap64 ((wrap64 (100 + t248)) + t259)), .int .i64 (rd y250 t253), .int .i64 x257006_13] (0, 0) _ rfl (by (with_reducible repeat refine bu ?_); refine blk_put (cs := #[.bool (t244 == 0), .int .i64 (wrap64 (1 + t246)), .int .i64 (wrap64 ((wrap64 (1 + t246)) + t257)), .int .i64 (wrap64 (100 + t248)), .int .i64 (wrap64 ((wrap64 (100 + t248)) + t259)), .int .i64 (rd y250 t253), .int .i64 0]) ?_ 6 _ rfl; (with_reducible repeat refine bu ?_); refine blk_put (cs := #[.bool (t244 == 0), .int .i64 (wrap64 (1 + t246)), .int .i64 (wrap64 ((wrap64 (1 + t246)) + t257)), .int .i64 (wrap64 (100 + t248)), .int .i64 (wrap64 ((wrap64 (100 + t248)) + t259)), .int .i64 0, .int .i64 0]) ?_ 5 _ rfl; (with_reducible repeat refine bu ?_); refine blk_put (cs := #[.bool (t244 == 0), .int .i64 (wrap64 (1 + t246)), .int .i64 (wrap64 ((wrap64 (1 + t246)) + t257)), .int .i64 (wrap64 (100 + t248)), .int .i64 0, .int .i64 0, .int .i64 0]) ?_ 4 _ rfl; (with_reducible repeat refine bu ?_); refine blk_put (cs := #[.bool (t244 == 0), .int .i64 (wrap64 (1 + t246)), .int .i64 (wrap64 ((wrap64 (1 + t246)) + t257)), .int .i64 0, .int .i64 0, .int .i64 0, .int .i64 0]) ?_ 3 _ rfl; (with_reducible repeat refine bu ?_); refine blk_put (cs := #[.bool (t244 == 0), .int .i64 (wrap64 (1 + t246)), .int .i64 0, .int .i64 0, .int .i64 0, .int .i64 0, .int .i64 0]) ?_ 2 _ rfl; (with_reducible repeat refine bu ?_); refine blk_put (cs := #[.bool (t244 == 0), .int .i64 0, .int .i64 0, .int .i64 0, .int .i64 0, .int .i64 0, .int .i64 0]) ?_ 1 _ rfl; (with_reducible repeat refine bu ?_); refine blk_put (cs := #[.bool false, .int .i64 0, .int .i64 0, .int .i64 0, .int .i64 0, .int .i64 0, .int .i64 0]) ?_ 0 _ rfl; (with_reducible repeat refine bu ?_); exact BK243.out) Tryd.underlying25 rfl (by kernel_rfl)) rfl ?_
                exact ⟨by first | rfl | (simp [errW_none, errW_some] <;> rfl) | (simp [*, errW_none, errW_some] <;> rfl), by repeat (first | (with_reducible first | exact HI0.out | apply IsS62.alloc | apply IsS62.drewN | apply IsS62.drew | apply IsS62.set_1 | refine IsS62.far ?_ NB0_243.out _ | refine IsS62.far ?_ NB0_256.out _) | exact HI0.out), by repeat (first | (with_reducible first | exact HB.out | apply below_alloc | apply pw_below_drewN | apply below_drew1 | refine below_set ?_ (IsS62.ge HI0.out) | refine below_set ?_ GE243.out | refine below_set ?_ GE256.out) | exact HB.out), by repeat (first | (with_reducible first | exact HK.out | apply KeepBut.set_ | apply keep_drewN | apply keep_drew | apply keep_alloc | refine keep_far ?_ GW243.out _ | refine keep_far ?_ GW256.out _) | exact HK.out)⟩
        · rw [if_neg c13] at H
          exact absurd H (by simp)
      · rw [if_neg c12] at H
        exact absurd H (by simp)
    · rw [if_neg c8] at H
      exact absurd H (by simp)
  · rw [if_neg c7] at H
    exact absurd H (by simp)

end Go.Proofs.YtiocgkggegahhaaDoor.P
