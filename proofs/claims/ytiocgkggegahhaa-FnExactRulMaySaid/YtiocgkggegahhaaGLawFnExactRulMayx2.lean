import Derived.Test.YtiocgkggegahhaaGLawFnExactRulMayx1
-- written by hw.py for this claim
namespace Go.Proofs.Ytiocgkggegahhaa.P
open Go.RowKit Go.Proofs.YtiocgkggegahhaaUFnExactRulMay.PrintWords Go.Proofs.YtiocgkggegahhaaUFnExactRulMay.PrintLast Go.Proofs.YtiocgkggegahhaaUFnExactRulMay.PrintMore
attribute [local go_sem] max2_int min2_int max_two min_two max_three min_three max_four min_four
set_option linter.unusedVariables false
set_option linter.unusedSimpArgs false

/-! ### spec_l20Rule: function 44 -/
def spec_l20Rule.j0 : Nat → Int → List Int → Int → Bool → Int → Int → Int → Int → Int → Int → Option (Bool × Int × Int × Int × Int × Int × Int × Int)
  | 0, _, _, _, _, _, _, _, _, _, _ => none
  | k + 1, x1, x1000, x1001, x120000, x120001, x120002, x120003, x120004, x120005, x120006 => (spec_l20Rd_odd.f k x1000 x1001 x1).bind fun bt130 => (if bt130.1 = true then ((spec_l20Rd_pick.f k x1000 bt130.2 4).bind fun bt132 => (if bt132.1 = 0 then ((some (([0, 9, (-1)] : List Int) : List Int)).bind fun y134 => ((spec_l20Rd_pick.f k x1000 bt132.2 3).bind fun bt137 => (if 0 ≤ bt137.1 then (if bt137.1 < (y134.length : Int) then (some (x120000, rd y134 bt137.1, x120002, x120003, x120004, x120005, x120006, bt137.2)) else (none)) else (none)))) else (if bt132.1 = 1 then ((some (([110, 99] : List Int) : List Int)).bind fun y140 => ((spec_l20Rd_pick.f k x1000 bt132.2 2).bind fun bt143 => (if 0 ≤ bt143.1 then (if bt143.1 < (y140.length : Int) then (some (x120000, x120001, x120002, x120003, rd y140 bt143.1, x120005, x120006, bt143.2)) else (none)) else (none)))) else (if bt132.1 = 2 then ((some (([0, 1000] : List Int) : List Int)).bind fun y146 => ((spec_l20Rd_pick.f k x1000 bt132.2 2).bind fun bt149 => (if 0 ≤ bt149.1 then (if bt149.1 < (y146.length : Int) then (some (x120000, x120001, x120002, x120003, x120004, x120005, rd y146 bt149.1, bt149.2)) else (none)) else (none)))) else (some (x120000, x120001, 10, x120003, x120004, x120005, x120006, bt132.2)))))) else (some (x120000, x120001, x120002, x120003, x120004, x120005, x120006, bt130.2)))
def spec_l20Rule.f (k : Nat) (s0_0 : List Int) (s0_1 : Int) (a1 : Int) : Option (Bool × Int × Int × Int × Int × Int × Int × Int) := (spec_l20Rd_pick.f k s0_0 s0_1 2).bind fun bt107 => ((spec_l20Rd_pick.f k s0_0 bt107.2 4).bind fun bt109 => ((spec_l20Rd_pick.f k s0_0 bt109.2 4).bind fun bt111 => ((some (([1, 21, 7] : List Int) : List Int)).bind fun y113 => ((spec_l20Rd_pick.f k s0_0 bt111.2 3).bind fun bt116 => (if 0 ≤ bt116.1 then (if bt116.1 < (y113.length : Int) then ((spec_l20Rd_pick.f k s0_0 bt116.2 3).bind fun bt120 => ((spec_l20Rd_pick.f k s0_0 bt120.2 3).bind fun bt122 => ((some (([999, 21, rd y113 bt116.1] : List Int) : List Int)).bind fun y124 => ((spec_l20Rd_pick.f k s0_0 bt122.2 3).bind fun bt127 => (if 0 ≤ bt127.1 then (if bt127.1 < (y124.length : Int) then (if (rd y124 bt127.1) < (rd y113 bt116.1) then (spec_l20Rule.j0 k a1 s0_0 bt127.2 (bt107.1 == 0) (wrap64 (1 + bt109.1)) (wrap64 ((wrap64 (1 + bt109.1)) + bt120.1)) (wrap64 (100 + bt111.1)) (wrap64 ((wrap64 (100 + bt111.1)) + bt122.1)) (rd y113 bt116.1) (rd y113 bt116.1)) else (spec_l20Rule.j0 k a1 s0_0 bt127.2 (bt107.1 == 0) (wrap64 (1 + bt109.1)) (wrap64 ((wrap64 (1 + bt109.1)) + bt120.1)) (wrap64 (100 + bt111.1)) (wrap64 ((wrap64 (100 + bt111.1)) + bt122.1)) (rd y113 bt116.1) (rd y124 bt127.1))) else (none)) else (none)))))) else (none)) else (none))))))
theorem spec_l20Rule.mono_l : ∀ k, (∀ y0 y1 y2 y3 y4 y5 y6 y7 y8 y9, LeO (spec_l20Rule.j0 k y0 y1 y2 y3 y4 y5 y6 y7 y8 y9) (spec_l20Rule.j0 (k + 1) y0 y1 y2 y3 y4 y5 y6 y7 y8 y9))
  | 0 => fun _ _ _ _ _ _ _ _ _ _ r h => by simp [spec_l20Rule.j0] at h
  | k + 1 => by
    have ih0 := spec_l20Rule.mono_l k
    · intro y0 y1 y2 y3 y4 y5 y6 y7 y8 y9
      unfold spec_l20Rule.j0
      repeat' first
      | (with_reducible exact ih0 _ _ _ _ _ _ _ _ _ _)
      | (with_reducible exact spec_l20Rd_odd.mono _ _ _ _)
      | (with_reducible exact spec_l20Rd_pick.mono _ _ _ _)
      | (with_reducible exact LeO.refl _)
      | (with_reducible exact LeO.none _)
      | (with_reducible refine LeO.ite ?_ ?_)
      | (with_reducible refine LeO.bind ?_ (fun _ => ?_))
      | exact ih0 _ _ _ _ _ _ _ _ _ _
      | exact spec_l20Rd_odd.mono _ _ _ _
      | exact spec_l20Rd_pick.mono _ _ _ _
      | exact LeO.none _
      | refine LeO.ite ?_ ?_
      | refine LeO.bind ?_ (fun _ => ?_)
theorem spec_l20Rule.mono : ∀ a0 a1 a2 k, LeO (spec_l20Rule.f k a0 a1 a2) (spec_l20Rule.f (k + 1) a0 a1 a2) := by
  intro a0 a1 a2 k
  have ih0 := spec_l20Rule.mono_l k
  unfold spec_l20Rule.f
  repeat' first
      | (with_reducible exact ih0 _ _ _ _ _ _ _ _ _ _)
      | (with_reducible exact spec_l20Rd_odd.mono _ _ _ _)
      | (with_reducible exact spec_l20Rd_pick.mono _ _ _ _)
      | (with_reducible exact LeO.refl _)
      | (with_reducible exact LeO.none _)
      | (with_reducible refine LeO.ite ?_ ?_)
      | (with_reducible refine LeO.bind ?_ (fun _ => ?_))
      | exact ih0 _ _ _ _ _ _ _ _ _ _
      | exact spec_l20Rd_odd.mono _ _ _ _
      | exact spec_l20Rd_pick.mono _ _ _ _
      | exact LeO.none _
      | refine LeO.ite ?_ ?_
      | refine LeO.bind ?_ (fun _ => ?_)
def spec_l20Rule.T4 : Bool × List (List Nat × List Nat) := (true, [([], []), ([0], [0]), ([1], [1]), ([], []), ([3], [3]), ([2, 4], [2, 4]), ([5], [5]), ([0, 1, 2, 3, 4, 5, 6], []), ([7, 6, 4, 0, 1, 2, 3, 4, 5, 6], [6, 7])])
def spec_l20Rule.B4 : List Nat := [0, 1, 3, 0, 8, 31, 63, 127, 255]
theorem spec_l20Rule.tab4 : rtab .any (opsOf Try.f44 4) = spec_l20Rule.T4 := by kernel_rfl
theorem spec_l20Rule.bits4 : waitsOk spec_l20Rule.T4.2 spec_l20Rule.B4 = true := by kernel_rfl
set_option maxHeartbeats 8000000 in
set_option maxRecDepth 100000 in
theorem spec_l20Rule.calls (k : Nat) (g : Nat) (s0_0 : List Int) (s0_1 : Int) (a1 : Int) (r1 : Bool) (r2 : Int) (r3 : Int) (r4 : Int) (r5 : Int) (r6 : Int) (r7 : Int) (r8 : Int) (w0 w : World) (hI : IsS102 w0 w g s0_0 s0_1) (hB : Below w0.heap.size w0 w) (h : spec_l20Rule.f k s0_0 s0_1 a1 = some (r1, r2, r3, r4, r5, r6, r7, r8)) :
    Calls Try.prog 44 #[.pointer (some ⟨g, 0, none⟩), .int .i64 a1] w fun e w' => e = .returned (.agg #[.bool r1, .int .i64 r2, .int .i64 r3, .int .i64 r4, .int .i64 r5, .int .i64 r6, .int .i64 r7]) ∧ IsS102 w0 w' g s0_0 r8 ∧ Below w0.heap.size w0 w' ∧ KeepBut w w' g none := by
  have hu24 := Try.underlying24
  have HI0 := Aside0.mk hI
  have HK := Aside0.mk (KeepBut.refl w g none)
  have HL := Aside0.mk hB.size
  clear hI
  have HW0 := Aside0.mk hB.size
  have HB := Aside0.mk hB
  clear hB
  have H : ((spec_l20Rd_pick.f k s0_0 s0_1 2).bind fun bt107 => ((spec_l20Rd_pick.f k s0_0 bt107.2 4).bind fun bt109 => ((spec_l20Rd_pick.f k s0_0 bt109.2 4).bind fun bt111 => ((some (([1, 21, 7] : List Int) : List Int)).bind fun y113 => ((spec_l20Rd_pick.f k s0_0 bt111.2 3).bind fun bt116 => (if 0 ≤ bt116.1 then (if bt116.1 < (y113.length : Int) then ((spec_l20Rd_pick.f k s0_0 bt116.2 3).bind fun bt120 => ((spec_l20Rd_pick.f k s0_0 bt120.2 3).bind fun bt122 => ((some (([999, 21, rd y113 bt116.1] : List Int) : List Int)).bind fun y124 => ((spec_l20Rd_pick.f k s0_0 bt122.2 3).bind fun bt127 => (if 0 ≤ bt127.1 then (if bt127.1 < (y124.length : Int) then (if (rd y124 bt127.1) < (rd y113 bt116.1) then (spec_l20Rule.j0 k a1 s0_0 bt127.2 (bt107.1 == 0) (wrap64 (1 + bt109.1)) (wrap64 ((wrap64 (1 + bt109.1)) + bt120.1)) (wrap64 (100 + bt111.1)) (wrap64 ((wrap64 (100 + bt111.1)) + bt122.1)) (rd y113 bt116.1) (rd y113 bt116.1)) else (spec_l20Rule.j0 k a1 s0_0 bt127.2 (bt107.1 == 0) (wrap64 (1 + bt109.1)) (wrap64 ((wrap64 (1 + bt109.1)) + bt120.1)) (wrap64 (100 + bt111.1)) (wrap64 ((wrap64 (100 + bt111.1)) + bt122.1)) (rd y113 bt116.1) (rd y124 bt127.1))) else (none)) else (none)))))) else (none)) else (none))))))) = some (r1, r2, r3, r4, r5, r6, r7, r8) := h
  clear h
  replace H := Option.bind_eq_some_iff.mp H
  obtain ⟨⟨t107, t108⟩, A30, H⟩ := H
  replace H : ((spec_l20Rd_pick.f k s0_0 t108 4).bind fun bt109 => ((spec_l20Rd_pick.f k s0_0 bt109.2 4).bind fun bt111 => ((some (([1, 21, 7] : List Int) : List Int)).bind fun y113 => ((spec_l20Rd_pick.f k s0_0 bt111.2 3).bind fun bt116 => (if 0 ≤ bt116.1 then (if bt116.1 < (y113.length : Int) then ((spec_l20Rd_pick.f k s0_0 bt116.2 3).bind fun bt120 => ((spec_l20Rd_pick.f k s0_0 bt120.2 3).bind fun bt122 => ((some (([999, 21, rd y113 bt116.1] : List Int) : List Int)).bind fun y124 => ((spec_l20Rd_pick.f k s0_0 bt122.2 3).bind fun bt127 => (if 0 ≤ bt127.1 then (if bt127.1 < (y124.length : Int) then (if (rd y124 bt127.1) < (rd y113 bt116.1) then (spec_l20Rule.j0 k a1 s0_0 bt127.2 (t107 == 0) (wrap64 (1 + bt109.1)) (wrap64 ((wrap64 (1 + bt109.1)) + bt120.1)) (wrap64 (100 + bt111.1)) (wrap64 ((wrap64 (100 + bt111.1)) + bt122.1)) (rd y113 bt116.1) (rd y113 bt116.1)) else (spec_l20Rule.j0 k a1 s0_0 bt127.2 (t107 == 0) (wrap64 (1 + bt109.1)) (wrap64 ((wrap64 (1 + bt109.1)) + bt120.1)) (wrap64 (100 + bt111.1)) (wrap64 ((wrap64 (100 + bt111.1)) + bt122.1)) (rd y113 bt116.1) (rd y124 bt127.1))) else (none)) else (none)))))) else (none)) else (none)))))) = some (r1, r2, r3, r4, r5, r6, r7, r8) := H
  have A3 := Aside0.mk A30
  clear A30
  replace H := Option.bind_eq_some_iff.mp H
  obtain ⟨⟨t109, t110⟩, A40, H⟩ := H
  replace H : ((spec_l20Rd_pick.f k s0_0 t110 4).bind fun bt111 => ((some (([1, 21, 7] : List Int) : List Int)).bind fun y113 => ((spec_l20Rd_pick.f k s0_0 bt111.2 3).bind fun bt116 => (if 0 ≤ bt116.1 then (if bt116.1 < (y113.length : Int) then ((spec_l20Rd_pick.f k s0_0 bt116.2 3).bind fun bt120 => ((spec_l20Rd_pick.f k s0_0 bt120.2 3).bind fun bt122 => ((some (([999, 21, rd y113 bt116.1] : List Int) : List Int)).bind fun y124 => ((spec_l20Rd_pick.f k s0_0 bt122.2 3).bind fun bt127 => (if 0 ≤ bt127.1 then (if bt127.1 < (y124.length : Int) then (if (rd y124 bt127.1) < (rd y113 bt116.1) then (spec_l20Rule.j0 k a1 s0_0 bt127.2 (t107 == 0) (wrap64 (1 + t109)) (wrap64 ((wrap64 (1 + t109)) + bt120.1)) (wrap64 (100 + bt111.1)) (wrap64 ((wrap64 (100 + bt111.1)) + bt122.1)) (rd y113 bt116.1) (rd y113 bt116.1)) else (spec_l20Rule.j0 k a1 s0_0 bt127.2 (t107 == 0) (wrap64 (1 + t109)) (wrap64 ((wrap64 (1 + t109)) + bt120.1)) (wrap64 (100 + bt111.1)) (wrap64 ((wrap64 (100 + bt111.1)) + bt122.1)) (rd y113 bt116.1) (rd y124 bt127.1))) else (none)) else (none)))))) else (none)) else (none))))) = some (r1, r2, r3, r4, r5, r6, r7, r8) := H
  have A4 := Aside0.mk A40
  clear A40
  replace H := Option.bind_eq_some_iff.mp H
  obtain ⟨⟨t111, t112⟩, A50, H⟩ := H
  replace H : ((some (([1, 21, 7] : List Int) : List Int)).bind fun y113 => ((spec_l20Rd_pick.f k s0_0 t112 3).bind fun bt116 => (if 0 ≤ bt116.1 then (if bt116.1 < (y113.length : Int) then ((spec_l20Rd_pick.f k s0_0 bt116.2 3).bind fun bt120 => ((spec_l20Rd_pick.f k s0_0 bt120.2 3).bind fun bt122 => ((some (([999, 21, rd y113 bt116.1] : List Int) : List Int)).bind fun y124 => ((spec_l20Rd_pick.f k s0_0 bt122.2 3).bind fun bt127 => (if 0 ≤ bt127.1 then (if bt127.1 < (y124.length : Int) then (if (rd y124 bt127.1) < (rd y113 bt116.1) then (spec_l20Rule.j0 k a1 s0_0 bt127.2 (t107 == 0) (wrap64 (1 + t109)) (wrap64 ((wrap64 (1 + t109)) + bt120.1)) (wrap64 (100 + t111)) (wrap64 ((wrap64 (100 + t111)) + bt122.1)) (rd y113 bt116.1) (rd y113 bt116.1)) else (spec_l20Rule.j0 k a1 s0_0 bt127.2 (t107 == 0) (wrap64 (1 + t109)) (wrap64 ((wrap64 (1 + t109)) + bt120.1)) (wrap64 (100 + t111)) (wrap64 ((wrap64 (100 + t111)) + bt122.1)) (rd y113 bt116.1) (rd y124 bt127.1))) else (none)) else (none)))))) else (none)) else (none)))) = some (r1, r2, r3, r4, r5, r6, r7, r8) := H
  have A5 := Aside0.mk A50
  clear A50
  obtain ⟨y113, hy113⟩ : ∃ y_ : List Int, y_ = (([1, 21, 7] : List Int)) := ⟨_, rfl⟩
  replace H : ((spec_l20Rd_pick.f k s0_0 t112 3).bind fun bt116 => (if 0 ≤ bt116.1 then (if bt116.1 < (y113.length : Int) then ((spec_l20Rd_pick.f k s0_0 bt116.2 3).bind fun bt120 => ((spec_l20Rd_pick.f k s0_0 bt120.2 3).bind fun bt122 => ((some (([999, 21, rd y113 bt116.1] : List Int) : List Int)).bind fun y124 => ((spec_l20Rd_pick.f k s0_0 bt122.2 3).bind fun bt127 => (if 0 ≤ bt127.1 then (if bt127.1 < (y124.length : Int) then (if (rd y124 bt127.1) < (rd y113 bt116.1) then (spec_l20Rule.j0 k a1 s0_0 bt127.2 (t107 == 0) (wrap64 (1 + t109)) (wrap64 ((wrap64 (1 + t109)) + bt120.1)) (wrap64 (100 + t111)) (wrap64 ((wrap64 (100 + t111)) + bt122.1)) (rd y113 bt116.1) (rd y113 bt116.1)) else (spec_l20Rule.j0 k a1 s0_0 bt127.2 (t107 == 0) (wrap64 (1 + t109)) (wrap64 ((wrap64 (1 + t109)) + bt120.1)) (wrap64 (100 + t111)) (wrap64 ((wrap64 (100 + t111)) + bt122.1)) (rd y113 bt116.1) (rd y124 bt127.1))) else (none)) else (none)))))) else (none)) else (none))) = some (r1, r2, r3, r4, r5, r6, r7, r8) := by first | (rw [hy113]; with_reducible exact H) | (have H2_ := (Option.bind_some _ _).symm.trans H; rw [hy113]; with_reducible exact H2_) | (have H2_ := (Option.bind_some _ _).symm.trans H; with_reducible exact H2_) | with_reducible exact H | (rw [hy113]; exact H) | exact H
  have Ny113 := Aside0.mk hy113
  clear hy113
  replace H := Option.bind_eq_some_iff.mp H
  obtain ⟨⟨t116, t117⟩, A60, H⟩ := H
  replace H : (if 0 ≤ t116 then (if t116 < (y113.length : Int) then ((spec_l20Rd_pick.f k s0_0 t117 3).bind fun bt120 => ((spec_l20Rd_pick.f k s0_0 bt120.2 3).bind fun bt122 => ((some (([999, 21, rd y113 t116] : List Int) : List Int)).bind fun y124 => ((spec_l20Rd_pick.f k s0_0 bt122.2 3).bind fun bt127 => (if 0 ≤ bt127.1 then (if bt127.1 < (y124.length : Int) then (if (rd y124 bt127.1) < (rd y113 t116) then (spec_l20Rule.j0 k a1 s0_0 bt127.2 (t107 == 0) (wrap64 (1 + t109)) (wrap64 ((wrap64 (1 + t109)) + bt120.1)) (wrap64 (100 + t111)) (wrap64 ((wrap64 (100 + t111)) + bt122.1)) (rd y113 t116) (rd y113 t116)) else (spec_l20Rule.j0 k a1 s0_0 bt127.2 (t107 == 0) (wrap64 (1 + t109)) (wrap64 ((wrap64 (1 + t109)) + bt120.1)) (wrap64 (100 + t111)) (wrap64 ((wrap64 (100 + t111)) + bt122.1)) (rd y113 t116) (rd y124 bt127.1))) else (none)) else (none)))))) else (none)) else (none)) = some (r1, r2, r3, r4, r5, r6, r7, r8) := H
  have A6 := Aside0.mk A60
  clear A60
  by_cases c7 : 0 ≤ t116
  · rw [if_pos c7] at H
    have c7b0 : decide (0 ≤ t116) = true := decide_eq_true c7
    clear c7
    by_cases c8 : t116 < (y113.length : Int)
    · rw [if_pos c8] at H
      have c8b0 : decide (t116 < (y113.length : Int)) = true := decide_eq_true c8
      clear c8
      replace H := Option.bind_eq_some_iff.mp H
      obtain ⟨⟨t120, t121⟩, A90, H⟩ := H
      replace H : ((spec_l20Rd_pick.f k s0_0 t121 3).bind fun bt122 => ((some (([999, 21, rd y113 t116] : List Int) : List Int)).bind fun y124 => ((spec_l20Rd_pick.f k s0_0 bt122.2 3).bind fun bt127 => (if 0 ≤ bt127.1 then (if bt127.1 < (y124.length : Int) then (if (rd y124 bt127.1) < (rd y113 t116) then (spec_l20Rule.j0 k a1 s0_0 bt127.2 (t107 == 0) (wrap64 (1 + t109)) (wrap64 ((wrap64 (1 + t109)) + t120)) (wrap64 (100 + t111)) (wrap64 ((wrap64 (100 + t111)) + bt122.1)) (rd y113 t116) (rd y113 t116)) else (spec_l20Rule.j0 k a1 s0_0 bt127.2 (t107 == 0) (wrap64 (1 + t109)) (wrap64 ((wrap64 (1 + t109)) + t120)) (wrap64 (100 + t111)) (wrap64 ((wrap64 (100 + t111)) + bt122.1)) (rd y113 t116) (rd y124 bt127.1))) else (none)) else (none))))) = some (r1, r2, r3, r4, r5, r6, r7, r8) := H
      have A9 := Aside0.mk A90
      clear A90
      replace H := Option.bind_eq_some_iff.mp H
      obtain ⟨⟨t122, t123⟩, A100, H⟩ := H
      replace H : ((some (([999, 21, rd y113 t116] : List Int) : List Int)).bind fun y124 => ((spec_l20Rd_pick.f k s0_0 t123 3).bind fun bt127 => (if 0 ≤ bt127.1 then (if bt127.1 < (y124.length : Int) then (if (rd y124 bt127.1) < (rd y113 t116) then (spec_l20Rule.j0 k a1 s0_0 bt127.2 (t107 == 0) (wrap64 (1 + t109)) (wrap64 ((wrap64 (1 + t109)) + t120)) (wrap64 (100 + t111)) (wrap64 ((wrap64 (100 + t111)) + t122)) (rd y113 t116) (rd y113 t116)) else (spec_l20Rule.j0 k a1 s0_0 bt127.2 (t107 == 0) (wrap64 (1 + t109)) (wrap64 ((wrap64 (1 + t109)) + t120)) (wrap64 (100 + t111)) (wrap64 ((wrap64 (100 + t111)) + t122)) (rd y113 t116) (rd y124 bt127.1))) else (none)) else (none)))) = some (r1, r2, r3, r4, r5, r6, r7, r8) := H
      have A10 := Aside0.mk A100
      clear A100
      obtain ⟨y124, hy124⟩ : ∃ y_ : List Int, y_ = (([999, 21, rd y113 t116] : List Int)) := ⟨_, rfl⟩
      replace H : ((spec_l20Rd_pick.f k s0_0 t123 3).bind fun bt127 => (if 0 ≤ bt127.1 then (if bt127.1 < (y124.length : Int) then (if (rd y124 bt127.1) < (rd y113 t116) then (spec_l20Rule.j0 k a1 s0_0 bt127.2 (t107 == 0) (wrap64 (1 + t109)) (wrap64 ((wrap64 (1 + t109)) + t120)) (wrap64 (100 + t111)) (wrap64 ((wrap64 (100 + t111)) + t122)) (rd y113 t116) (rd y113 t116)) else (spec_l20Rule.j0 k a1 s0_0 bt127.2 (t107 == 0) (wrap64 (1 + t109)) (wrap64 ((wrap64 (1 + t109)) + t120)) (wrap64 (100 + t111)) (wrap64 ((wrap64 (100 + t111)) + t122)) (rd y113 t116) (rd y124 bt127.1))) else (none)) else (none))) = some (r1, r2, r3, r4, r5, r6, r7, r8) := by first | (rw [hy124]; with_reducible exact H) | (have H2_ := (Option.bind_some _ _).symm.trans H; rw [hy124]; with_reducible exact H2_) | (have H2_ := (Option.bind_some _ _).symm.trans H; with_reducible exact H2_) | with_reducible exact H | (rw [hy124]; exact H) | exact H
      have Ny124 := Aside0.mk hy124
      clear hy124
      replace H := Option.bind_eq_some_iff.mp H
      obtain ⟨⟨t127, t128⟩, A110, H⟩ := H
      replace H : (if 0 ≤ t127 then (if t127 < (y124.length : Int) then (if (rd y124 t127) < (rd y113 t116) then (spec_l20Rule.j0 k a1 s0_0 t128 (t107 == 0) (wrap64 (1 + t109)) (wrap64 ((wrap64 (1 + t109)) + t120)) (wrap64 (100 + t111)) (wrap64 ((wrap64 (100 + t111)) + t122)) (rd y113 t116) (rd y113 t116)) else (spec_l20Rule.j0 k a1 s0_0 t128 (t107 == 0) (wrap64 (1 + t109)) (wrap64 ((wrap64 (1 + t109)) + t120)) (wrap64 (100 + t111)) (wrap64 ((wrap64 (100 + t111)) + t122)) (rd y113 t116) (rd y124 t127))) else (none)) else (none)) = some (r1, r2, r3, r4, r5, r6, r7, r8) := H
      have A11 := Aside0.mk A110
      clear A110
      by_cases c12 : 0 ≤ t127
      · rw [if_pos c12] at H
        have c12b0 : decide (0 ≤ t127) = true := decide_eq_true c12
        clear c12
        by_cases c13 : t127 < (y124.length : Int)
        · rw [if_pos c13] at H
          have c13b0 : decide (t127 < (y124.length : Int)) = true := decide_eq_true c13
          clear c13
          have HC14 := Aside0.mk H
          clear H
          go_enter Try.func44, Try.ntmps44
          try go_wp2_with (first | ((with_reducible refine gate_dst (N := 4) rfl ?_); refine box_event ?hg (N := 4) ?hd (cs := #[.bool false, .int .i64 0, .int .i64 0, .int .i64 0, .int .i64 0, .int .i64 0, .int .i64 0]) (t := 24) ?hr ?_; (case hd => rfl); (case hg => rfl); (case hr => first | (go_simp; done) | (go_simp; rfl)); intro gb106 hg w15 hbox hb; have n0_ := Aside0.mk (IsS102.below (by repeat (first | (with_reducible first | exact HI0.out | apply IsS102.alloc | apply IsS102.drewN | apply IsS102.drew | apply IsS102.set_1) | exact HI0.out)) hb); have n1_ := Aside0.mk (KeepBut.trans (by repeat (first | (with_reducible first | exact HK.out | apply KeepBut.set_ | apply keep_drewN | apply keep_drew | apply keep_alloc) | exact HK.out)) (KeepBut.of_below hb g none) (.inl rfl)); have n2_ := Aside0.mk (below_step (by repeat (first | (with_reducible first | exact HB.out | apply below_alloc | apply pw_below_drewN | apply below_drew1 | refine below_set ?_ (IsS102.ge HI0.out)) | exact HB.out)) hb); have n3_ := Aside0.mk (hbox); have n4_ := Aside0.mk ((by rw [hg]; exact (keep_size (w := w) (g := g) (row := none) (by repeat (first | (with_reducible first | exact HK.out | apply KeepBut.set_ | apply keep_drewN | apply keep_drew | apply keep_alloc) | exact HK.out))) : w.heap.size ≤ gb106)); have n5_ := Aside0.mk ((Nat.le_trans HW0.out (by rw [hg]; exact (keep_size (w := w) (g := g) (row := none) (by repeat (first | (with_reducible first | exact HK.out | apply KeepBut.set_ | apply keep_drewN | apply keep_drew | apply keep_alloc) | exact HK.out))) : w.heap.size ≤ gb106) : w0.heap.size ≤ gb106)); have n6_ := Aside0.mk ((by rw [hg]; exact Nat.ne_of_lt (IsS102.lt (show IsS102 w0 _ g s0_0 s0_1 from by repeat (first | (with_reducible first | exact HI0.out | apply IsS102.alloc | apply IsS102.drewN | apply IsS102.drew | apply IsS102.set_1) | exact HI0.out))) : g ≠ gb106)); have n7_ := Aside0.mk ((by rw [hg]; exact Nat.ne_of_gt (IsS102.lt (show IsS102 w0 _ g s0_0 s0_1 from by repeat (first | (with_reducible first | exact HI0.out | apply IsS102.alloc | apply IsS102.drewN | apply IsS102.drew | apply IsS102.set_1) | exact HI0.out))) : gb106 ≠ g)); clear HI0; clear HK; clear HB; have HI0 := n0_; have HK := n1_; have HB := n2_; have BK106 := n3_; have GW106 := n4_; have GE106 := n5_; have NB0_106 := n6_; have NB106_0 := n7_; clear n0_ n1_ n2_ n3_ n4_ n5_ n6_ n7_; clear hb hbox hg) | ((with_reducible refine gate_callee (f := 58) rfl ?_); refine goesL_ (some 7) rfl rfl Try.func58 (by kernel_rfl) rfl #[.pointer (some ⟨g, 0, none⟩), .int .i64 2] rfl (by (try simp only [List.map_toArray, List.map_cons, List.map_nil]); first | done | rfl | (simp only [List.length_drop, List.length_take]; rfl)) ?_; (with_reducible refine (spec_l20Rd_pick.calls k g s0_0 s0_1 2 t107 t108 w0 _ ?side1 ?side2 A3.out).mono ?_); (case side1 => repeat (first | (with_reducible first | exact HI0.out | apply IsS102.alloc | apply IsS102.drewN | apply IsS102.drew | apply IsS102.set_1 | refine IsS102.far ?_ NB0_106.out _) | exact HI0.out)); (case side2 => repeat (first | (with_reducible first | exact HB.out | apply below_alloc | apply pw_below_drewN | apply below_drew1 | refine below_set ?_ (IsS102.ge HI0.out) | refine below_set ?_ GE106.out) | exact HB.out)); rintro e w16 ⟨rfl, hi, hb, hk⟩; refine ⟨_, rfl, ?_⟩; have n0_ := Aside0.mk (KeepBut.blk hk (g' := gb106) (o := .cells #[.bool false, .int .i64 0, .int .i64 0, .int .i64 0, .int .i64 0, .int .i64 0, .int .i64 0] 24 (0, 0)) (bk BK106) NB106_0.out (by simp)); have n1_ := Aside0.mk (KeepBut.trans (by repeat (first | (with_reducible first | exact HK.out | apply KeepBut.set_ | apply keep_drewN | apply keep_drew | apply keep_alloc | refine keep_far ?_ GW106.out _) | exact HK.out)) hk (.inl rfl)); have n2_ := Aside0.mk (hb); have n3_ := Aside0.mk (hi); clear BK106; clear HK; clear HB; clear HI0; have BK106 := n0_; have HK := n1_; have HB := n2_; have HI0 := n3_; clear n0_ n1_ n2_ n3_; (try clear hb); (try clear hb2); (try clear hk); (try clear hi)) | ((with_reducible refine gate_callee (f := 58) rfl ?_); refine goesL_ (some 10) rfl rfl Try.func58 (by kernel_rfl) rfl #[.pointer (some ⟨g, 0, none⟩), .int .i64 4] rfl (by (try simp only [List.map_toArray, List.map_cons, List.map_nil]); first | done | rfl | (simp only [List.length_drop, List.length_take]; rfl)) ?_; (with_reducible refine (spec_l20Rd_pick.calls k g s0_0 t108 4 t109 t110 w0 _ ?side1 ?side2 A4.out).mono ?_); (case side1 => repeat (first | (with_reducible first | exact HI0.out | apply IsS102.alloc | apply IsS102.drewN | apply IsS102.drew | apply IsS102.set_1 | refine IsS102.far ?_ NB0_106.out _) | exact HI0.out)); (case side2 => repeat (first | (with_reducible first | exact HB.out | apply below_alloc | apply pw_below_drewN | apply below_drew1 | refine below_set ?_ (IsS102.ge HI0.out) | refine below_set ?_ GE106.out) | exact HB.out)); rintro e w17 ⟨rfl, hi, hb, hk⟩; refine ⟨_, rfl, ?_⟩; have n0_ := Aside0.mk (KeepBut.blk hk (g' := gb106) (o := .cells #[.bool false, .int .i64 0, .int .i64 0, .int .i64 0, .int .i64 0, .int .i64 0, .int .i64 0] 24 (0, 0)) (bk BK106) NB106_0.out (by simp)); have n1_ := Aside0.mk (KeepBut.trans (by repeat (first | (with_reducible first | exact HK.out | apply KeepBut.set_ | apply keep_drewN | apply keep_drew | apply keep_alloc | refine keep_far ?_ GW106.out _) | exact HK.out)) hk (.inl rfl)); have n2_ := Aside0.mk (hb); have n3_ := Aside0.mk (hi); clear BK106; clear HK; clear HB; clear HI0; have BK106 := n0_; have HK := n1_; have HB := n2_; have HI0 := n3_; clear n0_ n1_ n2_ n3_; (try clear hb); (try clear hb2); (try clear hk); (try clear hi)) | ((with_reducible refine gate_callee (f := 58) rfl ?_); refine goesL_ (some 13) rfl rfl Try.func58 (by kernel_rfl) rfl #[.pointer (some ⟨g, 0, none⟩), .int .i64 4] rfl (by (try simp only [List.map_toArray, List.map_cons, List.map_nil]); first | done | rfl | (simp only [List.length_drop, List.length_take]; rfl)) ?_; (with_reducible refine (spec_l20Rd_pick.calls k g s0_0 t110 4 t111 t112 w0 _ ?side1 ?side2 A5.out).mono ?_); (case side1 => repeat (first | (with_reducible first | exact HI0.out | apply IsS102.alloc | apply IsS102.drewN | apply IsS102.drew | apply IsS102.set_1 | refine IsS102.far ?_ NB0_106.out _) | exact HI0.out)); (case side2 => repeat (first | (with_reducible first | exact HB.out | apply below_alloc | apply pw_below_drewN | apply below_drew1 | refine below_set ?_ (IsS102.ge HI0.out) | refine below_set ?_ GE106.out) | exact HB.out)); rintro e w18 ⟨rfl, hi, hb, hk⟩; refine ⟨_, rfl, ?_⟩; have n0_ := Aside0.mk (KeepBut.blk hk (g' := gb106) (o := .cells #[.bool false, .int .i64 0, .int .i64 0, .int .i64 0, .int .i64 0, .int .i64 0, .int .i64 0] 24 (0, 0)) (bk BK106) NB106_0.out (by simp)); have n1_ := Aside0.mk (KeepBut.trans (by repeat (first | (with_reducible first | exact HK.out | apply KeepBut.set_ | apply keep_drewN | apply keep_drew | apply keep_alloc | refine keep_far ?_ GW106.out _) | exact HK.out)) hk (.inl rfl)); have n2_ := Aside0.mk (hb); have n3_ := Aside0.mk (hi); clear BK106; clear HK; clear HB; clear HI0; have BK106 := n0_; have HK := n1_; have HB := n2_; have HI0 := n3_; clear n0_ n1_ n2_ n3_; (try clear hb); (try clear hb2); (try clear hk); (try clear hi)) | ((with_reducible refine gate_dst (N := 15) rfl ?_); refine Kd.R_lit (Kd.int .i64) _ 3 ?hg (N := 15) ?hd (xs := ([1, 21, 7] : List Int)) (inner := [.int .i64 1, .int .i64 21, .int .i64 7]) (ok := fun _ => True) (okp := fun _ => True) ?hr ?hp (fun _ hk => hk) trivial (Below.refl _ _) (Nat.le_refl _) (by simp) ?_; (case hd => rfl); (case hg => rfl); (case hr => first | (go_simp; done) | (go_simp; rfl)); (case hp => exact (Reps.one (show Kd.M (Kd.int .i64) _ _ _ 1 [.int .i64 1] from rfl) (Reps.one (show Kd.M (Kd.int .i64) _ _ _ 21 [.int .i64 21] from rfl) (Reps.one (show Kd.M (Kd.int .i64) _ _ _ 7 [.int .i64 7] from rfl) (Reps.none _ _))))); intro v114 w19 ho20 hb hg_ hnew_; clear hg_ hnew_; (first | rw [← Ny113.out] at ho20 | (simp only [Int.reduceToNat] at ho20; rw [← Ny113.out] at ho20)); have n0_ := Aside0.mk (Kd.R_lower ho20 (keep_size (w := w) (g := g) (row := none) (by repeat (first | (with_reducible first | exact HK.out | apply KeepBut.set_ | apply keep_drewN | apply keep_drew | apply keep_alloc | refine keep_far ?_ GW106.out _) | exact HK.out)))); have n1_ := Aside0.mk (IsS102.below (by repeat (first | (with_reducible first | exact HI0.out | apply IsS102.alloc | apply IsS102.drewN | apply IsS102.drew | apply IsS102.set_1 | refine IsS102.far ?_ NB0_106.out _) | exact HI0.out)) hb); have n2_ := bkB BK106 hb; have n3_ := Aside0.mk (KeepBut.trans (by repeat (first | (with_reducible first | exact HK.out | apply KeepBut.set_ | apply keep_drewN | apply keep_drew | apply keep_alloc | refine keep_far ?_ GW106.out _) | exact HK.out)) (KeepBut.of_below hb g none) (.inl rfl)); have n4_ := Aside0.mk (below_step (by repeat (first | (with_reducible first | exact HB.out | apply below_alloc | apply pw_below_drewN | apply below_drew1 | refine below_set ?_ (IsS102.ge HI0.out) | refine below_set ?_ GE106.out) | exact HB.out)) hb); clear HI0; clear BK106; clear HK; clear HB; have HO115 := n0_; have HI0 := n1_; have BK106 := n2_; have HK := n3_; have HB := n4_; clear n0_ n1_ n2_ n3_ n4_; clear hb ho20) | ((with_reducible refine gate_callee (f := 58) rfl ?_); refine goesL_ (some 17) rfl rfl Try.func58 (by kernel_rfl) rfl #[.pointer (some ⟨g, 0, none⟩), .int .i64 3] rfl (by (try simp only [List.map_toArray, List.map_cons, List.map_nil]); first | done | rfl | (simp only [List.length_drop, List.length_take]; rfl)) ?_; (with_reducible refine (spec_l20Rd_pick.calls k g s0_0 t112 3 t116 t117 w0 _ ?side1 ?side2 A6.out).mono ?_); (case side1 => repeat (first | (with_reducible first | exact HI0.out | apply IsS102.alloc | apply IsS102.drewN | apply IsS102.drew | apply IsS102.set_1 | refine IsS102.far ?_ NB0_106.out _) | exact HI0.out)); (case side2 => repeat (first | (with_reducible first | exact HB.out | apply below_alloc | apply pw_below_drewN | apply below_drew1 | refine below_set ?_ (IsS102.ge HI0.out) | refine below_set ?_ GE106.out) | exact HB.out)); rintro e w21 ⟨rfl, hi, hb, hk⟩; refine ⟨_, rfl, ?_⟩; have n0_ := Aside0.mk (KeepBut.blk hk (g' := gb106) (o := .cells #[.bool false, .int .i64 0, .int .i64 0, .int .i64 0, .int .i64 0, .int .i64 0, .int .i64 0] 24 (0, 0)) (bk BK106) NB106_0.out (by simp)); have n1_ := Aside0.mk (Kd.R_mono (Kd.R_keep (IsS102.apart (show IsS102 w0 _ g s0_0 t112 from by repeat (first | (with_reducible first | exact HI0.out | apply IsS102.alloc | apply IsS102.drewN | apply IsS102.drew | apply IsS102.set_1 | refine IsS102.far ?_ NB0_106.out _) | exact HI0.out)) (rs HO115) (by decide)) hk (fun _ h => h.2)) (fun _ h => h.1)); have n2_ := Aside0.mk (KeepBut.trans (by repeat (first | (with_reducible first | exact HK.out | apply KeepBut.set_ | apply keep_drewN | apply keep_drew | apply keep_alloc | refine keep_far ?_ GW106.out _) | exact HK.out)) hk (.inl rfl)); have n3_ := Aside0.mk (hb); have n4_ := Aside0.mk (hi); clear BK106; clear HO115; clear HK; clear HB; clear HI0; have BK106 := n0_; have HO115 := n1_; have HK := n2_; have HB := n3_; have HI0 := n4_; clear n0_ n1_ n2_ n3_ n4_; (try clear hb); (try clear hb2); (try clear hk); (try clear hi); obtain ⟨Ao22, co22, eo22⟩ := Kd.R_slice HO115.out; subst eo22; have p118 : 0 ≤ (t116 : Int) := of_decide_eq_true (by first | (with_reducible assumption) | assumption); have q118 : t116 < (y113.length : Int) := of_decide_eq_true (by first | (with_reducible assumption) | assumption); obtain ⟨ad118, e118, hx118_0⟩ := Kd.at_int (Kd.R_reads' HO115.out).2.2 t116 p118 q118; cases e118; replace p118 := eq_true p118; replace q118 := eq_true q118) | ((with_reducible refine gate_dst (N := 5) rfl ?_); refine box_event ?hg (N := 5) ?hd (cs := #[.bool false, .int .i64 0, .int .i64 0, .int .i64 0, .int .i64 0, .int .i64 0, .int .i64 0]) (t := 24) ?hr ?_; (case hd => rfl); (case hg => rfl); (case hr => first | (go_simp; done) | (go_simp; rfl)); intro gb119 hg w23 hbox hb; have n0_ := Aside0.mk (Kd.R_below (rs HO115) hb); have n1_ := Aside0.mk (IsS102.below (by repeat (first | (with_reducible first | exact HI0.out | apply IsS102.alloc | apply IsS102.drewN | apply IsS102.drew | apply IsS102.set_1 | refine IsS102.far ?_ NB0_106.out _) | exact HI0.out)) hb); have n2_ := bkB BK106 hb; have n3_ := Aside0.mk (KeepBut.trans (by repeat (first | (with_reducible first | exact HK.out | apply KeepBut.set_ | apply keep_drewN | apply keep_drew | apply keep_alloc | refine keep_far ?_ GW106.out _) | exact HK.out)) (KeepBut.of_below hb g none) (.inl rfl)); have n4_ := Aside0.mk (below_step (by repeat (first | (with_reducible first | exact HB.out | apply below_alloc | apply pw_below_drewN | apply below_drew1 | refine below_set ?_ (IsS102.ge HI0.out) | refine below_set ?_ GE106.out) | exact HB.out)) hb); have n5_ := Aside0.mk (hbox); have n6_ := Aside0.mk ((by rw [hg]; exact (keep_size (w := w) (g := g) (row := none) (by repeat (first | (with_reducible first | exact HK.out | apply KeepBut.set_ | apply keep_drewN | apply keep_drew | apply keep_alloc | refine keep_far ?_ GW106.out _) | exact HK.out))) : w.heap.size ≤ gb119)); have n7_ := Aside0.mk ((Nat.le_trans HW0.out (by rw [hg]; exact (keep_size (w := w) (g := g) (row := none) (by repeat (first | (with_reducible first | exact HK.out | apply KeepBut.set_ | apply keep_drewN | apply keep_drew | apply keep_alloc | refine keep_far ?_ GW106.out _) | exact HK.out))) : w.heap.size ≤ gb119) : w0.heap.size ≤ gb119)); have n8_ := Aside0.mk ((by rw [hg]; exact Nat.ne_of_lt (bkL BK106) : gb106 ≠ gb119)); have n9_ := Aside0.mk ((by rw [hg]; exact Nat.ne_of_gt (bkL BK106) : gb119 ≠ gb106)); have n10_ := Aside0.mk ((by rw [hg]; exact Nat.ne_of_lt (IsS102.lt (show IsS102 w0 _ g s0_0 t117 from by repeat (first | (with_reducible first | exact HI0.out | apply IsS102.alloc | apply IsS102.drewN | apply IsS102.drew | apply IsS102.set_1 | refine IsS102.far ?_ NB0_106.out _) | exact HI0.out))) : g ≠ gb119)); have n11_ := Aside0.mk ((by rw [hg]; exact Nat.ne_of_gt (IsS102.lt (show IsS102 w0 _ g s0_0 t117 from by repeat (first | (with_reducible first | exact HI0.out | apply IsS102.alloc | apply IsS102.drewN | apply IsS102.drew | apply IsS102.set_1 | refine IsS102.far ?_ NB0_106.out _) | exact HI0.out))) : gb119 ≠ g)); clear HO115; clear HI0; clear BK106; clear HK; clear HB; have HO115 := n0_; have HI0 := n1_; have BK106 := n2_; have HK := n3_; have HB := n4_; have BK119 := n5_; have GW119 := n6_; have GE119 := n7_; have NB106_119 := n8_; have NB119_106 := n9_; have NB0_119 := n10_; have NB119_0 := n11_; clear n0_ n1_ n2_ n3_ n4_ n5_ n6_ n7_ n8_ n9_ n10_ n11_; clear hb hbox hg; have hnb24 := NB119_106.out; have hnc24 := NB106_119.out; have hnb25 := NB119_0.out; have hnc25 := NB0_119.out; have hcz26_0 : w23.cell? ⟨gb119, 0, none⟩ = some (.bool false) := (blk_cell BK119.out 0).trans rfl; have hcz26_1 : w23.cell? ⟨gb119, 1, none⟩ = some (.int .i64 0) := (blk_cell BK119.out 1).trans rfl; have hcz26_2 : w23.cell? ⟨gb119, 2, none⟩ = some (.int .i64 0) := (blk_cell BK119.out 2).trans rfl; have hcz26_3 : w23.cell? ⟨gb119, 3, none⟩ = some (.int .i64 0) := (blk_cell BK119.out 3).trans rfl; have hcz26_4 : w23.cell? ⟨gb119, 4, none⟩ = some (.int .i64 0) := (blk_cell BK119.out 4).trans rfl; have hcz26_5 : w23.cell? ⟨gb119, 5, none⟩ = some (.int .i64 0) := (blk_cell BK119.out 5).trans rfl; have hcz26_6 : w23.cell? ⟨gb119, 6, none⟩ = some (.int .i64 0) := (blk_cell BK119.out 6).trans rfl; have hfz26_0 := blk_frozen BK119.out 0; have hfz26_1 := blk_frozen BK119.out 1; have hfz26_2 := blk_frozen BK119.out 2; have hfz26_3 := blk_frozen BK119.out 3; have hfz26_4 := blk_frozen BK119.out 4; have hfz26_5 := blk_frozen BK119.out 5; have hfz26_6 := blk_frozen BK119.out 6))
          have n0_ : Aside0 (Kd.R (Kd.int .i64) 3 (((((((w23.setCell ⟨gb119, 0, none⟩ (.bool (t107 == 0))).setCell ⟨gb119, 1, none⟩ (.int .i64 (wrap64 (1 + t109)))).setCell ⟨gb119, 2, none⟩ (.int .i64 0)).setCell ⟨gb119, 3, none⟩ (.int .i64 (wrap64 (100 + t111)))).setCell ⟨gb119, 4, none⟩ (.int .i64 0)).setCell ⟨gb119, 5, none⟩ (.int .i64 (rd y113 t116))).setCell ⟨gb119, 6, none⟩ (.int .i64 0)) w.heap.size (fun _ => True) (.slice (some ad118) y113.length co22) y113) := ⟨by (with_reducible repeat apply ru); exact Kd.R_mono (Kd.R_far (p := ⟨gb119, 6, none⟩) (Kd.R_far (p := ⟨gb119, 5, none⟩) (Kd.R_far (p := ⟨gb119, 4, none⟩) (Kd.R_far (p := ⟨gb119, 3, none⟩) (Kd.R_far (p := ⟨gb119, 2, none⟩) (Kd.R_far (p := ⟨gb119, 1, none⟩) (Kd.R_far (p := ⟨gb119, 0, none⟩) (Kd.R_types HO115.out BK119.out (by decide)) (fun _ hk => hk.2) (.bool (t107 == 0))) (fun _ hk => hk.2) (.int .i64 (wrap64 (1 + t109)))) (fun _ hk => hk.2) (.int .i64 0)) (fun _ hk => hk.2) (.int .i64 (wrap64 (100 + t111)))) (fun _ hk => hk.2) (.int .i64 0)) (fun _ hk => hk.2) (.int .i64 (rd y113 t116))) (fun _ hk => hk.2) (.int .i64 0)) (fun _ hk => trivial)⟩
          have n1_ : Aside0 ((((((((w23.setCell ⟨gb119, 0, none⟩ (.bool (t107 == 0))).setCell ⟨gb119, 1, none⟩ (.int .i64 (wrap64 (1 + t109)))).setCell ⟨gb119, 2, none⟩ (.int .i64 0)).setCell ⟨gb119, 3, none⟩ (.int .i64 (wrap64 (100 + t111)))).setCell ⟨gb119, 4, none⟩ (.int .i64 0)).setCell ⟨gb119, 5, none⟩ (.int .i64 (rd y113 t116))).setCell ⟨gb119, 6, none⟩ (.int .i64 0)).heap[gb106]? = some (.cells #[.bool false, .int .i64 0, .int .i64 0, .int .i64 0, .int .i64 0, .int .i64 0, .int .i64 0] 24 (0, 0))) := ⟨by (with_reducible repeat refine bu ?_); refine blk_far ?_ NB106_119.out _; (with_reducible repeat refine bu ?_); refine blk_far ?_ NB106_119.out _; (with_reducible repeat refine bu ?_); refine blk_far ?_ NB106_119.out _; (with_reducible repeat refine bu ?_); refine blk_far ?_ NB106_119.out _; (with_reducible repeat refine bu ?_); refine blk_far ?_ NB106_119.out _; (with_reducible repeat refine bu ?_); refine blk_far ?_ NB106_119.out _; (with_reducible repeat refine bu ?_); refine blk_far ?_ NB106_119.out _; (with_reducible repeat refine bu ?_); exact BK106.out⟩
          have n2_ : Aside0 ((((((((w23.setCell ⟨gb119, 0, none⟩ (.bool (t107 == 0))).setCell ⟨gb119, 1, none⟩ (.int .i64 (wrap64 (1 + t109)))).setCell ⟨gb119, 2, none⟩ (.int .i64 0)).setCell ⟨gb119, 3, none⟩ (.int .i64 (wrap64 (100 + t111)))).setCell ⟨gb119, 4, none⟩ (.int .i64 0)).setCell ⟨gb119, 5, none⟩ (.int .i64 (rd y113 t116))).setCell ⟨gb119, 6, none⟩ (.int .i64 0)).heap[gb119]? = some (.cells #[.bool (t107 == 0), .int .i64 (wrap64 (1 + t109)), .int .i64 0, .int .i64 (wrap64 (100 + t111)), .int .i64 0, .int .i64 (rd y113 t116), .int .i64 0] 24 (0, 0))) := ⟨by (with_reducible repeat refine bu ?_); refine blk_put (cs := #[.bool (t107 == 0), .int .i64 (wrap64 (1 + t109)), .int .i64 0, .int .i64 (wrap64 (100 + t111)), .int .i64 0, .int .i64 (rd y113 t116), .int .i64 0]) ?_ 6 _ rfl; (with_reducible repeat refine bu ?_); refine blk_put (cs := #[.bool (t107 == 0), .int .i64 (wrap64 (1 + t109)), .int .i64 0, .int .i64 (wrap64 (100 + t111)), .int .i64 0, .int .i64 0, .int .i64 0]) ?_ 5 _ rfl; (with_reducible repeat refine bu ?_); refine blk_put (cs := #[.bool (t107 == 0), .int .i64 (wrap64 (1 + t109)), .int .i64 0, .int .i64 (wrap64 (100 + t111)), .int .i64 0, .int .i64 0, .int .i64 0]) ?_ 4 _ rfl; (with_reducible repeat refine bu ?_); refine blk_put (cs := #[.bool (t107 == 0), .int .i64 (wrap64 (1 + t109)), .int .i64 0, .int .i64 0, .int .i64 0, .int .i64 0, .int .i64 0]) ?_ 3 _ rfl; (with_reducible repeat refine bu ?_); refine blk_put (cs := #[.bool (t107 == 0), .int .i64 (wrap64 (1 + t109)), .int .i64 0, .int .i64 0, .int .i64 0, .int .i64 0, .int .i64 0]) ?_ 2 _ rfl; (with_reducible repeat refine bu ?_); refine blk_put (cs := #[.bool (t107 == 0), .int .i64 0, .int .i64 0, .int .i64 0, .int .i64 0, .int .i64 0, .int .i64 0]) ?_ 1 _ rfl; (with_reducible repeat refine bu ?_); refine blk_put (cs := #[.bool false, .int .i64 0, .int .i64 0, .int .i64 0, .int .i64 0, .int .i64 0, .int .i64 0]) ?_ 0 _ rfl; (with_reducible repeat refine bu ?_); exact BK119.out⟩
          have n3_ : Aside0 (IsS102 w0 (((((((w23.setCell ⟨gb119, 0, none⟩ (.bool (t107 == 0))).setCell ⟨gb119, 1, none⟩ (.int .i64 (wrap64 (1 + t109)))).setCell ⟨gb119, 2, none⟩ (.int .i64 0)).setCell ⟨gb119, 3, none⟩ (.int .i64 (wrap64 (100 + t111)))).setCell ⟨gb119, 4, none⟩ (.int .i64 0)).setCell ⟨gb119, 5, none⟩ (.int .i64 (rd y113 t116))).setCell ⟨gb119, 6, none⟩ (.int .i64 0)) g s0_0 t117) := ⟨by repeat (first | (with_reducible first | exact HI0.out | apply IsS102.alloc | apply IsS102.drewN | apply IsS102.drew | apply IsS102.set_1 | refine IsS102.far ?_ NB0_106.out _ | refine IsS102.far ?_ NB0_119.out _) | exact HI0.out)⟩
          have n4_ : Aside0 (KeepBut w (((((((w23.setCell ⟨gb119, 0, none⟩ (.bool (t107 == 0))).setCell ⟨gb119, 1, none⟩ (.int .i64 (wrap64 (1 + t109)))).setCell ⟨gb119, 2, none⟩ (.int .i64 0)).setCell ⟨gb119, 3, none⟩ (.int .i64 (wrap64 (100 + t111)))).setCell ⟨gb119, 4, none⟩ (.int .i64 0)).setCell ⟨gb119, 5, none⟩ (.int .i64 (rd y113 t116))).setCell ⟨gb119, 6, none⟩ (.int .i64 0)) g none) := ⟨by repeat (first | (with_reducible first | exact HK.out | apply KeepBut.set_ | apply keep_drewN | apply keep_drew | apply keep_alloc | refine keep_far ?_ GW106.out _ | refine keep_far ?_ GW119.out _) | exact HK.out)⟩
          have n5_ : Aside0 (Below w0.heap.size w0 (((((((w23.setCell ⟨gb119, 0, none⟩ (.bool (t107 == 0))).setCell ⟨gb119, 1, none⟩ (.int .i64 (wrap64 (1 + t109)))).setCell ⟨gb119, 2, none⟩ (.int .i64 0)).setCell ⟨gb119, 3, none⟩ (.int .i64 (wrap64 (100 + t111)))).setCell ⟨gb119, 4, none⟩ (.int .i64 0)).setCell ⟨gb119, 5, none⟩ (.int .i64 (rd y113 t116))).setCell ⟨gb119, 6, none⟩ (.int .i64 0))) := ⟨by repeat (first | (with_reducible first | exact HB.out | apply below_alloc | apply pw_below_drewN | apply below_drew1 | refine below_set ?_ (IsS102.ge HI0.out) | refine below_set ?_ GE106.out | refine below_set ?_ GE119.out) | exact HB.out)⟩
          (try clear HO115)
          (try clear BK106)
          (try clear BK119)
          (try clear HI0)
          (try clear HK)
          (try clear HB)
          generalize (((((((w23.setCell ⟨gb119, 0, none⟩ (.bool (t107 == 0))).setCell ⟨gb119, 1, none⟩ (.int .i64 (wrap64 (1 + t109)))).setCell ⟨gb119, 2, none⟩ (.int .i64 0)).setCell ⟨gb119, 3, none⟩ (.int .i64 (wrap64 (100 + t111)))).setCell ⟨gb119, 4, none⟩ (.int .i64 0)).setCell ⟨gb119, 5, none⟩ (.int .i64 (rd y113 t116))).setCell ⟨gb119, 6, none⟩ (.int .i64 0)) = w27 at n0_ n1_ n2_ n3_ n4_ n5_ ⊢
          have HO115 := n0_
          have BK106 := n1_
          have BK119 := n2_
          have HI0 := n3_
          have HK := n4_
          have HB := n5_
          clear n0_ n1_ n2_ n3_ n4_ n5_
          have n0_ := Aside0.mk (Kd.R_drew HO115.out)
          have n1_ := Aside0.mk (blk_drew BK106.out)
          have n2_ := Aside0.mk (blk_drew BK119.out)
          have n3_ := Aside0.mk (IsS102.drew HI0.out)
          have n4_ := Aside0.mk (keep_drew HK.out)
          have n5_ := Aside0.mk (below_drew1 HB.out)
          clear HO115
          clear BK106
          clear BK119
          clear HI0
          clear HK
          clear HB
          have HO115 := n0_
          have BK106 := n1_
          have BK119 := n2_
          have HI0 := n3_
          have HK := n4_
          have HB := n5_
          clear n0_ n1_ n2_ n3_ n4_ n5_
          refine start_ (n := 7) (S := fun w' => w'.cell? ⟨gb119, 0, none⟩ = some (.bool (t107 == 0)) ∧ w'.cell? ⟨gb119, 1, none⟩ = some (.int .i64 (wrap64 (1 + t109))) ∧ w'.cell? ⟨gb119, 2, none⟩ = some (.int .i64 0) ∧ w'.cell? ⟨gb119, 3, none⟩ = some (.int .i64 (wrap64 (100 + t111))) ∧ w'.cell? ⟨gb119, 4, none⟩ = some (.int .i64 0) ∧ w'.cell? ⟨gb119, 5, none⟩ = some (.int .i64 (rd y113 t116)) ∧ w'.cell? ⟨gb119, 6, none⟩ = some (.int .i64 0)) (ds := [6]) #[false, false, false, false, false, false, false] (by kernel_rfl) rfl rfl ⟨(blk_cell BK119.out 0).trans rfl, (blk_cell BK119.out 1).trans rfl, (blk_cell BK119.out 2).trans rfl, (blk_cell BK119.out 3).trans rfl, (blk_cell BK119.out 4).trans rfl, (blk_cell BK119.out 5).trans rfl, (blk_cell BK119.out 6).trans rfl⟩ (fun hHeld => ?_)
          generalize w27.drew = w28 at HO115 BK106 BK119 HI0 HK HB hHeld ⊢
          refine pure_ (i := 0) (N := some 21) (v := ?_) (a' := ?_) #[true, false, false, false, false, false, false] rfl rfl (by kernel_rfl) (fun _ _ _ h => h) (Or.inl ⟨by rfl, ?_⟩) ?_ ?_
          rotate_left
          · intro w'
            go_simp
            with_reducible rfl
          rotate_left
          · simp only [Act.put, List.setIfInBounds_toArray, List.set_cons_zero, List.set_cons_succ, i64_w, i32_w]
            rfl
          refine pure_ (i := 2) (N := some 23) (v := ?_) (a' := ?_) #[true, false, true, false, false, false, false] rfl rfl (by kernel_rfl) (fun _ _ _ h => h) (Or.inl ⟨by rfl, ?_⟩) ?_ ?_
          rotate_left
          · intro w'
            go_simp
            with_reducible rfl
          rotate_left
          · simp only [Act.put, List.setIfInBounds_toArray, List.set_cons_zero, List.set_cons_succ, i64_w, i32_w]
            rfl
          refine take_ (i := 1) (N := some 22) (v := ?_) (a' := ?_) #[true, true, true, false, false, false, false] rfl rfl (by kernel_rfl) (fun _ _ _ h => h) (Or.inl ⟨by rfl, ?_⟩) hHeld ?_ ?_
          rotate_left
          · rintro w' ⟨s0, s1, s2, s3, s4, s5, s6⟩
            go_simp
            with_reducible rfl
          rotate_left
          · simp only [Act.put, List.setIfInBounds_toArray, List.set_cons_zero, List.set_cons_succ, i64_w, i32_w]
            rfl
          refine one_ (i := 3) (N := some 24) #[true, true, true, true, false, false, false] rfl rfl (by kernel_rfl) (by decide) (fun K hK => ?_)
          refine goes_ Try.func58 (by kernel_rfl) rfl #[.pointer (some ⟨g, 0, none⟩), .int .i64 3] (by rfl) rfl rfl (by (try simp only [List.map_toArray, List.map_cons, List.map_nil]); first | done | rfl | (simp only [List.length_drop, List.length_take]; rfl)) ?_
          with_reducible refine (spec_l20Rd_pick.calls k g s0_0 t117 3 t120 t121 w0 _ ?side1 ?side2 A9.out).mono ?_
          (case side1 => repeat (first | (with_reducible first | exact HI0.out | apply IsS102.alloc | apply IsS102.drewN | apply IsS102.drew | apply IsS102.set_1 | refine IsS102.far ?_ NB0_106.out _ | refine IsS102.far ?_ NB0_119.out _) | exact HI0.out))
          (case side2 => repeat (first | (with_reducible first | exact HB.out | apply below_alloc | apply pw_below_drewN | apply below_drew1 | refine below_set ?_ (IsS102.ge HI0.out) | refine below_set ?_ GE106.out | refine below_set ?_ GE119.out) | exact HB.out))
          rintro e w29 ⟨rfl, hi, hb, hk⟩
          refine ⟨_, rfl, ?_⟩
          have n0_ := Aside0.mk (KeepBut.blk hk (g' := gb106) (o := .cells #[.bool false, .int .i64 0, .int .i64 0, .int .i64 0, .int .i64 0, .int .i64 0, .int .i64 0] 24 (0, 0)) (bk BK106) NB106_0.out (by simp))
          have n1_ := Aside0.mk (Kd.R_mono (Kd.R_keep (IsS102.apart (show IsS102 w0 _ g s0_0 t117 from by repeat (first | (with_reducible first | exact HI0.out | apply IsS102.alloc | apply IsS102.drewN | apply IsS102.drew | apply IsS102.set_1 | refine IsS102.far ?_ NB0_106.out _ | refine IsS102.far ?_ NB0_119.out _) | exact HI0.out)) (rs HO115) (by decide)) hk (fun _ h => h.2)) (fun _ h => h.1))
          have n2_ := Aside0.mk (KeepBut.blk hk (g' := gb119) (o := .cells #[.bool (t107 == 0), .int .i64 (wrap64 (1 + t109)), .int .i64 0, .int .i64 (wrap64 (100 + t111)), .int .i64 0, .int .i64 (rd y113 t116), .int .i64 0] 24 (0, 0)) (bk BK119) NB119_0.out (by simp))
          have n3_ := Aside0.mk (KeepBut.trans (by repeat (first | (with_reducible first | exact HK.out | apply KeepBut.set_ | apply keep_drewN | apply keep_drew | apply keep_alloc | refine keep_far ?_ GW106.out _ | refine keep_far ?_ GW119.out _) | exact HK.out)) hk (.inl rfl))
          have n4_ := Aside0.mk (hb)
          have n5_ := Aside0.mk (hi)
          clear BK106
          clear HO115
          clear BK119
          clear HK
          clear HB
          clear HI0
          have BK106 := n0_
          have HO115 := n1_
          have BK119 := n2_
          have HK := n3_
          have HB := n4_
          have HI0 := n5_
          clear n0_ n1_ n2_ n3_ n4_ n5_
          (try clear hb)
          (try clear hb2)
          (try clear hk)
          (try clear hi)
          refine hK.out _ _ ⟨(blk_cell BK119.out 0).trans rfl, (blk_cell BK119.out 1).trans rfl, (blk_cell BK119.out 2).trans rfl, (blk_cell BK119.out 3).trans rfl, (blk_cell BK119.out 4).trans rfl, (blk_cell BK119.out 5).trans rfl, (blk_cell BK119.out 6).trans rfl⟩ (fun hHeld => ?_)
          clear hK K
          refine norm_ (a' := ?_) ?_ ?_
          rotate_left
          · show Act.put _ (some 24) _ = _
            simp only [Act.put, List.setIfInBounds_toArray, List.set_cons_zero, List.set_cons_succ, i64_w, i32_w]
            rfl
          refine pure_ (i := 4) (N := some 25) (v := ?_) (a' := ?_) #[true, true, true, true, true, false, false] rfl rfl (by kernel_rfl) (fun _ _ _ h => h) (Or.inl ⟨by rfl, ?_⟩) ?_ ?_
          rotate_left
          · intro w'
            go_simp
            with_reducible rfl
          rotate_left
          · simp only [Act.put, List.setIfInBounds_toArray, List.set_cons_zero, List.set_cons_succ, i64_w, i32_w]
            rfl
          refine pure_ (i := 5) (N := some 26) (v := ?_) (a' := ?_) #[true, true, true, true, true, true, false] rfl rfl (by kernel_rfl) (fun _ _ _ h => h) (Or.inl ⟨by rfl, ?_⟩) ?_ ?_
          rotate_left
          · intro w'
            go_simp
            with_reducible rfl
          rotate_left
          · simp only [Act.put, List.setIfInBounds_toArray, List.set_cons_zero, List.set_cons_succ, i64_w, i32_w]
            rfl
          refine last_ (i := 6) (N := none) #[true, true, true, true, true, true, true] rfl rfl (by kernel_rfl) (by decide) (fun K hK => ?_)
          have hs30 : w29.cell? ⟨gb119, 2, none⟩ = some (.int .i64 0) := (blk_cell BK119.out 2).trans rfl
          have hfs30 := blk_frozen BK119.out 2
          have hns30_0 := NB106_119.out
          have hms30_0 := NB119_106.out
          refine skip_ (w1 := ?_) (by rfl) rfl ?_ ?_
          rotate_left
          · go_simp
            rfl
          refine hK.out _ _ ?_
          clear hK K
          refine done_ (by kernel_rfl) ?_
          try go_wp2
          have n0_ : Aside0 (Kd.R (Kd.int .i64) 3 (w29.setCell ⟨gb119, 2, none⟩ (.int .i64 (wrap64 ((wrap64 (1 + t109)) + t120)))) w.heap.size (fun _ => True) (.slice (some ad118) y113.length co22) y113) := ⟨by (with_reducible repeat apply ru); exact Kd.R_mono (Kd.R_far (p := ⟨gb119, 2, none⟩) (Kd.R_types HO115.out BK119.out (by decide)) (fun _ hk => hk.2) (.int .i64 (wrap64 ((wrap64 (1 + t109)) + t120)))) (fun _ hk => trivial)⟩
          have n1_ : Aside0 ((w29.setCell ⟨gb119, 2, none⟩ (.int .i64 (wrap64 ((wrap64 (1 + t109)) + t120)))).heap[gb106]? = some (.cells #[.bool false, .int .i64 0, .int .i64 0, .int .i64 0, .int .i64 0, .int .i64 0, .int .i64 0] 24 (0, 0))) := ⟨by (with_reducible repeat refine bu ?_); refine blk_far ?_ NB106_119.out _; (with_reducible repeat refine bu ?_); exact BK106.out⟩
          have n2_ : Aside0 ((w29.setCell ⟨gb119, 2, none⟩ (.int .i64 (wrap64 ((wrap64 (1 + t109)) + t120)))).heap[gb119]? = some (.cells #[.bool (t107 == 0), .int .i64 (wrap64 (1 + t109)), .int .i64 (wrap64 ((wrap64 (1 + t109)) + t120)), .int .i64 (wrap64 (100 + t111)), .int .i64 0, .int .i64 (rd y113 t116), .int .i64 0] 24 (0, 0))) := ⟨by (with_reducible repeat refine bu ?_); refine blk_put (cs := #[.bool (t107 == 0), .int .i64 (wrap64 (1 + t109)), .int .i64 0, .int .i64 (wrap64 (100 + t111)), .int .i64 0, .int .i64 (rd y113 t116), .int .i64 0]) ?_ 2 _ rfl; (with_reducible repeat refine bu ?_); exact BK119.out⟩
          have n3_ : Aside0 (IsS102 w0 (w29.setCell ⟨gb119, 2, none⟩ (.int .i64 (wrap64 ((wrap64 (1 + t109)) + t120)))) g s0_0 t121) := ⟨by repeat (first | (with_reducible first | exact HI0.out | apply IsS102.alloc | apply IsS102.drewN | apply IsS102.drew | apply IsS102.set_1 | refine IsS102.far ?_ NB0_106.out _ | refine IsS102.far ?_ NB0_119.out _) | exact HI0.out)⟩
          have n4_ : Aside0 (KeepBut w (w29.setCell ⟨gb119, 2, none⟩ (.int .i64 (wrap64 ((wrap64 (1 + t109)) + t120)))) g none) := ⟨by repeat (first | (with_reducible first | exact HK.out | apply KeepBut.set_ | apply keep_drewN | apply keep_drew | apply keep_alloc | refine keep_far ?_ GW106.out _ | refine keep_far ?_ GW119.out _) | exact HK.out)⟩
          have n5_ : Aside0 (Below w0.heap.size w0 (w29.setCell ⟨gb119, 2, none⟩ (.int .i64 (wrap64 ((wrap64 (1 + t109)) + t120))))) := ⟨by repeat (first | (with_reducible first | exact HB.out | apply below_alloc | apply pw_below_drewN | apply below_drew1 | refine below_set ?_ (IsS102.ge HI0.out) | refine below_set ?_ GE106.out | refine below_set ?_ GE119.out) | exact HB.out)⟩
          (try clear HO115)
          (try clear BK106)
          (try clear BK119)
          (try clear HI0)
          (try clear HK)
          (try clear HB)
          generalize (w29.setCell ⟨gb119, 2, none⟩ (.int .i64 (wrap64 ((wrap64 (1 + t109)) + t120)))) = w31 at n0_ n1_ n2_ n3_ n4_ n5_ ⊢
          have HO115 := n0_
          have BK106 := n1_
          have BK119 := n2_
          have HI0 := n3_
          have HK := n4_
          have HB := n5_
          clear n0_ n1_ n2_ n3_ n4_ n5_
          have n0_ := Aside0.mk (Kd.R_drew HO115.out)
          have n1_ := Aside0.mk (blk_drew BK106.out)
          have n2_ := Aside0.mk (blk_drew BK119.out)
          have n3_ := Aside0.mk (IsS102.drew HI0.out)
          have n4_ := Aside0.mk (keep_drew HK.out)
          have n5_ := Aside0.mk (below_drew1 HB.out)
          clear HO115
          clear BK106
          clear BK119
          clear HI0
          clear HK
          clear HB
          have HO115 := n0_
          have BK106 := n1_
          have BK119 := n2_
          have HI0 := n3_
          have HK := n4_
          have HB := n5_
          clear n0_ n1_ n2_ n3_ n4_ n5_
          refine start_ (n := 7) (S := fun w' => w'.cell? ⟨gb119, 0, none⟩ = some (.bool (t107 == 0)) ∧ w'.cell? ⟨gb119, 1, none⟩ = some (.int .i64 (wrap64 (1 + t109))) ∧ w'.cell? ⟨gb119, 2, none⟩ = some (.int .i64 (wrap64 ((wrap64 (1 + t109)) + t120))) ∧ w'.cell? ⟨gb119, 3, none⟩ = some (.int .i64 (wrap64 (100 + t111))) ∧ w'.cell? ⟨gb119, 4, none⟩ = some (.int .i64 0) ∧ w'.cell? ⟨gb119, 5, none⟩ = some (.int .i64 (rd y113 t116)) ∧ w'.cell? ⟨gb119, 6, none⟩ = some (.int .i64 0)) (ds := [6]) #[false, false, false, false, false, false, false] (by kernel_rfl) rfl rfl ⟨(blk_cell BK119.out 0).trans rfl, (blk_cell BK119.out 1).trans rfl, (blk_cell BK119.out 2).trans rfl, (blk_cell BK119.out 3).trans rfl, (blk_cell BK119.out 4).trans rfl, (blk_cell BK119.out 5).trans rfl, (blk_cell BK119.out 6).trans rfl⟩ (fun hHeld => ?_)
          generalize w31.drew = w32 at HO115 BK106 BK119 HI0 HK HB hHeld ⊢
          refine pure_ (i := 0) (N := some 27) (v := ?_) (a' := ?_) #[true, false, false, false, false, false, false] rfl rfl (by kernel_rfl) (fun _ _ _ h => h) (Or.inl ⟨by rfl, ?_⟩) ?_ ?_
          rotate_left
          · intro w'
            go_simp
            with_reducible rfl
          rotate_left
          · simp only [Act.put, List.setIfInBounds_toArray, List.set_cons_zero, List.set_cons_succ, i64_w, i32_w]
            rfl
          refine pure_ (i := 2) (N := some 29) (v := ?_) (a' := ?_) #[true, false, true, false, false, false, false] rfl rfl (by kernel_rfl) (fun _ _ _ h => h) (Or.inl ⟨by rfl, ?_⟩) ?_ ?_
          rotate_left
          · intro w'
            go_simp
            with_reducible rfl
          rotate_left
          · simp only [Act.put, List.setIfInBounds_toArray, List.set_cons_zero, List.set_cons_succ, i64_w, i32_w]
            rfl
          refine take_ (i := 1) (N := some 28) (v := ?_) (a' := ?_) #[true, true, true, false, false, false, false] rfl rfl (by kernel_rfl) (fun _ _ _ h => h) (Or.inl ⟨by rfl, ?_⟩) hHeld ?_ ?_
          rotate_left
          · rintro w' ⟨s0, s1, s2, s3, s4, s5, s6⟩
            go_simp
            with_reducible rfl
          rotate_left
          · simp only [Act.put, List.setIfInBounds_toArray, List.set_cons_zero, List.set_cons_succ, i64_w, i32_w]
            rfl
          refine one_ (i := 3) (N := some 30) #[true, true, true, true, false, false, false] rfl rfl (by kernel_rfl) (by decide) (fun K hK => ?_)
          refine goes_ Try.func58 (by kernel_rfl) rfl #[.pointer (some ⟨g, 0, none⟩), .int .i64 3] (by rfl) rfl rfl (by (try simp only [List.map_toArray, List.map_cons, List.map_nil]); first | done | rfl | (simp only [List.length_drop, List.length_take]; rfl)) ?_
          with_reducible refine (spec_l20Rd_pick.calls k g s0_0 t121 3 t122 t123 w0 _ ?side1 ?side2 A10.out).mono ?_
          (case side1 => repeat (first | (with_reducible first | exact HI0.out | apply IsS102.alloc | apply IsS102.drewN | apply IsS102.drew | apply IsS102.set_1 | refine IsS102.far ?_ NB0_106.out _ | refine IsS102.far ?_ NB0_119.out _) | exact HI0.out))
          (case side2 => repeat (first | (with_reducible first | exact HB.out | apply below_alloc | apply pw_below_drewN | apply below_drew1 | refine below_set ?_ (IsS102.ge HI0.out) | refine below_set ?_ GE106.out | refine below_set ?_ GE119.out) | exact HB.out))
          rintro e w33 ⟨rfl, hi, hb, hk⟩
          refine ⟨_, rfl, ?_⟩
          have n0_ := Aside0.mk (KeepBut.blk hk (g' := gb106) (o := .cells #[.bool false, .int .i64 0, .int .i64 0, .int .i64 0, .int .i64 0, .int .i64 0, .int .i64 0] 24 (0, 0)) (bk BK106) NB106_0.out (by simp))
          have n1_ := Aside0.mk (Kd.R_mono (Kd.R_keep (IsS102.apart (show IsS102 w0 _ g s0_0 t121 from by repeat (first | (with_reducible first | exact HI0.out | apply IsS102.alloc | apply IsS102.drewN | apply IsS102.drew | apply IsS102.set_1 | refine IsS102.far ?_ NB0_106.out _ | refine IsS102.far ?_ NB0_119.out _) | exact HI0.out)) (rs HO115) (by decide)) hk (fun _ h => h.2)) (fun _ h => h.1))
          have n2_ := Aside0.mk (KeepBut.blk hk (g' := gb119) (o := .cells #[.bool (t107 == 0), .int .i64 (wrap64 (1 + t109)), .int .i64 (wrap64 ((wrap64 (1 + t109)) + t120)), .int .i64 (wrap64 (100 + t111)), .int .i64 0, .int .i64 (rd y113 t116), .int .i64 0] 24 (0, 0)) (bk BK119) NB119_0.out (by simp))
          have n3_ := Aside0.mk (KeepBut.trans (by repeat (first | (with_reducible first | exact HK.out | apply KeepBut.set_ | apply keep_drewN | apply keep_drew | apply keep_alloc | refine keep_far ?_ GW106.out _ | refine keep_far ?_ GW119.out _) | exact HK.out)) hk (.inl rfl))
          have n4_ := Aside0.mk (hb)
          have n5_ := Aside0.mk (hi)
          clear BK106
          clear HO115
          clear BK119
          clear HK
          clear HB
          clear HI0
          have BK106 := n0_
          have HO115 := n1_
          have BK119 := n2_
          have HK := n3_
          have HB := n4_
          have HI0 := n5_
          clear n0_ n1_ n2_ n3_ n4_ n5_
          (try clear hb)
          (try clear hb2)
          (try clear hk)
          (try clear hi)
          refine hK.out _ _ ⟨(blk_cell BK119.out 0).trans rfl, (blk_cell BK119.out 1).trans rfl, (blk_cell BK119.out 2).trans rfl, (blk_cell BK119.out 3).trans rfl, (blk_cell BK119.out 4).trans rfl, (blk_cell BK119.out 5).trans rfl, (blk_cell BK119.out 6).trans rfl⟩ (fun hHeld => ?_)
          clear hK K
          refine norm_ (a' := ?_) ?_ ?_
          rotate_left
          · show Act.put _ (some 30) _ = _
            simp only [Act.put, List.setIfInBounds_toArray, List.set_cons_zero, List.set_cons_succ, i64_w, i32_w]
            rfl
          refine pure_ (i := 4) (N := some 31) (v := ?_) (a' := ?_) #[true, true, true, true, true, false, false] rfl rfl (by kernel_rfl) (fun _ _ _ h => h) (Or.inl ⟨by rfl, ?_⟩) ?_ ?_
          rotate_left
          · intro w'
            go_simp
            with_reducible rfl
          rotate_left
          · simp only [Act.put, List.setIfInBounds_toArray, List.set_cons_zero, List.set_cons_succ, i64_w, i32_w]
            rfl
          refine pure_ (i := 5) (N := some 32) (v := ?_) (a' := ?_) #[true, true, true, true, true, true, false] rfl rfl (by kernel_rfl) (fun _ _ _ h => h) (Or.inl ⟨by rfl, ?_⟩) ?_ ?_
          rotate_left
          · intro w'
            go_simp
            with_reducible rfl
          rotate_left
          · simp only [Act.put, List.setIfInBounds_toArray, List.set_cons_zero, List.set_cons_succ, i64_w, i32_w]
            rfl
          refine last_ (i := 6) (N := none) #[true, true, true, true, true, true, true] rfl rfl (by kernel_rfl) (by decide) (fun K hK => ?_)
          have hs34 : w33.cell? ⟨gb119, 4, none⟩ = some (.int .i64 0) := (blk_cell BK119.out 4).trans rfl
          have hfs34 := blk_frozen BK119.out 4
          have hns34_0 := NB106_119.out
          have hms34_0 := NB119_106.out
          refine skip_ (w1 := ?_) (by rfl) rfl ?_ ?_
          rotate_left
          · go_simp
            rfl
          refine hK.out _ _ ?_
          clear hK K
          refine done_ (by kernel_rfl) ?_
          try go_wp2
          have pi129 : (0 ≤ (t127 : Int)) = True := eq_true (of_decide_eq_true (by first | (with_reducible assumption) | assumption))
          have qi129 : (t127 < (y124.length : Int)) = True := eq_true (of_decide_eq_true (by first | (with_reducible assumption) | assumption))
          have n0_ : Aside0 (Kd.R (Kd.int .i64) 3 (w33.setCell ⟨gb119, 4, none⟩ (.int .i64 (wrap64 ((wrap64 (100 + t111)) + t122)))) w.heap.size (fun _ => True) (.slice (some ad118) y113.length co22) y113) := ⟨by (with_reducible repeat apply ru); exact Kd.R_mono (Kd.R_far (p := ⟨gb119, 4, none⟩) (Kd.R_types HO115.out BK119.out (by decide)) (fun _ hk => hk.2) (.int .i64 (wrap64 ((wrap64 (100 + t111)) + t122)))) (fun _ hk => trivial)⟩
          have n1_ : Aside0 ((w33.setCell ⟨gb119, 4, none⟩ (.int .i64 (wrap64 ((wrap64 (100 + t111)) + t122)))).heap[gb106]? = some (.cells #[.bool false, .int .i64 0, .int .i64 0, .int .i64 0, .int .i64 0, .int .i64 0, .int .i64 0] 24 (0, 0))) := ⟨by (with_reducible repeat refine bu ?_); refine blk_far ?_ NB106_119.out _; (with_reducible repeat refine bu ?_); exact BK106.out⟩
          have n2_ : Aside0 ((w33.setCell ⟨gb119, 4, none⟩ (.int .i64 (wrap64 ((wrap64 (100 + t111)) + t122)))).heap[gb119]? = some (.cells #[.bool (t107 == 0), .int .i64 (wrap64 (1 + t109)), .int .i64 (wrap64 ((wrap64 (1 + t109)) + t120)), .int .i64 (wrap64 (100 + t111)), .int .i64 (wrap64 ((wrap64 (100 + t111)) + t122)), .int .i64 (rd y113 t116), .int .i64 0] 24 (0, 0))) := ⟨by (with_reducible repeat refine bu ?_); refine blk_put (cs := #[.bool (t107 == 0), .int .i64 (wrap64 (1 + t109)), .int .i64 (wrap64 ((wrap64 (1 + t109)) + t120)), .int .i64 (wrap64 (100 + t111)), .int .i64 0, .int .i64 (rd y113 t116), .int .i64 0]) ?_ 4 _ rfl; (with_reducible repeat refine bu ?_); exact BK119.out⟩
          have n3_ : Aside0 (IsS102 w0 (w33.setCell ⟨gb119, 4, none⟩ (.int .i64 (wrap64 ((wrap64 (100 + t111)) + t122)))) g s0_0 t123) := ⟨by repeat (first | (with_reducible first | exact HI0.out | apply IsS102.alloc | apply IsS102.drewN | apply IsS102.drew | apply IsS102.set_1 | refine IsS102.far ?_ NB0_106.out _ | refine IsS102.far ?_ NB0_119.out _) | exact HI0.out)⟩
          have n4_ : Aside0 (KeepBut w (w33.setCell ⟨gb119, 4, none⟩ (.int .i64 (wrap64 ((wrap64 (100 + t111)) + t122)))) g none) := ⟨by repeat (first | (with_reducible first | exact HK.out | apply KeepBut.set_ | apply keep_drewN | apply keep_drew | apply keep_alloc | refine keep_far ?_ GW106.out _ | refine keep_far ?_ GW119.out _) | exact HK.out)⟩
          have n5_ : Aside0 (Below w0.heap.size w0 (w33.setCell ⟨gb119, 4, none⟩ (.int .i64 (wrap64 ((wrap64 (100 + t111)) + t122))))) := ⟨by repeat (first | (with_reducible first | exact HB.out | apply below_alloc | apply pw_below_drewN | apply below_drew1 | refine below_set ?_ (IsS102.ge HI0.out) | refine below_set ?_ GE106.out | refine below_set ?_ GE119.out) | exact HB.out)⟩
          (try clear HO115)
          (try clear BK106)
          (try clear BK119)
          (try clear HI0)
          (try clear HK)
          (try clear HB)
          generalize (w33.setCell ⟨gb119, 4, none⟩ (.int .i64 (wrap64 ((wrap64 (100 + t111)) + t122)))) = w35 at n0_ n1_ n2_ n3_ n4_ n5_ ⊢
          have HO115 := n0_
          have BK106 := n1_
          have BK119 := n2_
          have HI0 := n3_
          have HK := n4_
          have HB := n5_
          clear n0_ n1_ n2_ n3_ n4_ n5_
          have n0_ := Aside0.mk (Kd.R_drew HO115.out)
          have n1_ := Aside0.mk (blk_drew BK106.out)
          have n2_ := Aside0.mk (blk_drew BK119.out)
          have n3_ := Aside0.mk (IsS102.drew HI0.out)
          have n4_ := Aside0.mk (keep_drew HK.out)
          have n5_ := Aside0.mk (below_drew1 HB.out)
          clear HO115
          clear BK106
          clear BK119
          clear HI0
          clear HK
          clear HB
          have HO115 := n0_
          have BK106 := n1_
          have BK119 := n2_
          have HI0 := n3_
          have HK := n4_
          have HB := n5_
          clear n0_ n1_ n2_ n3_ n4_ n5_
          refine start_ (n := 9) (S := fun w' => w'.cell? ⟨gb119, 0, none⟩ = some (.bool (t107 == 0)) ∧ w'.cell? ⟨gb119, 1, none⟩ = some (.int .i64 (wrap64 (1 + t109))) ∧ w'.cell? ⟨gb119, 2, none⟩ = some (.int .i64 (wrap64 ((wrap64 (1 + t109)) + t120))) ∧ w'.cell? ⟨gb119, 3, none⟩ = some (.int .i64 (wrap64 (100 + t111))) ∧ w'.cell? ⟨gb119, 4, none⟩ = some (.int .i64 (wrap64 ((wrap64 (100 + t111)) + t122))) ∧ w'.cell? ⟨gb119, 5, none⟩ = some (.int .i64 (rd y113 t116)) ∧ w'.cell? ⟨gb119, 6, none⟩ = some (.int .i64 0)) (ds := [8]) #[false, false, false, false, false, false, false, false, false] (by kernel_rfl) rfl rfl ⟨(blk_cell BK119.out 0).trans rfl, (blk_cell BK119.out 1).trans rfl, (blk_cell BK119.out 2).trans rfl, (blk_cell BK119.out 3).trans rfl, (blk_cell BK119.out 4).trans rfl, (blk_cell BK119.out 5).trans rfl, (blk_cell BK119.out 6).trans rfl⟩ (fun hHeld => ?_); refine with_tabW spec_l20Rule.tab4 spec_l20Rule.bits4 (fun HT_ HW_ => ?_)
          generalize w35.drew = w36 at HO115 BK106 BK119 HI0 HK HB hHeld ⊢
          refine pure_ (i := 0) (N := some 33) (v := ?_) (a' := ?_) #[true, false, false, false, false, false, false, false, false] rfl rfl (any_of HT_.out (by kernel_rfl)) (fun _ _ _ h => h) (Or.inl ⟨by rfl, ?_⟩) ?_ ?_
          rotate_left
          · intro w'
            go_simp
            with_reducible rfl
          rotate_left
          · simp only [Act.put, List.setIfInBounds_toArray, List.set_cons_zero, List.set_cons_succ, i64_w, i32_w]
            rfl
          refine pure_ (i := 3) (N := some 36) (v := ?_) (a' := ?_) #[true, false, false, true, false, false, false, false, false] rfl rfl (any_of HT_.out (by kernel_rfl)) (fun _ _ _ h => h) (Or.inl ⟨by rfl, ?_⟩) ?_ ?_
          rotate_left
          · intro w'
            go_simp
            with_reducible rfl
          rotate_left
          · simp only [Act.put, List.setIfInBounds_toArray, List.set_cons_zero, List.set_cons_succ, i64_w, i32_w]
            rfl
          refine take_ (i := 1) (N := some 34) (v := ?_) (a' := ?_) #[true, true, false, true, false, false, false, false, false] rfl rfl (take_ofW HT_.out HW_.out (by kernel_rfl)) (fun _ _ _ h => h) (Or.inl ⟨by rfl, ?_⟩) hHeld ?_ ?_
          rotate_left
          · rintro w' ⟨s0, s1, s2, s3, s4, s5, s6⟩
            go_simp
            with_reducible rfl
          rotate_left
          · simp only [Act.put, List.setIfInBounds_toArray, List.set_cons_zero, List.set_cons_succ, i64_w, i32_w]
            rfl
          refine join_ (σ := Value × Addr) 4 #[true, true, true, true, true, false, false, false, false] (fun s_ => [(35, s_.1), (37, .int .i64 t127)]) (fun s_ w' => (w'.cell? ⟨gb119, 0, none⟩ = some (.bool (t107 == 0)) ∧ w'.cell? ⟨gb119, 1, none⟩ = some (.int .i64 (wrap64 (1 + t109))) ∧ w'.cell? ⟨gb119, 2, none⟩ = some (.int .i64 (wrap64 ((wrap64 (1 + t109)) + t120))) ∧ w'.cell? ⟨gb119, 3, none⟩ = some (.int .i64 (wrap64 (100 + t111))) ∧ w'.cell? ⟨gb119, 4, none⟩ = some (.int .i64 (wrap64 ((wrap64 (100 + t111)) + t122))) ∧ w'.cell? ⟨gb119, 5, none⟩ = some (.int .i64 (rd y113 t116)) ∧ w'.cell? ⟨gb119, 6, none⟩ = some (.int .i64 0)) ∧ (Kd.R (Kd.int .i64) 3 w' w.heap.size (fun k_ => some k_ ≠ (s_.1 : Value).ownBlock) (.slice (some ad118) y113.length co22) y113) ∧ (Kd.R (Kd.int .i64) 3 w' w.heap.size (fun k_ => some k_ ≠ (.slice (some ad118) y113.length co22 : Value).ownBlock) s_.1 y124) ∧ (∃ c_, (s_.1 : Value) = .slice (some s_.2) y124.length c_) ∧ (w'.heap[gb106]? = some (.cells #[.bool false, .int .i64 0, .int .i64 0, .int .i64 0, .int .i64 0, .int .i64 0, .int .i64 0] 24 (0, 0))) ∧ (w'.heap[gb119]? = some (.cells #[.bool (t107 == 0), .int .i64 (wrap64 (1 + t109)), .int .i64 (wrap64 ((wrap64 (1 + t109)) + t120)), .int .i64 (wrap64 (100 + t111)), .int .i64 (wrap64 ((wrap64 (100 + t111)) + t122)), .int .i64 (rd y113 t116), .int .i64 0] 24 (0, 0))) ∧ (IsS102 w0 w' g s0_0 t128) ∧ (KeepBut w w' g none) ∧ (Below w0.heap.size w0 w')) ?_ ?_
          rotate_left
          · intro hCont
            refine two_ (i := 2) (j := 4) (Ni := some 35) (Nj := some 37) #[true, true, true, true, false, false, false, false, false] #[true, true, false, true, true, false, false, false, false] rfl rfl rfl rfl (two_of HT_.out (by kernel_rfl)) (by decide) (by decide) (fun K hK => ?_) (fun K hK => ?_)
            · skip
              refine Kd.R_lit_step (Kd.int .i64) _ 3 ?hg (N := 35) ?hd (xs := ([999, 21, rd y113 t116] : List Int)) (inner := [.int .i64 999, .int .i64 21, .int .i64 (rd y113 t116)]) (ok := fun _ => True) (okp := fun _ => True) ?hr ?hp (fun _ hk => hk) trivial (Below.refl _ _) (Nat.le_refl _) (by simp) ?_; (case hd => rfl); (case hg => rfl); (case hr => first | (go_simp; done) | (go_simp; rfl)); (case hp => exact (Reps.one (show Kd.M (Kd.int .i64) _ _ _ 999 [.int .i64 999] from rfl) (Reps.one (show Kd.M (Kd.int .i64) _ _ _ 21 [.int .i64 21] from rfl) (Reps.one (show Kd.M (Kd.int .i64) _ _ _ (rd y113 t116) [.int .i64 (rd y113 t116)] from rfl) (Reps.none _ _)))))
              intro v125 w37 ho38 hb hg_ hnew_
              clear hg_ hnew_
              (first | rw [← Ny124.out] at ho38 | (simp only [Int.reduceToNat] at ho38; rw [← Ny124.out] at ho38))
              have n0_ := Aside0.mk (Kd.R_elder' (rs HO115) (Kd.R_base ho38) hb)
              have n1_ := Aside0.mk (Kd.R_lower (Kd.R_new' ho38 (Kd.R_lt (rs HO115))) (keep_size (w := w) (g := g) (row := none) (by repeat (first | (with_reducible first | exact HK.out | apply KeepBut.set_ | apply keep_drewN | apply keep_drew | apply keep_alloc | refine keep_far ?_ GW106.out _ | refine keep_far ?_ GW119.out _) | exact HK.out))))
              have n2_ := Aside0.mk (IsS102.below (by repeat (first | (with_reducible first | exact HI0.out | apply IsS102.alloc | apply IsS102.drewN | apply IsS102.drew | apply IsS102.set_1 | refine IsS102.far ?_ NB0_106.out _ | refine IsS102.far ?_ NB0_119.out _) | exact HI0.out)) hb)
              have n3_ := bkB BK106 hb
              have n4_ := bkB BK119 hb
              have n5_ := Aside0.mk (KeepBut.trans (by repeat (first | (with_reducible first | exact HK.out | apply KeepBut.set_ | apply keep_drewN | apply keep_drew | apply keep_alloc | refine keep_far ?_ GW106.out _ | refine keep_far ?_ GW119.out _) | exact HK.out)) (KeepBut.of_below hb g none) (.inl rfl))
              have n6_ := Aside0.mk (below_step (by repeat (first | (with_reducible first | exact HB.out | apply below_alloc | apply pw_below_drewN | apply below_drew1 | refine below_set ?_ (IsS102.ge HI0.out) | refine below_set ?_ GE106.out | refine below_set ?_ GE119.out) | exact HB.out)) hb)
              clear HO115
              clear HI0
              clear BK106
              clear BK119
              clear HK
              clear HB
              have HO115 := n0_
              have HO126 := n1_
              have HI0 := n2_
              have BK106 := n3_
              have BK119 := n4_
              have HK := n5_
              have HB := n6_
              clear n0_ n1_ n2_ n3_ n4_ n5_ n6_
              clear hb ho38
              obtain ⟨Ao39, co39, eo39⟩ := Kd.R_slice HO126.out
              subst eo39
              obtain ⟨ado39, fo39, _⟩ := Kd.at_int (Kd.R_reads' HO126.out).2.2 0 (by decide) (by rw [Ny124.out]; simp)
              cases fo39
              refine hK.out _ _ ⟨(blk_cell BK119.out 0).trans rfl, (blk_cell BK119.out 1).trans rfl, (blk_cell BK119.out 2).trans rfl, (blk_cell BK119.out 3).trans rfl, (blk_cell BK119.out 4).trans rfl, (blk_cell BK119.out 5).trans rfl, (blk_cell BK119.out 6).trans rfl⟩ (fun hHeld => ?_)
              clear hK K
              refine norm_ (a' := ?_) ?_ ?_
              rotate_left
              · show Act.put _ (some 35) _ = _
                simp only [Act.put, List.setIfInBounds_toArray, List.set_cons_zero, List.set_cons_succ, i64_w, i32_w]
                rfl
              refine one_ (i := 4) (N := some 37) #[true, true, true, true, true, false, false, false, false] rfl rfl (one_of HT_.out (by kernel_rfl)) (by decide) (fun K hK => ?_)
              refine goes_ Try.func58 (by kernel_rfl) rfl #[.pointer (some ⟨g, 0, none⟩), .int .i64 3] (by rfl) rfl rfl (by (try simp only [List.map_toArray, List.map_cons, List.map_nil]); first | done | rfl | (simp only [List.length_drop, List.length_take]; rfl)) ?_
              with_reducible refine (spec_l20Rd_pick.calls k g s0_0 t123 3 t127 t128 w0 _ ?side1 ?side2 A11.out).mono ?_
              (case side1 => repeat (first | (with_reducible first | exact HI0.out | apply IsS102.alloc | apply IsS102.drewN | apply IsS102.drew | apply IsS102.set_1 | refine IsS102.far ?_ NB0_106.out _ | refine IsS102.far ?_ NB0_119.out _) | exact HI0.out))
              (case side2 => repeat (first | (with_reducible first | exact HB.out | apply below_alloc | apply pw_below_drewN | apply below_drew1 | refine below_set ?_ (IsS102.ge HI0.out) | refine below_set ?_ GE106.out | refine below_set ?_ GE119.out) | exact HB.out))
              rintro e w40 ⟨rfl, hi, hb, hk⟩
              refine ⟨_, rfl, ?_⟩
              have n0_ := Aside0.mk (KeepBut.blk hk (g' := gb106) (o := .cells #[.bool false, .int .i64 0, .int .i64 0, .int .i64 0, .int .i64 0, .int .i64 0, .int .i64 0] 24 (0, 0)) (bk BK106) NB106_0.out (by simp))
              have n1_ := Aside0.mk (Kd.R_mono (Kd.R_keep (IsS102.apart (show IsS102 w0 _ g s0_0 t123 from by repeat (first | (with_reducible first | exact HI0.out | apply IsS102.alloc | apply IsS102.drewN | apply IsS102.drew | apply IsS102.set_1 | refine IsS102.far ?_ NB0_106.out _ | refine IsS102.far ?_ NB0_119.out _) | exact HI0.out)) (rs HO115) (by decide)) hk (fun _ h => h.2)) (fun _ h => h.1))
              have n2_ := Aside0.mk (KeepBut.blk hk (g' := gb119) (o := .cells #[.bool (t107 == 0), .int .i64 (wrap64 (1 + t109)), .int .i64 (wrap64 ((wrap64 (1 + t109)) + t120)), .int .i64 (wrap64 (100 + t111)), .int .i64 (wrap64 ((wrap64 (100 + t111)) + t122)), .int .i64 (rd y113 t116), .int .i64 0] 24 (0, 0)) (bk BK119) NB119_0.out (by simp))
              have n3_ := Aside0.mk (Kd.R_mono (Kd.R_keep (IsS102.apart (show IsS102 w0 _ g s0_0 t123 from by repeat (first | (with_reducible first | exact HI0.out | apply IsS102.alloc | apply IsS102.drewN | apply IsS102.drew | apply IsS102.set_1 | refine IsS102.far ?_ NB0_106.out _ | refine IsS102.far ?_ NB0_119.out _) | exact HI0.out)) (rs HO126) (by decide)) hk (fun _ h => h.2)) (fun _ h => h.1))
              have n4_ := Aside0.mk (KeepBut.trans (by repeat (first | (with_reducible first | exact HK.out | apply KeepBut.set_ | apply keep_drewN | apply keep_drew | apply keep_alloc | refine keep_far ?_ GW106.out _ | refine keep_far ?_ GW119.out _) | exact HK.out)) hk (.inl rfl))
              have n5_ := Aside0.mk (hb)
              have n6_ := Aside0.mk (hi)
              clear BK106
              clear HO115
              clear BK119
              clear HO126
              clear HK
              clear HB
              clear HI0
              have BK106 := n0_
              have HO115 := n1_
              have BK119 := n2_
              have HO126 := n3_
              have HK := n4_
              have HB := n5_
              have HI0 := n6_
              clear n0_ n1_ n2_ n3_ n4_ n5_ n6_
              (try clear hb)
              (try clear hb2)
              (try clear hk)
              (try clear hi)
              refine hK.out _ _ ⟨(blk_cell BK119.out 0).trans rfl, (blk_cell BK119.out 1).trans rfl, (blk_cell BK119.out 2).trans rfl, (blk_cell BK119.out 3).trans rfl, (blk_cell BK119.out 4).trans rfl, (blk_cell BK119.out 5).trans rfl, (blk_cell BK119.out 6).trans rfl⟩ (fun hHeld => ?_)
              clear hK K
              refine norm_ (a' := ?_) ?_ ?_
              rotate_left
              · show Act.put _ (some 37) _ = _
                simp only [Act.put, List.setIfInBounds_toArray, List.set_cons_zero, List.set_cons_succ, i64_w, i32_w]
                rfl
              exact norm_ (by simp only [putAll, Act.put, List.setIfInBounds_toArray, List.set_cons_zero, List.set_cons_succ]) (hCont (.slice (some ado39) y124.length co39, ado39) _ ⟨hHeld, (by (with_reducible repeat apply ru); exact Kd.R_mono HO115.out (fun _ hk => hk.2)), (by (with_reducible repeat apply ru); exact Kd.R_mono HO126.out (fun _ hk => hk.2)), ⟨_, rfl⟩, (bk BK106), (bk BK119), (by repeat (first | (with_reducible first | exact HI0.out | apply IsS102.alloc | apply IsS102.drewN | apply IsS102.drew | apply IsS102.set_1 | refine IsS102.far ?_ NB0_106.out _ | refine IsS102.far ?_ NB0_119.out _) | exact HI0.out)), (by repeat (first | (with_reducible first | exact HK.out | apply KeepBut.set_ | apply keep_drewN | apply keep_drew | apply keep_alloc | refine keep_far ?_ GW106.out _ | refine keep_far ?_ GW119.out _) | exact HK.out)), (by repeat (first | (with_reducible first | exact HB.out | apply below_alloc | apply pw_below_drewN | apply below_drew1 | refine below_set ?_ (IsS102.ge HI0.out) | refine below_set ?_ GE106.out | refine below_set ?_ GE119.out) | exact HB.out))⟩)
            · skip
              refine goes_ Try.func58 (by kernel_rfl) rfl #[.pointer (some ⟨g, 0, none⟩), .int .i64 3] (by rfl) rfl rfl (by (try simp only [List.map_toArray, List.map_cons, List.map_nil]); first | done | rfl | (simp only [List.length_drop, List.length_take]; rfl)) ?_
              with_reducible refine (spec_l20Rd_pick.calls k g s0_0 t123 3 t127 t128 w0 _ ?side1 ?side2 A11.out).mono ?_
              (case side1 => repeat (first | (with_reducible first | exact HI0.out | apply IsS102.alloc | apply IsS102.drewN | apply IsS102.drew | apply IsS102.set_1 | refine IsS102.far ?_ NB0_106.out _ | refine IsS102.far ?_ NB0_119.out _) | exact HI0.out))
              (case side2 => repeat (first | (with_reducible first | exact HB.out | apply below_alloc | apply pw_below_drewN | apply below_drew1 | refine below_set ?_ (IsS102.ge HI0.out) | refine below_set ?_ GE106.out | refine below_set ?_ GE119.out) | exact HB.out))
              rintro e w37 ⟨rfl, hi, hb, hk⟩
              refine ⟨_, rfl, ?_⟩
              have n0_ := Aside0.mk (KeepBut.blk hk (g' := gb106) (o := .cells #[.bool false, .int .i64 0, .int .i64 0, .int .i64 0, .int .i64 0, .int .i64 0, .int .i64 0] 24 (0, 0)) (bk BK106) NB106_0.out (by simp))
              have n1_ := Aside0.mk (Kd.R_mono (Kd.R_keep (IsS102.apart (show IsS102 w0 _ g s0_0 t123 from by repeat (first | (with_reducible first | exact HI0.out | apply IsS102.alloc | apply IsS102.drewN | apply IsS102.drew | apply IsS102.set_1 | refine IsS102.far ?_ NB0_106.out _ | refine IsS102.far ?_ NB0_119.out _) | exact HI0.out)) (rs HO115) (by decide)) hk (fun _ h => h.2)) (fun _ h => h.1))
              have n2_ := Aside0.mk (KeepBut.blk hk (g' := gb119) (o := .cells #[.bool (t107 == 0), .int .i64 (wrap64 (1 + t109)), .int .i64 (wrap64 ((wrap64 (1 + t109)) + t120)), .int .i64 (wrap64 (100 + t111)), .int .i64 (wrap64 ((wrap64 (100 + t111)) + t122)), .int .i64 (rd y113 t116), .int .i64 0] 24 (0, 0)) (bk BK119) NB119_0.out (by simp))
              have n3_ := Aside0.mk (KeepBut.trans (by repeat (first | (with_reducible first | exact HK.out | apply KeepBut.set_ | apply keep_drewN | apply keep_drew | apply keep_alloc | refine keep_far ?_ GW106.out _ | refine keep_far ?_ GW119.out _) | exact HK.out)) hk (.inl rfl))
              have n4_ := Aside0.mk (hb)
              have n5_ := Aside0.mk (hi)
              clear BK106
              clear HO115
              clear BK119
              clear HK
              clear HB
              clear HI0
              have BK106 := n0_
              have HO115 := n1_
              have BK119 := n2_
              have HK := n3_
              have HB := n4_
              have HI0 := n5_
              clear n0_ n1_ n2_ n3_ n4_ n5_
              (try clear hb)
              (try clear hb2)
              (try clear hk)
              (try clear hi)
              refine hK.out _ _ ⟨(blk_cell BK119.out 0).trans rfl, (blk_cell BK119.out 1).trans rfl, (blk_cell BK119.out 2).trans rfl, (blk_cell BK119.out 3).trans rfl, (blk_cell BK119.out 4).trans rfl, (blk_cell BK119.out 5).trans rfl, (blk_cell BK119.out 6).trans rfl⟩ (fun hHeld => ?_)
              clear hK K
              refine norm_ (a' := ?_) ?_ ?_
              rotate_left
              · show Act.put _ (some 37) _ = _
                simp only [Act.put, List.setIfInBounds_toArray, List.set_cons_zero, List.set_cons_succ, i64_w, i32_w]
                rfl
              refine one_ (i := 2) (N := some 35) #[true, true, true, true, true, false, false, false, false] rfl rfl (one_of HT_.out (by kernel_rfl)) (by decide) (fun K hK => ?_)
              refine Kd.R_lit_step (Kd.int .i64) _ 3 ?hg (N := 35) ?hd (xs := ([999, 21, rd y113 t116] : List Int)) (inner := [.int .i64 999, .int .i64 21, .int .i64 (rd y113 t116)]) (ok := fun _ => True) (okp := fun _ => True) ?hr ?hp (fun _ hk => hk) trivial (Below.refl _ _) (Nat.le_refl _) (by simp) ?_; (case hd => rfl); (case hg => rfl); (case hr => first | (go_simp; done) | (go_simp; rfl)); (case hp => exact (Reps.one (show Kd.M (Kd.int .i64) _ _ _ 999 [.int .i64 999] from rfl) (Reps.one (show Kd.M (Kd.int .i64) _ _ _ 21 [.int .i64 21] from rfl) (Reps.one (show Kd.M (Kd.int .i64) _ _ _ (rd y113 t116) [.int .i64 (rd y113 t116)] from rfl) (Reps.none _ _)))))
              intro v125 w38 ho39 hb hg_ hnew_
              clear hg_ hnew_
              (first | rw [← Ny124.out] at ho39 | (simp only [Int.reduceToNat] at ho39; rw [← Ny124.out] at ho39))
              have n0_ := Aside0.mk (Kd.R_elder' (rs HO115) (Kd.R_base ho39) hb)
              have n1_ := Aside0.mk (Kd.R_lower (Kd.R_new' ho39 (Kd.R_lt (rs HO115))) (keep_size (w := w) (g := g) (row := none) (by repeat (first | (with_reducible first | exact HK.out | apply KeepBut.set_ | apply keep_drewN | apply keep_drew | apply keep_alloc | refine keep_far ?_ GW106.out _ | refine keep_far ?_ GW119.out _) | exact HK.out))))
              have n2_ := Aside0.mk (IsS102.below (by repeat (first | (with_reducible first | exact HI0.out | apply IsS102.alloc | apply IsS102.drewN | apply IsS102.drew | apply IsS102.set_1 | refine IsS102.far ?_ NB0_106.out _ | refine IsS102.far ?_ NB0_119.out _) | exact HI0.out)) hb)
              have n3_ := bkB BK106 hb
              have n4_ := bkB BK119 hb
              have n5_ := Aside0.mk (KeepBut.trans (by repeat (first | (with_reducible first | exact HK.out | apply KeepBut.set_ | apply keep_drewN | apply keep_drew | apply keep_alloc | refine keep_far ?_ GW106.out _ | refine keep_far ?_ GW119.out _) | exact HK.out)) (KeepBut.of_below hb g none) (.inl rfl))
              have n6_ := Aside0.mk (below_step (by repeat (first | (with_reducible first | exact HB.out | apply below_alloc | apply pw_below_drewN | apply below_drew1 | refine below_set ?_ (IsS102.ge HI0.out) | refine below_set ?_ GE106.out | refine below_set ?_ GE119.out) | exact HB.out)) hb)
              clear HO115
              clear HI0
              clear BK106
              clear BK119
              clear HK
              clear HB
              have HO115 := n0_
              have HO126 := n1_
              have HI0 := n2_
              have BK106 := n3_
              have BK119 := n4_
              have HK := n5_
              have HB := n6_
              clear n0_ n1_ n2_ n3_ n4_ n5_ n6_
              clear hb ho39
              obtain ⟨Ao40, co40, eo40⟩ := Kd.R_slice HO126.out
              subst eo40
              obtain ⟨ado40, fo40, _⟩ := Kd.at_int (Kd.R_reads' HO126.out).2.2 0 (by decide) (by rw [Ny124.out]; simp)
              cases fo40
              refine hK.out _ _ ⟨(blk_cell BK119.out 0).trans rfl, (blk_cell BK119.out 1).trans rfl, (blk_cell BK119.out 2).trans rfl, (blk_cell BK119.out 3).trans rfl, (blk_cell BK119.out 4).trans rfl, (blk_cell BK119.out 5).trans rfl, (blk_cell BK119.out 6).trans rfl⟩ (fun hHeld => ?_)
              clear hK K
              refine norm_ (a' := ?_) ?_ ?_
              rotate_left
              · show Act.put _ (some 35) _ = _
                simp only [Act.put, List.setIfInBounds_toArray, List.set_cons_zero, List.set_cons_succ, i64_w, i32_w]
                rfl
              exact norm_ (by simp only [putAll, Act.put, List.setIfInBounds_toArray, List.set_cons_zero, List.set_cons_succ]) (hCont (.slice (some ado40) y124.length co40, ado40) _ ⟨hHeld, (by (with_reducible repeat apply ru); exact Kd.R_mono HO115.out (fun _ hk => hk.2)), (by (with_reducible repeat apply ru); exact Kd.R_mono HO126.out (fun _ hk => hk.2)), ⟨_, rfl⟩, (bk BK106), (bk BK119), (by repeat (first | (with_reducible first | exact HI0.out | apply IsS102.alloc | apply IsS102.drewN | apply IsS102.drew | apply IsS102.set_1 | refine IsS102.far ?_ NB0_106.out _ | refine IsS102.far ?_ NB0_119.out _) | exact HI0.out)), (by repeat (first | (with_reducible first | exact HK.out | apply KeepBut.set_ | apply keep_drewN | apply keep_drew | apply keep_alloc | refine keep_far ?_ GW106.out _ | refine keep_far ?_ GW119.out _) | exact HK.out)), (by repeat (first | (with_reducible first | exact HB.out | apply below_alloc | apply pw_below_drewN | apply below_drew1 | refine below_set ?_ (IsS102.ge HI0.out) | refine below_set ?_ GE106.out | refine below_set ?_ GE119.out) | exact HB.out))⟩)
          rintro ⟨v125, adz_v125⟩ w41 ⟨hS_, h0_, h1_, h2_, h3_, h4_, h5_, h6_, h7_⟩
          have n0_ : Aside0 (Kd.R (Kd.int .i64) 3 w41 w.heap.size (fun k_ => some k_ ≠ (v125 : Value).ownBlock) (.slice (some ad118) y113.length co22) y113) := ⟨h0_⟩
          have n1_ : Aside0 (Kd.R (Kd.int .i64) 3 w41 w.heap.size (fun k_ => some k_ ≠ (.slice (some ad118) y113.length co22 : Value).ownBlock) v125 y124) := ⟨h1_⟩
          have n2_ : Aside0 (∃ c_, (v125 : Value) = .slice (some adz_v125) y124.length c_) := ⟨h2_⟩
          have n3_ : Aside0 (w41.heap[gb106]? = some (.cells #[.bool false, .int .i64 0, .int .i64 0, .int .i64 0, .int .i64 0, .int .i64 0, .int .i64 0] 24 (0, 0))) := ⟨h3_⟩
          have n4_ : Aside0 (w41.heap[gb119]? = some (.cells #[.bool (t107 == 0), .int .i64 (wrap64 (1 + t109)), .int .i64 (wrap64 ((wrap64 (1 + t109)) + t120)), .int .i64 (wrap64 (100 + t111)), .int .i64 (wrap64 ((wrap64 (100 + t111)) + t122)), .int .i64 (rd y113 t116), .int .i64 0] 24 (0, 0))) := ⟨h4_⟩
          have n5_ : Aside0 (IsS102 w0 w41 g s0_0 t128) := ⟨h5_⟩
          have n6_ : Aside0 (KeepBut w w41 g none) := ⟨h6_⟩
          have n7_ : Aside0 (Below w0.heap.size w0 w41) := ⟨h7_⟩
          clear HO115
          clear BK106
          clear BK119
          clear HI0
          clear HK
          clear HB
          clear h0_ h1_ h2_ h3_ h4_ h5_ h6_ h7_
          have HO115 := n0_
          have HO126 := n1_
          have HA_HO126 := n2_
          have BK106 := n3_
          have BK119 := n4_
          have HI0 := n5_
          have HK := n6_
          have HB := n7_
          clear n0_ n1_ n2_ n3_ n4_ n5_ n6_ n7_
          have hHeld : w41.cell? ⟨gb119, 0, none⟩ = some (.bool (t107 == 0)) ∧ w41.cell? ⟨gb119, 1, none⟩ = some (.int .i64 (wrap64 (1 + t109))) ∧ w41.cell? ⟨gb119, 2, none⟩ = some (.int .i64 (wrap64 ((wrap64 (1 + t109)) + t120))) ∧ w41.cell? ⟨gb119, 3, none⟩ = some (.int .i64 (wrap64 (100 + t111))) ∧ w41.cell? ⟨gb119, 4, none⟩ = some (.int .i64 (wrap64 ((wrap64 (100 + t111)) + t122))) ∧ w41.cell? ⟨gb119, 5, none⟩ = some (.int .i64 (rd y113 t116)) ∧ w41.cell? ⟨gb119, 6, none⟩ = some (.int .i64 0) := hS_
          obtain ⟨co42, eo42⟩ := HA_HO126.out
          clear HA_HO126
          subst eo42
          refine norm_ (a' := ?_) ?_ ?_
          rotate_left
          · simp only [putAll, Act.put, List.setIfInBounds_toArray, List.set_cons_zero, List.set_cons_succ]
            rfl
          refine pure_ (i := 5) (N := some 38) (v := ?_) (a' := ?_) #[true, true, true, true, true, true, false, false, false] rfl rfl (any_of HT_.out (by kernel_rfl)) (fun _ _ _ h => h) (Or.inl ⟨by rfl, ?_⟩) ?_ ?_
          rotate_left
          · intro w'
            go_simp
            with_reducible rfl
          rotate_left
          · simp only [Act.put, List.setIfInBounds_toArray, List.set_cons_zero, List.set_cons_succ, i64_w, i32_w]
            rfl
          refine one_ (i := 6) (N := some 39) #[true, true, true, true, true, true, true, false, false] rfl rfl (one_of HT_.out (by kernel_rfl)) (by decide) (fun K hK => ?_)
          (have p129 : 0 ≤ (t127 : Int) := of_decide_eq_true (by first | (with_reducible assumption) | assumption); have q129 : t127 < (y124.length : Int) := of_decide_eq_true (by first | (with_reducible assumption) | assumption); obtain ⟨ad129, e129, hx129_0⟩ := Kd.at_int (Kd.R_reads' HO126.out).2.2 t127 p129 q129; obtain rfl : adz_v125 = ad129 := (by injection e129))
          refine value_ (w1 := ?_) (v := ?_) (by rfl) rfl ?_ ?_
          rotate_left 2
          · go_simp
            constructor
            · rfl
            · rfl
          clear hx129_0
          refine hK.out _ _ ⟨(blk_cell BK119.out 0).trans rfl, (blk_cell BK119.out 1).trans rfl, (blk_cell BK119.out 2).trans rfl, (blk_cell BK119.out 3).trans rfl, (blk_cell BK119.out 4).trans rfl, (blk_cell BK119.out 5).trans rfl, (blk_cell BK119.out 6).trans rfl⟩ (fun hHeld => ?_)
          clear hK K
          refine norm_ (a' := ?_) ?_ ?_
          rotate_left
          · show Act.put _ (some 39) _ = _
            simp only [Act.put, List.setIfInBounds_toArray, List.set_cons_zero, List.set_cons_succ, i64_w, i32_w]
            rfl
          refine pure_ (i := 7) (N := some 40) (v := ?_) (a' := ?_) #[true, true, true, true, true, true, true, true, false] rfl rfl (any_of HT_.out (by kernel_rfl)) (fun _ _ _ h => h) (Or.inl ⟨by rfl, ?_⟩) ?_ ?_
          rotate_left
          · intro w'
            go_simp
            with_reducible rfl
          rotate_left
          · simp only [Act.put, List.setIfInBounds_toArray, List.set_cons_zero, List.set_cons_succ, i64_w, i32_w]
            rfl
          refine last_ (i := 8) (N := none) #[true, true, true, true, true, true, true, true, true] rfl rfl (one_of HT_.out (by kernel_rfl)) (by decide) (fun K hK => ?_)
          have hs43 : w41.cell? ⟨gb119, 6, none⟩ = some (.int .i64 0) := (blk_cell BK119.out 6).trans rfl
          have hfs43 := blk_frozen BK119.out 6
          have hns43_0 := NB106_119.out
          have hms43_0 := NB119_106.out
          refine skip_ (w1 := ?_) (by rfl) rfl ?_ ?_
          rotate_left
          · go_simp
            rfl
          refine hK.out _ _ ?_
          clear hK K
          refine done_ (done_of HT_.out (by kernel_rfl)) ?_
          have hcz44_0 : w41.cell? ⟨gb119, 0, none⟩ = some (.bool (t107 == 0)) := (blk_cell BK119.out 0).trans rfl
          have hcz44_1 : w41.cell? ⟨gb119, 1, none⟩ = some (.int .i64 (wrap64 (1 + t109))) := (blk_cell BK119.out 1).trans rfl
          have hcz44_2 : w41.cell? ⟨gb119, 2, none⟩ = some (.int .i64 (wrap64 ((wrap64 (1 + t109)) + t120))) := (blk_cell BK119.out 2).trans rfl
          have hcz44_3 : w41.cell? ⟨gb119, 3, none⟩ = some (.int .i64 (wrap64 (100 + t111))) := (blk_cell BK119.out 3).trans rfl
          have hcz44_4 : w41.cell? ⟨gb119, 4, none⟩ = some (.int .i64 (wrap64 ((wrap64 (100 + t111)) + t122))) := (blk_cell BK119.out 4).trans rfl
          have hcz44_5 : w41.cell? ⟨gb119, 5, none⟩ = some (.int .i64 (rd y113 t116)) := (blk_cell BK119.out 5).trans rfl
          have hcz44_6 : w41.cell? ⟨gb119, 6, none⟩ = some (.int .i64 0) := (blk_cell BK119.out 6).trans rfl
          have hfz44_0 := blk_frozen BK119.out 0
          have hfz44_1 := blk_frozen BK119.out 1
          have hfz44_2 := blk_frozen BK119.out 2
          have hfz44_3 := blk_frozen BK119.out 3
          have hfz44_4 := blk_frozen BK119.out 4
          have hfz44_5 := blk_frozen BK119.out 5
          have hfz44_6 := blk_frozen BK119.out 6
          go_upto_if 45 with (fail)
          go_cut [] (fun wc => ∃ (kq : Nat) (x120006_13 : Int), Aside0 (spec_l20Rule.j0 kq a1 s0_0 t128 (t107 == 0) (wrap64 (1 + t109)) (wrap64 ((wrap64 (1 + t109)) + t120)) (wrap64 (100 + t111)) (wrap64 ((wrap64 (100 + t111)) + t122)) (rd y113 t116) x120006_13 = some (r1, r2, r3, r4, r5, r6, r7, r8)) ∧ Aside0 (kq ≤ k) ∧ Aside0 (wc.heap[gb106]? = some (.cells #[.bool false, .int .i64 0, .int .i64 0, .int .i64 0, .int .i64 0, .int .i64 0, .int .i64 0] 24 (0, 0))) ∧ Aside0 (wc.heap[gb119]? = some (.cells #[.bool (t107 == 0), .int .i64 (wrap64 (1 + t109)), .int .i64 (wrap64 ((wrap64 (1 + t109)) + t120)), .int .i64 (wrap64 (100 + t111)), .int .i64 (wrap64 ((wrap64 (100 + t111)) + t122)), .int .i64 (rd y113 t116), .int .i64 x120006_13] 24 (0, 0))) ∧ Aside0 (IsS102 w0 wc g s0_0 t128) ∧ Aside0 (KeepBut w wc g none) ∧ Aside0 (Below w0.heap.size w0 wc))
          case first =>
            have H := HC14.out
            clear HC14
            by_cases c45 : (rd y124 t127) < (rd y113 t116)
            · rw [if_pos c45] at H
              have c45b0 : decide ((rd y124 t127) < (rd y113 t116)) = true := decide_eq_true c45
              clear c45
              (first | rw [c45b0] | (simp only [i64_w, i32_w]; rw [c45b0]) | skip)
              have H' := Aside0.mk H
              clear H
              have hnb46 := NB119_106.out
              have hnc46 := NB106_119.out
              have hnb47 := NB119_0.out
              have hnc47 := NB0_119.out
              have hcz48_0 : w41.cell? ⟨gb119, 0, none⟩ = some (.bool (t107 == 0)) := (blk_cell BK119.out 0).trans rfl
              have hcz48_1 : w41.cell? ⟨gb119, 1, none⟩ = some (.int .i64 (wrap64 (1 + t109))) := (blk_cell BK119.out 1).trans rfl
              have hcz48_2 : w41.cell? ⟨gb119, 2, none⟩ = some (.int .i64 (wrap64 ((wrap64 (1 + t109)) + t120))) := (blk_cell BK119.out 2).trans rfl
              have hcz48_3 : w41.cell? ⟨gb119, 3, none⟩ = some (.int .i64 (wrap64 (100 + t111))) := (blk_cell BK119.out 3).trans rfl
              have hcz48_4 : w41.cell? ⟨gb119, 4, none⟩ = some (.int .i64 (wrap64 ((wrap64 (100 + t111)) + t122))) := (blk_cell BK119.out 4).trans rfl
              have hcz48_5 : w41.cell? ⟨gb119, 5, none⟩ = some (.int .i64 (rd y113 t116)) := (blk_cell BK119.out 5).trans rfl
              have hcz48_6 : w41.cell? ⟨gb119, 6, none⟩ = some (.int .i64 0) := (blk_cell BK119.out 6).trans rfl
              have hfz48_0 := blk_frozen BK119.out 0
              have hfz48_1 := blk_frozen BK119.out 1
              have hfz48_2 := blk_frozen BK119.out 2
              have hfz48_3 := blk_frozen BK119.out 3
              have hfz48_4 := blk_frozen BK119.out 4
              have hfz48_5 := blk_frozen BK119.out 5
              have hfz48_6 := blk_frozen BK119.out 6
              go_wp2
              go_meet
              case rel => exact ⟨_, (rd y113 t116), H', ⟨by first | omega | exact Nat.le_refl _⟩, ⟨by (with_reducible repeat refine bu ?_); refine blk_far ?_ NB106_119.out _; (with_reducible repeat refine bu ?_); refine blk_far ?_ NB106_119.out _; (with_reducible repeat refine bu ?_); exact BK106.out⟩, ⟨by (with_reducible repeat refine bu ?_); refine blk_put (cs := #[.bool (t107 == 0), .int .i64 (wrap64 (1 + t109)), .int .i64 (wrap64 ((wrap64 (1 + t109)) + t120)), .int .i64 (wrap64 (100 + t111)), .int .i64 (wrap64 ((wrap64 (100 + t111)) + t122)), .int .i64 (rd y113 t116), .int .i64 (rd y124 t127)]) ?_ 6 _ rfl; (with_reducible repeat refine bu ?_); refine blk_put (cs := #[.bool (t107 == 0), .int .i64 (wrap64 (1 + t109)), .int .i64 (wrap64 ((wrap64 (1 + t109)) + t120)), .int .i64 (wrap64 (100 + t111)), .int .i64 (wrap64 ((wrap64 (100 + t111)) + t122)), .int .i64 (rd y113 t116), .int .i64 0]) ?_ 6 _ rfl; (with_reducible repeat refine bu ?_); exact BK119.out⟩, ⟨by repeat (first | (with_reducible first | exact HI0.out | apply IsS102.alloc | apply IsS102.drewN | apply IsS102.drew | apply IsS102.set_1 | refine IsS102.far ?_ NB0_106.out _ | refine IsS102.far ?_ NB0_119.out _) | exact HI0.out)⟩, ⟨by repeat (first | (with_reducible first | exact HK.out | apply KeepBut.set_ | apply keep_drewN | apply keep_drew | apply keep_alloc | refine keep_far ?_ GW106.out _ | refine keep_far ?_ GW119.out _) | exact HK.out)⟩, ⟨by repeat (first | (with_reducible first | exact HB.out | apply below_alloc | apply pw_below_drewN | apply below_drew1 | refine below_set ?_ (IsS102.ge HI0.out) | refine below_set ?_ GE106.out | refine below_set ?_ GE119.out) | exact HB.out)⟩⟩
            · rw [if_neg c45] at H
              have c45b0 : decide ((rd y124 t127) < (rd y113 t116)) = false := decide_eq_false c45
              clear c45
              (first | rw [c45b0] | (simp only [i64_w, i32_w]; rw [c45b0]) | skip)
              have H' := Aside0.mk H
              clear H
              go_wp2
              go_meet
              case rel => exact ⟨_, (rd y124 t127), H', ⟨by first | omega | exact Nat.le_refl _⟩, ⟨by (with_reducible repeat refine bu ?_); refine blk_far ?_ NB106_119.out _; (with_reducible repeat refine bu ?_); exact BK106.out⟩, ⟨by (with_reducible repeat refine bu ?_); refine blk_put (cs := #[.bool (t107 == 0), .int .i64 (wrap64 (1 + t109)), .int .i64 (wrap64 ((wrap64 (1 + t109)) + t120)), .int .i64 (wrap64 (100 + t111)), .int .i64 (wrap64 ((wrap64 (100 + t111)) + t122)), .int .i64 (rd y113 t116), .int .i64 0]) ?_ 6 _ rfl; (with_reducible repeat refine bu ?_); exact BK119.out⟩, ⟨by repeat (first | (with_reducible first | exact HI0.out | apply IsS102.alloc | apply IsS102.drewN | apply IsS102.drew | apply IsS102.set_1 | refine IsS102.far ?_ NB0_106.out _ | refine IsS102.far ?_ NB0_119.out _) | exact HI0.out)⟩, ⟨by repeat (first | (with_reducible first | exact HK.out | apply KeepBut.set_ | apply keep_drewN | apply keep_drew | apply keep_alloc | refine keep_far ?_ GW106.out _ | refine keep_far ?_ GW119.out _) | exact HK.out)⟩, ⟨by repeat (first | (with_reducible first | exact HB.out | apply below_alloc | apply pw_below_drewN | apply below_drew1 | refine below_set ?_ (IsS102.ge HI0.out) | refine below_set ?_ GE106.out | refine below_set ?_ GE119.out) | exact HB.out)⟩⟩
          case rest =>
            clear HC14
            try clear p1
            try clear q1
            try clear hx1
            try clear qi1
            try clear p2
            try clear c4
            try clear c5
            try clear p6
            try clear p12
            try clear q12
            try clear hx12
            try clear qi12
            try clear c45
            try clear c45b0
            try clear c46
            try clear c47
            try clear hcz44_0
            try clear hcz44_1
            try clear hcz44_2
            try clear hcz44_3
            try clear hcz44_4
            try clear hcz44_5
            try clear hcz44_6
            try clear hcz48_0
            try clear hcz48_1
            try clear hcz48_2
            try clear hcz48_3
            try clear hcz48_4
            try clear hcz48_5
            try clear hcz48_6
            try clear hfz44_0
            try clear hfz44_1
            try clear hfz44_2
            try clear hfz44_3
            try clear hfz44_4
            try clear hfz44_5
            try clear hfz44_6
            try clear hfz48_0
            try clear hfz48_1
            try clear hfz48_2
            try clear hfz48_3
            try clear hfz48_4
            try clear hfz48_5
            try clear hfz48_6
            try clear hx129_0
            try clear p129
            try clear q129
            obtain ⟨kq, x120006_13, HA, HJ13, BK106, BK119, HI0, HK, HB⟩ := hcut
            cases kq with
            | zero => exact absurd HA.out (by simp [spec_l20Rule.j0])
            | succ kj13 =>
              have H := HA.out
              clear HA
              simp only [spec_l20Rule.j0] at H
              replace H := Option.bind_eq_some_iff.mp H
              obtain ⟨⟨t130, t131⟩, A490, H⟩ := H
              replace H : (if t130 = true then ((spec_l20Rd_pick.f kj13 s0_0 t131 4).bind fun bt132 => (if bt132.1 = 0 then ((some (([0, 9, (-1)] : List Int) : List Int)).bind fun y134 => ((spec_l20Rd_pick.f kj13 s0_0 bt132.2 3).bind fun bt137 => (if 0 ≤ bt137.1 then (if bt137.1 < (y134.length : Int) then (some ((t107 == 0), rd y134 bt137.1, (wrap64 ((wrap64 (1 + t109)) + t120)), (wrap64 (100 + t111)), (wrap64 ((wrap64 (100 + t111)) + t122)), (rd y113 t116), x120006_13, bt137.2)) else (none)) else (none)))) else (if bt132.1 = 1 then ((some (([110, 99] : List Int) : List Int)).bind fun y140 => ((spec_l20Rd_pick.f kj13 s0_0 bt132.2 2).bind fun bt143 => (if 0 ≤ bt143.1 then (if bt143.1 < (y140.length : Int) then (some ((t107 == 0), (wrap64 (1 + t109)), (wrap64 ((wrap64 (1 + t109)) + t120)), (wrap64 (100 + t111)), rd y140 bt143.1, (rd y113 t116), x120006_13, bt143.2)) else (none)) else (none)))) else (if bt132.1 = 2 then ((some (([0, 1000] : List Int) : List Int)).bind fun y146 => ((spec_l20Rd_pick.f kj13 s0_0 bt132.2 2).bind fun bt149 => (if 0 ≤ bt149.1 then (if bt149.1 < (y146.length : Int) then (some ((t107 == 0), (wrap64 (1 + t109)), (wrap64 ((wrap64 (1 + t109)) + t120)), (wrap64 (100 + t111)), (wrap64 ((wrap64 (100 + t111)) + t122)), (rd y113 t116), rd y146 bt149.1, bt149.2)) else (none)) else (none)))) else (some ((t107 == 0), (wrap64 (1 + t109)), 10, (wrap64 (100 + t111)), (wrap64 ((wrap64 (100 + t111)) + t122)), (rd y113 t116), x120006_13, bt132.2)))))) else (some ((t107 == 0), (wrap64 (1 + t109)), (wrap64 ((wrap64 (1 + t109)) + t120)), (wrap64 (100 + t111)), (wrap64 ((wrap64 (100 + t111)) + t122)), (rd y113 t116), x120006_13, t131))) = some (r1, r2, r3, r4, r5, r6, r7, r8) := H
              have A49 := Aside0.mk A490
              clear A490
              by_cases c50 : t130 = true
              · subst c50
                have H1 : ((spec_l20Rd_pick.f kj13 s0_0 t131 4).bind fun bt132 => (if bt132.1 = 0 then ((some (([0, 9, (-1)] : List Int) : List Int)).bind fun y134 => ((spec_l20Rd_pick.f kj13 s0_0 bt132.2 3).bind fun bt137 => (if 0 ≤ bt137.1 then (if bt137.1 < (y134.length : Int) then (some ((t107 == 0), rd y134 bt137.1, (wrap64 ((wrap64 (1 + t109)) + t120)), (wrap64 (100 + t111)), (wrap64 ((wrap64 (100 + t111)) + t122)), (rd y113 t116), x120006_13, bt137.2)) else (none)) else (none)))) else (if bt132.1 = 1 then ((some (([110, 99] : List Int) : List Int)).bind fun y140 => ((spec_l20Rd_pick.f kj13 s0_0 bt132.2 2).bind fun bt143 => (if 0 ≤ bt143.1 then (if bt143.1 < (y140.length : Int) then (some ((t107 == 0), (wrap64 (1 + t109)), (wrap64 ((wrap64 (1 + t109)) + t120)), (wrap64 (100 + t111)), rd y140 bt143.1, (rd y113 t116), x120006_13, bt143.2)) else (none)) else (none)))) else (if bt132.1 = 2 then ((some (([0, 1000] : List Int) : List Int)).bind fun y146 => ((spec_l20Rd_pick.f kj13 s0_0 bt132.2 2).bind fun bt149 => (if 0 ≤ bt149.1 then (if bt149.1 < (y146.length : Int) then (some ((t107 == 0), (wrap64 (1 + t109)), (wrap64 ((wrap64 (1 + t109)) + t120)), (wrap64 (100 + t111)), (wrap64 ((wrap64 (100 + t111)) + t122)), (rd y113 t116), rd y146 bt149.1, bt149.2)) else (none)) else (none)))) else (some ((t107 == 0), (wrap64 (1 + t109)), 10, (wrap64 (100 + t111)), (wrap64 ((wrap64 (100 + t111)) + t122)), (rd y113 t116), x120006_13, bt132.2)))))) = some (r1, r2, r3, r4, r5, r6, r7, r8) := by rw [if_pos rfl] at H; exact H
                clear H
                have H := H1
                clear H1
                replace H := Option.bind_eq_some_iff.mp H
                obtain ⟨⟨t132, t133⟩, A510, H⟩ := H
                replace H : (if t132 = 0 then ((some (([0, 9, (-1)] : List Int) : List Int)).bind fun y134 => ((spec_l20Rd_pick.f kj13 s0_0 t133 3).bind fun bt137 => (if 0 ≤ bt137.1 then (if bt137.1 < (y134.length : Int) then (some ((t107 == 0), rd y134 bt137.1, (wrap64 ((wrap64 (1 + t109)) + t120)), (wrap64 (100 + t111)), (wrap64 ((wrap64 (100 + t111)) + t122)), (rd y113 t116), x120006_13, bt137.2)) else (none)) else (none)))) else (if t132 = 1 then ((some (([110, 99] : List Int) : List Int)).bind fun y140 => ((spec_l20Rd_pick.f kj13 s0_0 t133 2).bind fun bt143 => (if 0 ≤ bt143.1 then (if bt143.1 < (y140.length : Int) then (some ((t107 == 0), (wrap64 (1 + t109)), (wrap64 ((wrap64 (1 + t109)) + t120)), (wrap64 (100 + t111)), rd y140 bt143.1, (rd y113 t116), x120006_13, bt143.2)) else (none)) else (none)))) else (if t132 = 2 then ((some (([0, 1000] : List Int) : List Int)).bind fun y146 => ((spec_l20Rd_pick.f kj13 s0_0 t133 2).bind fun bt149 => (if 0 ≤ bt149.1 then (if bt149.1 < (y146.length : Int) then (some ((t107 == 0), (wrap64 (1 + t109)), (wrap64 ((wrap64 (1 + t109)) + t120)), (wrap64 (100 + t111)), (wrap64 ((wrap64 (100 + t111)) + t122)), (rd y113 t116), rd y146 bt149.1, bt149.2)) else (none)) else (none)))) else (some ((t107 == 0), (wrap64 (1 + t109)), 10, (wrap64 (100 + t111)), (wrap64 ((wrap64 (100 + t111)) + t122)), (rd y113 t116), x120006_13, t133))))) = some (r1, r2, r3, r4, r5, r6, r7, r8) := H
                have A51 := Aside0.mk A510
                clear A510
                by_cases c52 : t132 = 0
                · rw [if_pos c52] at H
                  have c52b0 : (t132 == 0) = true := beq_iff_eq.mpr c52
                  have c52b1 : (t132 != 0) = false := bne_eq_false_iff_eq.mpr c52
                  clear c52
                  obtain ⟨y134, hy134⟩ : ∃ y_ : List Int, y_ = (([0, 9, (-1)] : List Int)) := ⟨_, rfl⟩
                  replace H : ((spec_l20Rd_pick.f kj13 s0_0 t133 3).bind fun bt137 => (if 0 ≤ bt137.1 then (if bt137.1 < (y134.length : Int) then (some ((t107 == 0), rd y134 bt137.1, (wrap64 ((wrap64 (1 + t109)) + t120)), (wrap64 (100 + t111)), (wrap64 ((wrap64 (100 + t111)) + t122)), (rd y113 t116), x120006_13, bt137.2)) else (none)) else (none))) = some (r1, r2, r3, r4, r5, r6, r7, r8) := by first | (rw [hy134]; with_reducible exact H) | (have H2_ := (Option.bind_some _ _).symm.trans H; rw [hy134]; with_reducible exact H2_) | (have H2_ := (Option.bind_some _ _).symm.trans H; with_reducible exact H2_) | with_reducible exact H | (rw [hy134]; exact H) | exact H
                  have Ny134 := Aside0.mk hy134
                  clear hy134
                  replace H := Option.bind_eq_some_iff.mp H
                  obtain ⟨⟨t137, t138⟩, A530, H⟩ := H
                  replace H : (if 0 ≤ t137 then (if t137 < (y134.length : Int) then (some ((t107 == 0), rd y134 t137, (wrap64 ((wrap64 (1 + t109)) + t120)), (wrap64 (100 + t111)), (wrap64 ((wrap64 (100 + t111)) + t122)), (rd y113 t116), x120006_13, t138)) else (none)) else (none)) = some (r1, r2, r3, r4, r5, r6, r7, r8) := H
                  have A53 := Aside0.mk A530
                  clear A530
                  by_cases c54 : 0 ≤ t137
                  · rw [if_pos c54] at H
                    have c54b0 : decide (0 ≤ t137) = true := decide_eq_true c54
                    clear c54
                    by_cases c55 : t137 < (y134.length : Int)
                    · rw [if_pos c55] at H
                      have c55b0 : decide (t137 < (y134.length : Int)) = true := decide_eq_true c55
                      clear c55
                      simp only [Option.some.injEq, Prod.mk.injEq] at H
                      obtain ⟨rfl, rfl, rfl, rfl, rfl, rfl, rfl, rfl⟩ := H
                      go_wp2_with (first | ((with_reducible refine gate_callee (f := 59) rfl ?_); refine goesL_ (some 51) rfl rfl Try.func59 (by kernel_rfl) rfl #[.pointer (some ⟨g, 0, none⟩), .int .i64 a1] rfl (by (try simp only [List.map_toArray, List.map_cons, List.map_nil]); first | done | rfl | (simp only [List.length_drop, List.length_take]; rfl)) ?_; (with_reducible refine (spec_l20Rd_odd.calls kj13 g s0_0 t128 a1 true t131 w0 _ ?side1 ?side2 A49.out).mono ?_); (case side1 => repeat (first | (with_reducible first | exact HI0.out | apply IsS102.alloc | apply IsS102.drewN | apply IsS102.drew | apply IsS102.set_1 | refine IsS102.far ?_ NB0_106.out _ | refine IsS102.far ?_ NB0_119.out _) | exact HI0.out)); (case side2 => repeat (first | (with_reducible first | exact HB.out | apply below_alloc | apply pw_below_drewN | apply below_drew1 | refine below_set ?_ (IsS102.ge HI0.out) | refine below_set ?_ GE106.out | refine below_set ?_ GE119.out) | exact HB.out)); rintro e w56 ⟨rfl, hi, hb, hk⟩; refine ⟨_, rfl, ?_⟩; have n0_ := Aside0.mk (KeepBut.blk hk (g' := gb106) (o := .cells #[.bool false, .int .i64 0, .int .i64 0, .int .i64 0, .int .i64 0, .int .i64 0, .int .i64 0] 24 (0, 0)) (bk BK106) NB106_0.out (by simp)); have n1_ := Aside0.mk (KeepBut.blk hk (g' := gb119) (o := .cells #[.bool (t107 == 0), .int .i64 (wrap64 (1 + t109)), .int .i64 (wrap64 ((wrap64 (1 + t109)) + t120)), .int .i64 (wrap64 (100 + t111)), .int .i64 (wrap64 ((wrap64 (100 + t111)) + t122)), .int .i64 (rd y113 t116), .int .i64 x120006_13] 24 (0, 0)) (bk BK119) NB119_0.out (by simp)); have n2_ := Aside0.mk (KeepBut.trans (by repeat (first | (with_reducible first | exact HK.out | apply KeepBut.set_ | apply keep_drewN | apply keep_drew | apply keep_alloc | refine keep_far ?_ GW106.out _ | refine keep_far ?_ GW119.out _) | exact HK.out)) hk (.inl rfl)); have n3_ := Aside0.mk (hb); have n4_ := Aside0.mk (hi); clear BK106; clear BK119; clear HK; clear HB; clear HI0; have BK106 := n0_; have BK119 := n1_; have HK := n2_; have HB := n3_; have HI0 := n4_; clear n0_ n1_ n2_ n3_ n4_; (try clear hb); (try clear hb2); (try clear hk); (try clear hi)) | ((with_reducible refine gate_callee (f := 58) rfl ?_); refine goesL_ (some 53) rfl rfl Try.func58 (by kernel_rfl) rfl #[.pointer (some ⟨g, 0, none⟩), .int .i64 4] rfl (by (try simp only [List.map_toArray, List.map_cons, List.map_nil]); first | done | rfl | (simp only [List.length_drop, List.length_take]; rfl)) ?_; (with_reducible refine (spec_l20Rd_pick.calls kj13 g s0_0 t131 4 t132 t133 w0 _ ?side1 ?side2 A51.out).mono ?_); (case side1 => repeat (first | (with_reducible first | exact HI0.out | apply IsS102.alloc | apply IsS102.drewN | apply IsS102.drew | apply IsS102.set_1 | refine IsS102.far ?_ NB0_106.out _ | refine IsS102.far ?_ NB0_119.out _) | exact HI0.out)); (case side2 => repeat (first | (with_reducible first | exact HB.out | apply below_alloc | apply pw_below_drewN | apply below_drew1 | refine below_set ?_ (IsS102.ge HI0.out) | refine below_set ?_ GE106.out | refine below_set ?_ GE119.out) | exact HB.out)); rintro e w57 ⟨rfl, hi, hb, hk⟩; refine ⟨_, rfl, ?_⟩; have n0_ := Aside0.mk (KeepBut.blk hk (g' := gb106) (o := .cells #[.bool false, .int .i64 0, .int .i64 0, .int .i64 0, .int .i64 0, .int .i64 0, .int .i64 0] 24 (0, 0)) (bk BK106) NB106_0.out (by simp)); have n1_ := Aside0.mk (KeepBut.blk hk (g' := gb119) (o := .cells #[.bool (t107 == 0), .int .i64 (wrap64 (1 + t109)), .int .i64 (wrap64 ((wrap64 (1 + t109)) + t120)), .int .i64 (wrap64 (100 + t111)), .int .i64 (wrap64 ((wrap64 (100 + t111)) + t122)), .int .i64 (rd y113 t116), .int .i64 x120006_13] 24 (0, 0)) (bk BK119) NB119_0.out (by simp)); have n2_ := Aside0.mk (KeepBut.trans (by repeat (first | (with_reducible first | exact HK.out | apply KeepBut.set_ | apply keep_drewN | apply keep_drew | apply keep_alloc | refine keep_far ?_ GW106.out _ | refine keep_far ?_ GW119.out _) | exact HK.out)) hk (.inl rfl)); have n3_ := Aside0.mk (hb); have n4_ := Aside0.mk (hi); clear BK106; clear BK119; clear HK; clear HB; clear HI0; have BK106 := n0_; have BK119 := n1_; have HK := n2_; have HB := n3_; have HI0 := n4_; clear n0_ n1_ n2_ n3_ n4_; (try clear hb); (try clear hb2); (try clear hk); (try clear hi)) | ((with_reducible refine gate_dst (N := 57) rfl ?_); refine Kd.R_lit (Kd.int .i64) _ 3 ?hg (N := 57) ?hd (xs := ([0, 9, (-1)] : List Int)) (inner := [.int .i64 0, .int .i64 9, .int .i64 (-1)]) (ok := fun _ => True) (okp := fun _ => True) ?hr ?hp (fun _ hk => hk) trivial (Below.refl _ _) (Nat.le_refl _) (by simp) ?_; (case hd => rfl); (case hg => rfl); (case hr => first | (go_simp; done) | (go_simp; rfl)); (case hp => exact (Reps.one (show Kd.M (Kd.int .i64) _ _ _ 0 [.int .i64 0] from rfl) (Reps.one (show Kd.M (Kd.int .i64) _ _ _ 9 [.int .i64 9] from rfl) (Reps.one (show Kd.M (Kd.int .i64) _ _ _ (-1) [.int .i64 (-1)] from rfl) (Reps.none _ _))))); intro v135 w58 ho59 hb hg_ hnew_; clear hg_ hnew_; (first | rw [← Ny134.out] at ho59 | (simp only [Int.reduceToNat] at ho59; rw [← Ny134.out] at ho59)); have n0_ := Aside0.mk (Kd.R_lower ho59 (keep_size (w := w) (g := g) (row := none) (by repeat (first | (with_reducible first | exact HK.out | apply KeepBut.set_ | apply keep_drewN | apply keep_drew | apply keep_alloc | refine keep_far ?_ GW106.out _ | refine keep_far ?_ GW119.out _) | exact HK.out)))); have n1_ := bkB BK106 hb; have n2_ := bkB BK119 hb; have n3_ := Aside0.mk (IsS102.below (by repeat (first | (with_reducible first | exact HI0.out | apply IsS102.alloc | apply IsS102.drewN | apply IsS102.drew | apply IsS102.set_1 | refine IsS102.far ?_ NB0_106.out _ | refine IsS102.far ?_ NB0_119.out _) | exact HI0.out)) hb); have n4_ := Aside0.mk (KeepBut.trans (by repeat (first | (with_reducible first | exact HK.out | apply KeepBut.set_ | apply keep_drewN | apply keep_drew | apply keep_alloc | refine keep_far ?_ GW106.out _ | refine keep_far ?_ GW119.out _) | exact HK.out)) (KeepBut.of_below hb g none) (.inl rfl)); have n5_ := Aside0.mk (below_step (by repeat (first | (with_reducible first | exact HB.out | apply below_alloc | apply pw_below_drewN | apply below_drew1 | refine below_set ?_ (IsS102.ge HI0.out) | refine below_set ?_ GE106.out | refine below_set ?_ GE119.out) | exact HB.out)) hb); clear BK106; clear BK119; clear HI0; clear HK; clear HB; have HO136 := n0_; have BK106 := n1_; have BK119 := n2_; have HI0 := n3_; have HK := n4_; have HB := n5_; clear n0_ n1_ n2_ n3_ n4_ n5_; clear hb ho59) | ((with_reducible refine gate_callee (f := 58) rfl ?_); refine goesL_ (some 59) rfl rfl Try.func58 (by kernel_rfl) rfl #[.pointer (some ⟨g, 0, none⟩), .int .i64 3] rfl (by (try simp only [List.map_toArray, List.map_cons, List.map_nil]); first | done | rfl | (simp only [List.length_drop, List.length_take]; rfl)) ?_; (with_reducible refine (spec_l20Rd_pick.calls kj13 g s0_0 t133 3 t137 t138 w0 _ ?side1 ?side2 A53.out).mono ?_); (case side1 => repeat (first | (with_reducible first | exact HI0.out | apply IsS102.alloc | apply IsS102.drewN | apply IsS102.drew | apply IsS102.set_1 | refine IsS102.far ?_ NB0_106.out _ | refine IsS102.far ?_ NB0_119.out _) | exact HI0.out)); (case side2 => repeat (first | (with_reducible first | exact HB.out | apply below_alloc | apply pw_below_drewN | apply below_drew1 | refine below_set ?_ (IsS102.ge HI0.out) | refine below_set ?_ GE106.out | refine below_set ?_ GE119.out) | exact HB.out)); rintro e w60 ⟨rfl, hi, hb, hk⟩; refine ⟨_, rfl, ?_⟩; have n0_ := Aside0.mk (KeepBut.blk hk (g' := gb106) (o := .cells #[.bool false, .int .i64 0, .int .i64 0, .int .i64 0, .int .i64 0, .int .i64 0, .int .i64 0] 24 (0, 0)) (bk BK106) NB106_0.out (by simp)); have n1_ := Aside0.mk (KeepBut.blk hk (g' := gb119) (o := .cells #[.bool (t107 == 0), .int .i64 (wrap64 (1 + t109)), .int .i64 (wrap64 ((wrap64 (1 + t109)) + t120)), .int .i64 (wrap64 (100 + t111)), .int .i64 (wrap64 ((wrap64 (100 + t111)) + t122)), .int .i64 (rd y113 t116), .int .i64 x120006_13] 24 (0, 0)) (bk BK119) NB119_0.out (by simp)); have n2_ := Aside0.mk (Kd.R_mono (Kd.R_keep (IsS102.apart (show IsS102 w0 _ g s0_0 t133 from by repeat (first | (with_reducible first | exact HI0.out | apply IsS102.alloc | apply IsS102.drewN | apply IsS102.drew | apply IsS102.set_1 | refine IsS102.far ?_ NB0_106.out _ | refine IsS102.far ?_ NB0_119.out _) | exact HI0.out)) (rs HO136) (by decide)) hk (fun _ h => h.2)) (fun _ h => h.1)); have n3_ := Aside0.mk (KeepBut.trans (by repeat (first | (with_reducible first | exact HK.out | apply KeepBut.set_ | apply keep_drewN | apply keep_drew | apply keep_alloc | refine keep_far ?_ GW106.out _ | refine keep_far ?_ GW119.out _) | exact HK.out)) hk (.inl rfl)); have n4_ := Aside0.mk (hb); have n5_ := Aside0.mk (hi); clear BK106; clear BK119; clear HO136; clear HK; clear HB; clear HI0; have BK106 := n0_; have BK119 := n1_; have HO136 := n2_; have HK := n3_; have HB := n4_; have HI0 := n5_; clear n0_ n1_ n2_ n3_ n4_ n5_; (try clear hb); (try clear hb2); (try clear hk); (try clear hi); obtain ⟨Ao61, co61, eo61⟩ := Kd.R_slice HO136.out; subst eo61; have p139 : 0 ≤ (t137 : Int) := of_decide_eq_true (by first | (with_reducible assumption) | assumption); have q139 : t137 < (y134.length : Int) := of_decide_eq_true (by first | (with_reducible assumption) | assumption); obtain ⟨ad139, e139, hx139_0⟩ := Kd.at_int (Kd.R_reads' HO136.out).2.2 t137 p139 q139; cases e139; replace p139 := eq_true p139; replace q139 := eq_true q139; have hnb62 := NB119_106.out; have hnc62 := NB106_119.out; have hnb63 := NB119_0.out; have hnc63 := NB0_119.out; have hcz64_0 : w60.cell? ⟨gb119, 0, none⟩ = some (.bool (t107 == 0)) := (blk_cell BK119.out 0).trans rfl; have hcz64_1 : w60.cell? ⟨gb119, 1, none⟩ = some (.int .i64 (wrap64 (1 + t109))) := (blk_cell BK119.out 1).trans rfl; have hcz64_2 : w60.cell? ⟨gb119, 2, none⟩ = some (.int .i64 (wrap64 ((wrap64 (1 + t109)) + t120))) := (blk_cell BK119.out 2).trans rfl; have hcz64_3 : w60.cell? ⟨gb119, 3, none⟩ = some (.int .i64 (wrap64 (100 + t111))) := (blk_cell BK119.out 3).trans rfl; have hcz64_4 : w60.cell? ⟨gb119, 4, none⟩ = some (.int .i64 (wrap64 ((wrap64 (100 + t111)) + t122))) := (blk_cell BK119.out 4).trans rfl; have hcz64_5 : w60.cell? ⟨gb119, 5, none⟩ = some (.int .i64 (rd y113 t116)) := (blk_cell BK119.out 5).trans rfl; have hcz64_6 : w60.cell? ⟨gb119, 6, none⟩ = some (.int .i64 x120006_13) := (blk_cell BK119.out 6).trans rfl; have hfz64_0 := blk_frozen BK119.out 0; have hfz64_1 := blk_frozen BK119.out 1; have hfz64_2 := blk_frozen BK119.out 2; have hfz64_3 := blk_frozen BK119.out 3; have hfz64_4 := blk_frozen BK119.out 4; have hfz64_5 := blk_frozen BK119.out 5; have hfz64_6 := blk_frozen BK119.out 6; have hnb65 := NB106_0.out; have hnc65 := NB0_106.out; have hcz66_0 : w60.cell? ⟨gb106, 0, none⟩ = some (.bool false) := (blk_cell BK106.out 0).trans rfl; have hcz66_1 : w60.cell? ⟨gb106, 1, none⟩ = some (.int .i64 0) := (blk_cell BK106.out 1).trans rfl; have hcz66_2 : w60.cell? ⟨gb106, 2, none⟩ = some (.int .i64 0) := (blk_cell BK106.out 2).trans rfl; have hcz66_3 : w60.cell? ⟨gb106, 3, none⟩ = some (.int .i64 0) := (blk_cell BK106.out 3).trans rfl; have hcz66_4 : w60.cell? ⟨gb106, 4, none⟩ = some (.int .i64 0) := (blk_cell BK106.out 4).trans rfl; have hcz66_5 : w60.cell? ⟨gb106, 5, none⟩ = some (.int .i64 0) := (blk_cell BK106.out 5).trans rfl; have hcz66_6 : w60.cell? ⟨gb106, 6, none⟩ = some (.int .i64 0) := (blk_cell BK106.out 6).trans rfl; have hfz66_0 := blk_frozen BK106.out 0; have hfz66_1 := blk_frozen BK106.out 1; have hfz66_2 := blk_frozen BK106.out 2; have hfz66_3 := blk_frozen BK106.out 3; have hfz66_4 := blk_frozen BK106.out 4; have hfz66_5 := blk_frozen BK106.out 5; have hfz66_6 := blk_frozen BK106.out 6))
                      refine bodyPost_ret (results_cell_row rfl _ _ gb106 24 #[.bool (t107 == 0), .int .i64 (rd y134 t137), .int .i64 (wrap64 ((wrap64 (1 + t109)) + t120)), .int .i64 (wrap64 (100 + t111)), .int .i64 (wrap64 ((wrap64 (100 + t111)) + t122)), .int .i64 (rd y113 t116), .int .i64 x120006_13] (0, 0) _ rfl (by (with_reducible repeat refine bu ?_); refine blk_put (cs := #[.bool (t107 == 0), .int .i64 (rd y134 t137), .int .i64 (wrap64 ((wrap64 (1 + t109)) + t120)), .int .i64 (wrap64 (100 + t111)), .int .i64 (wrap64 ((wrap64 (100 + t111)) + t122)), .int .i64 (rd y113 t116), .int .i64 0]) ?_ 6 _ rfl; (with_reducible repeat refine bu ?_); refine blk_put (cs := #[.bool (t107 == 0), .int .i64 (rd y134 t137), .int .i64 (wrap64 ((wrap64 (1 + t109)) + t120)), .int .i64 (wrap64 (100 + t111)), .int .i64 (wrap64 ((wrap64 (100 + t111)) + t122)), .int .i64 0, .int .i64 0]) ?_ 5 _ rfl; (with_reducible repeat refine bu ?_); refine blk_put (cs := #[.bool (t107 == 0), .int .i64 (rd y134 t137), .int .i64 (wrap64 ((wrap64 (1 + t109)) + t120)), .int .i64 (wrap64 (100 + t111)), .int .i64 0, .int .i64 0, .int .i64 0]) ?_ 4 _ rfl; (with_reducible repeat refine bu ?_); refine blk_put (cs := #[.bool (t107 == 0), .int .i64 (rd y134 t137), .int .i64 (wrap64 ((wrap64 (1 + t109)) + t120)), .int .i64 0, .int .i64 0, .int .i64 0, .int .i64 0]) ?_ 3 _ rfl; (with_reducible repeat refine bu ?_); refine blk_put (cs := #[.bool (t107 == 0), .int .i64 (rd y134 t137), .int .i64 0, .int .i64 0, .int .i64 0, .int .i64 0, .int .i64 0]) ?_ 2 _ rfl; (with_reducible repeat refine bu ?_); refine blk_put (cs := #[.bool (t107 == 0), .int .i64 0, .int .i64 0, .int .i64 0, .int .i64 0, .int .i64 0, .int .i64 0]) ?_ 1 _ rfl; (with_reducible repeat refine bu ?_); refine blk_put (cs := #[.bool false, .int .i64 0, .int .i64 0, .int .i64 0, .int .i64 0, .int .i64 0, .int .i64 0]) ?_ 0 _ rfl; (with_reducible repeat refine bu ?_); refine blk_far ?_ NB106_119.out _; (with_reducible repeat refine bu ?_); exact BK106.out) Try.underlying24 rfl (by kernel_rfl)) rfl ?_
                      exact ⟨by first | rfl | (simp [errW_none, errW_some] <;> rfl) | (simp [*, errW_none, errW_some] <;> rfl), by repeat (first | (with_reducible first | exact HI0.out | apply IsS102.alloc | apply IsS102.drewN | apply IsS102.drew | apply IsS102.set_1 | refine IsS102.far ?_ NB0_106.out _ | refine IsS102.far ?_ NB0_119.out _) | exact HI0.out), by repeat (first | (with_reducible first | exact HB.out | apply below_alloc | apply pw_below_drewN | apply below_drew1 | refine below_set ?_ (IsS102.ge HI0.out) | refine below_set ?_ GE106.out | refine below_set ?_ GE119.out) | exact HB.out), by repeat (first | (with_reducible first | exact HK.out | apply KeepBut.set_ | apply keep_drewN | apply keep_drew | apply keep_alloc | refine keep_far ?_ GW106.out _ | refine keep_far ?_ GW119.out _) | exact HK.out)⟩
                    · rw [if_neg c55] at H
                      exact absurd H (by simp)
                  · rw [if_neg c54] at H
                    exact absurd H (by simp)
                · rw [if_neg c52] at H
                  have c52b0 : (t132 == 0) = false := beq_eq_false_iff_ne.mpr c52
                  have c52b1 : (t132 != 0) = true := bne_iff_ne.mpr c52
                  by_cases c67 : t132 = 1
                  · rw [if_pos c67] at H
                    have c67b0 : (t132 == 1) = true := beq_iff_eq.mpr c67
                    have c67b1 : (t132 != 1) = false := bne_eq_false_iff_eq.mpr c67
                    clear c67
                    obtain ⟨y140, hy140⟩ : ∃ y_ : List Int, y_ = (([110, 99] : List Int)) := ⟨_, rfl⟩
                    replace H : ((spec_l20Rd_pick.f kj13 s0_0 t133 2).bind fun bt143 => (if 0 ≤ bt143.1 then (if bt143.1 < (y140.length : Int) then (some ((t107 == 0), (wrap64 (1 + t109)), (wrap64 ((wrap64 (1 + t109)) + t120)), (wrap64 (100 + t111)), rd y140 bt143.1, (rd y113 t116), x120006_13, bt143.2)) else (none)) else (none))) = some (r1, r2, r3, r4, r5, r6, r7, r8) := by first | (rw [hy140]; with_reducible exact H) | (have H2_ := (Option.bind_some _ _).symm.trans H; rw [hy140]; with_reducible exact H2_) | (have H2_ := (Option.bind_some _ _).symm.trans H; with_reducible exact H2_) | with_reducible exact H | (rw [hy140]; exact H) | exact H
                    have Ny140 := Aside0.mk hy140
                    clear hy140
                    replace H := Option.bind_eq_some_iff.mp H
                    obtain ⟨⟨t143, t144⟩, A680, H⟩ := H
                    replace H : (if 0 ≤ t143 then (if t143 < (y140.length : Int) then (some ((t107 == 0), (wrap64 (1 + t109)), (wrap64 ((wrap64 (1 + t109)) + t120)), (wrap64 (100 + t111)), rd y140 t143, (rd y113 t116), x120006_13, t144)) else (none)) else (none)) = some (r1, r2, r3, r4, r5, r6, r7, r8) := H
                    have A68 := Aside0.mk A680
                    clear A680
                    by_cases c69 : 0 ≤ t143
                    · rw [if_pos c69] at H
                      have c69b0 : decide (0 ≤ t143) = true := decide_eq_true c69
                      clear c69
                      by_cases c70 : t143 < (y140.length : Int)
                      · rw [if_pos c70] at H
                        have c70b0 : decide (t143 < (y140.length : Int)) = true := decide_eq_true c70
                        clear c70
                        simp only [Option.some.injEq, Prod.mk.injEq] at H
                        obtain ⟨rfl, rfl, rfl, rfl, rfl, rfl, rfl, rfl⟩ := H
                        go_wp2_with (first | ((with_reducible refine gate_callee (f := 59) rfl ?_); refine goesL_ (some 51) rfl rfl Try.func59 (by kernel_rfl) rfl #[.pointer (some ⟨g, 0, none⟩), .int .i64 a1] rfl (by (try simp only [List.map_toArray, List.map_cons, List.map_nil]); first | done | rfl | (simp only [List.length_drop, List.length_take]; rfl)) ?_; (with_reducible refine (spec_l20Rd_odd.calls kj13 g s0_0 t128 a1 true t131 w0 _ ?side1 ?side2 A49.out).mono ?_); (case side1 => repeat (first | (with_reducible first | exact HI0.out | apply IsS102.alloc | apply IsS102.drewN | apply IsS102.drew | apply IsS102.set_1 | refine IsS102.far ?_ NB0_106.out _ | refine IsS102.far ?_ NB0_119.out _) | exact HI0.out)); (case side2 => repeat (first | (with_reducible first | exact HB.out | apply below_alloc | apply pw_below_drewN | apply below_drew1 | refine below_set ?_ (IsS102.ge HI0.out) | refine below_set ?_ GE106.out | refine below_set ?_ GE119.out) | exact HB.out)); rintro e w71 ⟨rfl, hi, hb, hk⟩; refine ⟨_, rfl, ?_⟩; have n0_ := Aside0.mk (KeepBut.blk hk (g' := gb106) (o := .cells #[.bool false, .int .i64 0, .int .i64 0, .int .i64 0, .int .i64 0, .int .i64 0, .int .i64 0] 24 (0, 0)) (bk BK106) NB106_0.out (by simp)); have n1_ := Aside0.mk (KeepBut.blk hk (g' := gb119) (o := .cells #[.bool (t107 == 0), .int .i64 (wrap64 (1 + t109)), .int .i64 (wrap64 ((wrap64 (1 + t109)) + t120)), .int .i64 (wrap64 (100 + t111)), .int .i64 (wrap64 ((wrap64 (100 + t111)) + t122)), .int .i64 (rd y113 t116), .int .i64 x120006_13] 24 (0, 0)) (bk BK119) NB119_0.out (by simp)); have n2_ := Aside0.mk (KeepBut.trans (by repeat (first | (with_reducible first | exact HK.out | apply KeepBut.set_ | apply keep_drewN | apply keep_drew | apply keep_alloc | refine keep_far ?_ GW106.out _ | refine keep_far ?_ GW119.out _) | exact HK.out)) hk (.inl rfl)); have n3_ := Aside0.mk (hb); have n4_ := Aside0.mk (hi); clear BK106; clear BK119; clear HK; clear HB; clear HI0; have BK106 := n0_; have BK119 := n1_; have HK := n2_; have HB := n3_; have HI0 := n4_; clear n0_ n1_ n2_ n3_ n4_; (try clear hb); (try clear hb2); (try clear hk); (try clear hi)) | ((with_reducible refine gate_callee (f := 58) rfl ?_); refine goesL_ (some 53) rfl rfl Try.func58 (by kernel_rfl) rfl #[.pointer (some ⟨g, 0, none⟩), .int .i64 4] rfl (by (try simp only [List.map_toArray, List.map_cons, List.map_nil]); first | done | rfl | (simp only [List.length_drop, List.length_take]; rfl)) ?_; (with_reducible refine (spec_l20Rd_pick.calls kj13 g s0_0 t131 4 t132 t133 w0 _ ?side1 ?side2 A51.out).mono ?_); (case side1 => repeat (first | (with_reducible first | exact HI0.out | apply IsS102.alloc | apply IsS102.drewN | apply IsS102.drew | apply IsS102.set_1 | refine IsS102.far ?_ NB0_106.out _ | refine IsS102.far ?_ NB0_119.out _) | exact HI0.out)); (case side2 => repeat (first | (with_reducible first | exact HB.out | apply below_alloc | apply pw_below_drewN | apply below_drew1 | refine below_set ?_ (IsS102.ge HI0.out) | refine below_set ?_ GE106.out | refine below_set ?_ GE119.out) | exact HB.out)); rintro e w72 ⟨rfl, hi, hb, hk⟩; refine ⟨_, rfl, ?_⟩; have n0_ := Aside0.mk (KeepBut.blk hk (g' := gb106) (o := .cells #[.bool false, .int .i64 0, .int .i64 0, .int .i64 0, .int .i64 0, .int .i64 0, .int .i64 0] 24 (0, 0)) (bk BK106) NB106_0.out (by simp)); have n1_ := Aside0.mk (KeepBut.blk hk (g' := gb119) (o := .cells #[.bool (t107 == 0), .int .i64 (wrap64 (1 + t109)), .int .i64 (wrap64 ((wrap64 (1 + t109)) + t120)), .int .i64 (wrap64 (100 + t111)), .int .i64 (wrap64 ((wrap64 (100 + t111)) + t122)), .int .i64 (rd y113 t116), .int .i64 x120006_13] 24 (0, 0)) (bk BK119) NB119_0.out (by simp)); have n2_ := Aside0.mk (KeepBut.trans (by repeat (first | (with_reducible first | exact HK.out | apply KeepBut.set_ | apply keep_drewN | apply keep_drew | apply keep_alloc | refine keep_far ?_ GW106.out _ | refine keep_far ?_ GW119.out _) | exact HK.out)) hk (.inl rfl)); have n3_ := Aside0.mk (hb); have n4_ := Aside0.mk (hi); clear BK106; clear BK119; clear HK; clear HB; clear HI0; have BK106 := n0_; have BK119 := n1_; have HK := n2_; have HB := n3_; have HI0 := n4_; clear n0_ n1_ n2_ n3_ n4_; (try clear hb); (try clear hb2); (try clear hk); (try clear hi)) | ((with_reducible refine gate_dst (N := 65) rfl ?_); refine Kd.R_lit (Kd.int .i64) _ 3 ?hg (N := 65) ?hd (xs := ([110, 99] : List Int)) (inner := [.int .i64 110, .int .i64 99]) (ok := fun _ => True) (okp := fun _ => True) ?hr ?hp (fun _ hk => hk) trivial (Below.refl _ _) (Nat.le_refl _) (by simp) ?_; (case hd => rfl); (case hg => rfl); (case hr => first | (go_simp; done) | (go_simp; rfl)); (case hp => exact (Reps.one (show Kd.M (Kd.int .i64) _ _ _ 110 [.int .i64 110] from rfl) (Reps.one (show Kd.M (Kd.int .i64) _ _ _ 99 [.int .i64 99] from rfl) (Reps.none _ _)))); intro v141 w73 ho74 hb hg_ hnew_; clear hg_ hnew_; (first | rw [← Ny140.out] at ho74 | (simp only [Int.reduceToNat] at ho74; rw [← Ny140.out] at ho74)); have n0_ := Aside0.mk (Kd.R_lower ho74 (keep_size (w := w) (g := g) (row := none) (by repeat (first | (with_reducible first | exact HK.out | apply KeepBut.set_ | apply keep_drewN | apply keep_drew | apply keep_alloc | refine keep_far ?_ GW106.out _ | refine keep_far ?_ GW119.out _) | exact HK.out)))); have n1_ := bkB BK106 hb; have n2_ := bkB BK119 hb; have n3_ := Aside0.mk (IsS102.below (by repeat (first | (with_reducible first | exact HI0.out | apply IsS102.alloc | apply IsS102.drewN | apply IsS102.drew | apply IsS102.set_1 | refine IsS102.far ?_ NB0_106.out _ | refine IsS102.far ?_ NB0_119.out _) | exact HI0.out)) hb); have n4_ := Aside0.mk (KeepBut.trans (by repeat (first | (with_reducible first | exact HK.out | apply KeepBut.set_ | apply keep_drewN | apply keep_drew | apply keep_alloc | refine keep_far ?_ GW106.out _ | refine keep_far ?_ GW119.out _) | exact HK.out)) (KeepBut.of_below hb g none) (.inl rfl)); have n5_ := Aside0.mk (below_step (by repeat (first | (with_reducible first | exact HB.out | apply below_alloc | apply pw_below_drewN | apply below_drew1 | refine below_set ?_ (IsS102.ge HI0.out) | refine below_set ?_ GE106.out | refine below_set ?_ GE119.out) | exact HB.out)) hb); clear BK106; clear BK119; clear HI0; clear HK; clear HB; have HO142 := n0_; have BK106 := n1_; have BK119 := n2_; have HI0 := n3_; have HK := n4_; have HB := n5_; clear n0_ n1_ n2_ n3_ n4_ n5_; clear hb ho74) | ((with_reducible refine gate_callee (f := 58) rfl ?_); refine goesL_ (some 67) rfl rfl Try.func58 (by kernel_rfl) rfl #[.pointer (some ⟨g, 0, none⟩), .int .i64 2] rfl (by (try simp only [List.map_toArray, List.map_cons, List.map_nil]); first | done | rfl | (simp only [List.length_drop, List.length_take]; rfl)) ?_; (with_reducible refine (spec_l20Rd_pick.calls kj13 g s0_0 t133 2 t143 t144 w0 _ ?side1 ?side2 A68.out).mono ?_); (case side1 => repeat (first | (with_reducible first | exact HI0.out | apply IsS102.alloc | apply IsS102.drewN | apply IsS102.drew | apply IsS102.set_1 | refine IsS102.far ?_ NB0_106.out _ | refine IsS102.far ?_ NB0_119.out _) | exact HI0.out)); (case side2 => repeat (first | (with_reducible first | exact HB.out | apply below_alloc | apply pw_below_drewN | apply below_drew1 | refine below_set ?_ (IsS102.ge HI0.out) | refine below_set ?_ GE106.out | refine below_set ?_ GE119.out) | exact HB.out)); rintro e w75 ⟨rfl, hi, hb, hk⟩; refine ⟨_, rfl, ?_⟩; have n0_ := Aside0.mk (KeepBut.blk hk (g' := gb106) (o := .cells #[.bool false, .int .i64 0, .int .i64 0, .int .i64 0, .int .i64 0, .int .i64 0, .int .i64 0] 24 (0, 0)) (bk BK106) NB106_0.out (by simp)); have n1_ := Aside0.mk (KeepBut.blk hk (g' := gb119) (o := .cells #[.bool (t107 == 0), .int .i64 (wrap64 (1 + t109)), .int .i64 (wrap64 ((wrap64 (1 + t109)) + t120)), .int .i64 (wrap64 (100 + t111)), .int .i64 (wrap64 ((wrap64 (100 + t111)) + t122)), .int .i64 (rd y113 t116), .int .i64 x120006_13] 24 (0, 0)) (bk BK119) NB119_0.out (by simp)); have n2_ := Aside0.mk (Kd.R_mono (Kd.R_keep (IsS102.apart (show IsS102 w0 _ g s0_0 t133 from by repeat (first | (with_reducible first | exact HI0.out | apply IsS102.alloc | apply IsS102.drewN | apply IsS102.drew | apply IsS102.set_1 | refine IsS102.far ?_ NB0_106.out _ | refine IsS102.far ?_ NB0_119.out _) | exact HI0.out)) (rs HO142) (by decide)) hk (fun _ h => h.2)) (fun _ h => h.1)); have n3_ := Aside0.mk (KeepBut.trans (by repeat (first | (with_reducible first | exact HK.out | apply KeepBut.set_ | apply keep_drewN | apply keep_drew | apply keep_alloc | refine keep_far ?_ GW106.out _ | refine keep_far ?_ GW119.out _) | exact HK.out)) hk (.inl rfl)); have n4_ := Aside0.mk (hb); have n5_ := Aside0.mk (hi); clear BK106; clear BK119; clear HO142; clear HK; clear HB; clear HI0; have BK106 := n0_; have BK119 := n1_; have HO142 := n2_; have HK := n3_; have HB := n4_; have HI0 := n5_; clear n0_ n1_ n2_ n3_ n4_ n5_; (try clear hb); (try clear hb2); (try clear hk); (try clear hi); obtain ⟨Ao76, co76, eo76⟩ := Kd.R_slice HO142.out; subst eo76; have p145 : 0 ≤ (t143 : Int) := of_decide_eq_true (by first | (with_reducible assumption) | assumption); have q145 : t143 < (y140.length : Int) := of_decide_eq_true (by first | (with_reducible assumption) | assumption); obtain ⟨ad145, e145, hx145_0⟩ := Kd.at_int (Kd.R_reads' HO142.out).2.2 t143 p145 q145; cases e145; replace p145 := eq_true p145; replace q145 := eq_true q145; have hnb77 := NB119_106.out; have hnc77 := NB106_119.out; have hnb78 := NB119_0.out; have hnc78 := NB0_119.out; have hcz79_0 : w75.cell? ⟨gb119, 0, none⟩ = some (.bool (t107 == 0)) := (blk_cell BK119.out 0).trans rfl; have hcz79_1 : w75.cell? ⟨gb119, 1, none⟩ = some (.int .i64 (wrap64 (1 + t109))) := (blk_cell BK119.out 1).trans rfl; have hcz79_2 : w75.cell? ⟨gb119, 2, none⟩ = some (.int .i64 (wrap64 ((wrap64 (1 + t109)) + t120))) := (blk_cell BK119.out 2).trans rfl; have hcz79_3 : w75.cell? ⟨gb119, 3, none⟩ = some (.int .i64 (wrap64 (100 + t111))) := (blk_cell BK119.out 3).trans rfl; have hcz79_4 : w75.cell? ⟨gb119, 4, none⟩ = some (.int .i64 (wrap64 ((wrap64 (100 + t111)) + t122))) := (blk_cell BK119.out 4).trans rfl; have hcz79_5 : w75.cell? ⟨gb119, 5, none⟩ = some (.int .i64 (rd y113 t116)) := (blk_cell BK119.out 5).trans rfl; have hcz79_6 : w75.cell? ⟨gb119, 6, none⟩ = some (.int .i64 x120006_13) := (blk_cell BK119.out 6).trans rfl; have hfz79_0 := blk_frozen BK119.out 0; have hfz79_1 := blk_frozen BK119.out 1; have hfz79_2 := blk_frozen BK119.out 2; have hfz79_3 := blk_frozen BK119.out 3; have hfz79_4 := blk_frozen BK119.out 4; have hfz79_5 := blk_frozen BK119.out 5; have hfz79_6 := blk_frozen BK119.out 6; have hnb80 := NB106_0.out; have hnc80 := NB0_106.out; have hcz81_0 : w75.cell? ⟨gb106, 0, none⟩ = some (.bool false) := (blk_cell BK106.out 0).trans rfl; have hcz81_1 : w75.cell? ⟨gb106, 1, none⟩ = some (.int .i64 0) := (blk_cell BK106.out 1).trans rfl; have hcz81_2 : w75.cell? ⟨gb106, 2, none⟩ = some (.int .i64 0) := (blk_cell BK106.out 2).trans rfl; have hcz81_3 : w75.cell? ⟨gb106, 3, none⟩ = some (.int .i64 0) := (blk_cell BK106.out 3).trans rfl; have hcz81_4 : w75.cell? ⟨gb106, 4, none⟩ = some (.int .i64 0) := (blk_cell BK106.out 4).trans rfl; have hcz81_5 : w75.cell? ⟨gb106, 5, none⟩ = some (.int .i64 0) := (blk_cell BK106.out 5).trans rfl; have hcz81_6 : w75.cell? ⟨gb106, 6, none⟩ = some (.int .i64 0) := (blk_cell BK106.out 6).trans rfl; have hfz81_0 := blk_frozen BK106.out 0; have hfz81_1 := blk_frozen BK106.out 1; have hfz81_2 := blk_frozen BK106.out 2; have hfz81_3 := blk_frozen BK106.out 3; have hfz81_4 := blk_frozen BK106.out 4; have hfz81_5 := blk_frozen BK106.out 5; have hfz81_6 := blk_frozen BK106.out 6))
                        refine bodyPost_ret (results_cell_row rfl _ _ gb106 24 #[.bool (t107 == 0), .int .i64 (wrap64 (1 + t109)), .int .i64 (wrap64 ((wrap64 (1 + t109)) + t120)), .int .i64 (wrap64 (100 + t111)), .int .i64 (rd y140 t143), .int .i64 (rd y113 t116), .int .i64 x120006_13] (0, 0) _ rfl (by (with_reducible repeat refine bu ?_); refine blk_put (cs := #[.bool (t107 == 0), .int .i64 (wrap64 (1 + t109)), .int .i64 (wrap64 ((wrap64 (1 + t109)) + t120)), .int .i64 (wrap64 (100 + t111)), .int .i64 (rd y140 t143), .int .i64 (rd y113 t116), .int .i64 0]) ?_ 6 _ rfl; (with_reducible repeat refine bu ?_); refine blk_put (cs := #[.bool (t107 == 0), .int .i64 (wrap64 (1 + t109)), .int .i64 (wrap64 ((wrap64 (1 + t109)) + t120)), .int .i64 (wrap64 (100 + t111)), .int .i64 (rd y140 t143), .int .i64 0, .int .i64 0]) ?_ 5 _ rfl; (with_reducible repeat refine bu ?_); refine blk_put (cs := #[.bool (t107 == 0), .int .i64 (wrap64 (1 + t109)), .int .i64 (wrap64 ((wrap64 (1 + t109)) + t120)), .int .i64 (wrap64 (100 + t111)), .int .i64 0, .int .i64 0, .int .i64 0]) ?_ 4 _ rfl; (with_reducible repeat refine bu ?_); refine blk_put (cs := #[.bool (t107 == 0), .int .i64 (wrap64 (1 + t109)), .int .i64 (wrap64 ((wrap64 (1 + t109)) + t120)), .int .i64 0, .int .i64 0, .int .i64 0, .int .i64 0]) ?_ 3 _ rfl; (with_reducible repeat refine bu ?_); refine blk_put (cs := #[.bool (t107 == 0), .int .i64 (wrap64 (1 + t109)), .int .i64 0, .int .i64 0, .int .i64 0, .int .i64 0, .int .i64 0]) ?_ 2 _ rfl; (with_reducible repeat refine bu ?_); refine blk_put (cs := #[.bool (t107 == 0), .int .i64 0, .int .i64 0, .int .i64 0, .int .i64 0, .int .i64 0, .int .i64 0]) ?_ 1 _ rfl; (with_reducible repeat refine bu ?_); refine blk_put (cs := #[.bool false, .int .i64 0, .int .i64 0, .int .i64 0, .int .i64 0, .int .i64 0, .int .i64 0]) ?_ 0 _ rfl; (with_reducible repeat refine bu ?_); refine blk_far ?_ NB106_119.out _; (with_reducible repeat refine bu ?_); exact BK106.out) Try.underlying24 rfl (by kernel_rfl)) rfl ?_
                        exact ⟨by first | rfl | (simp [errW_none, errW_some] <;> rfl) | (simp [*, errW_none, errW_some] <;> rfl), by repeat (first | (with_reducible first | exact HI0.out | apply IsS102.alloc | apply IsS102.drewN | apply IsS102.drew | apply IsS102.set_1 | refine IsS102.far ?_ NB0_106.out _ | refine IsS102.far ?_ NB0_119.out _) | exact HI0.out), by repeat (first | (with_reducible first | exact HB.out | apply below_alloc | apply pw_below_drewN | apply below_drew1 | refine below_set ?_ (IsS102.ge HI0.out) | refine below_set ?_ GE106.out | refine below_set ?_ GE119.out) | exact HB.out), by repeat (first | (with_reducible first | exact HK.out | apply KeepBut.set_ | apply keep_drewN | apply keep_drew | apply keep_alloc | refine keep_far ?_ GW106.out _ | refine keep_far ?_ GW119.out _) | exact HK.out)⟩
                      · rw [if_neg c70] at H
                        exact absurd H (by simp)
                    · rw [if_neg c69] at H
                      exact absurd H (by simp)
                  · rw [if_neg c67] at H
                    have c67b0 : (t132 == 1) = false := beq_eq_false_iff_ne.mpr c67
                    have c67b1 : (t132 != 1) = true := bne_iff_ne.mpr c67
                    by_cases c82 : t132 = 2
                    · rw [if_pos c82] at H
                      have c82b0 : (t132 == 2) = true := beq_iff_eq.mpr c82
                      have c82b1 : (t132 != 2) = false := bne_eq_false_iff_eq.mpr c82
                      clear c82
                      obtain ⟨y146, hy146⟩ : ∃ y_ : List Int, y_ = (([0, 1000] : List Int)) := ⟨_, rfl⟩
                      replace H : ((spec_l20Rd_pick.f kj13 s0_0 t133 2).bind fun bt149 => (if 0 ≤ bt149.1 then (if bt149.1 < (y146.length : Int) then (some ((t107 == 0), (wrap64 (1 + t109)), (wrap64 ((wrap64 (1 + t109)) + t120)), (wrap64 (100 + t111)), (wrap64 ((wrap64 (100 + t111)) + t122)), (rd y113 t116), rd y146 bt149.1, bt149.2)) else (none)) else (none))) = some (r1, r2, r3, r4, r5, r6, r7, r8) := by first | (rw [hy146]; with_reducible exact H) | (have H2_ := (Option.bind_some _ _).symm.trans H; rw [hy146]; with_reducible exact H2_) | (have H2_ := (Option.bind_some _ _).symm.trans H; with_reducible exact H2_) | with_reducible exact H | (rw [hy146]; exact H) | exact H
                      have Ny146 := Aside0.mk hy146
                      clear hy146
                      replace H := Option.bind_eq_some_iff.mp H
                      obtain ⟨⟨t149, t150⟩, A830, H⟩ := H
                      replace H : (if 0 ≤ t149 then (if t149 < (y146.length : Int) then (some ((t107 == 0), (wrap64 (1 + t109)), (wrap64 ((wrap64 (1 + t109)) + t120)), (wrap64 (100 + t111)), (wrap64 ((wrap64 (100 + t111)) + t122)), (rd y113 t116), rd y146 t149, t150)) else (none)) else (none)) = some (r1, r2, r3, r4, r5, r6, r7, r8) := H
                      have A83 := Aside0.mk A830
                      clear A830
                      by_cases c84 : 0 ≤ t149
                      · rw [if_pos c84] at H
                        have c84b0 : decide (0 ≤ t149) = true := decide_eq_true c84
                        clear c84
                        by_cases c85 : t149 < (y146.length : Int)
                        · rw [if_pos c85] at H
                          have c85b0 : decide (t149 < (y146.length : Int)) = true := decide_eq_true c85
                          clear c85
                          simp only [Option.some.injEq, Prod.mk.injEq] at H
                          obtain ⟨rfl, rfl, rfl, rfl, rfl, rfl, rfl, rfl⟩ := H
                          go_wp2_with (first | ((with_reducible refine gate_callee (f := 59) rfl ?_); refine goesL_ (some 51) rfl rfl Try.func59 (by kernel_rfl) rfl #[.pointer (some ⟨g, 0, none⟩), .int .i64 a1] rfl (by (try simp only [List.map_toArray, List.map_cons, List.map_nil]); first | done | rfl | (simp only [List.length_drop, List.length_take]; rfl)) ?_; (with_reducible refine (spec_l20Rd_odd.calls kj13 g s0_0 t128 a1 true t131 w0 _ ?side1 ?side2 A49.out).mono ?_); (case side1 => repeat (first | (with_reducible first | exact HI0.out | apply IsS102.alloc | apply IsS102.drewN | apply IsS102.drew | apply IsS102.set_1 | refine IsS102.far ?_ NB0_106.out _ | refine IsS102.far ?_ NB0_119.out _) | exact HI0.out)); (case side2 => repeat (first | (with_reducible first | exact HB.out | apply below_alloc | apply pw_below_drewN | apply below_drew1 | refine below_set ?_ (IsS102.ge HI0.out) | refine below_set ?_ GE106.out | refine below_set ?_ GE119.out) | exact HB.out)); rintro e w86 ⟨rfl, hi, hb, hk⟩; refine ⟨_, rfl, ?_⟩; have n0_ := Aside0.mk (KeepBut.blk hk (g' := gb106) (o := .cells #[.bool false, .int .i64 0, .int .i64 0, .int .i64 0, .int .i64 0, .int .i64 0, .int .i64 0] 24 (0, 0)) (bk BK106) NB106_0.out (by simp)); have n1_ := Aside0.mk (KeepBut.blk hk (g' := gb119) (o := .cells #[.bool (t107 == 0), .int .i64 (wrap64 (1 + t109)), .int .i64 (wrap64 ((wrap64 (1 + t109)) + t120)), .int .i64 (wrap64 (100 + t111)), .int .i64 (wrap64 ((wrap64 (100 + t111)) + t122)), .int .i64 (rd y113 t116), .int .i64 x120006_13] 24 (0, 0)) (bk BK119) NB119_0.out (by simp)); have n2_ := Aside0.mk (KeepBut.trans (by repeat (first | (with_reducible first | exact HK.out | apply KeepBut.set_ | apply keep_drewN | apply keep_drew | apply keep_alloc | refine keep_far ?_ GW106.out _ | refine keep_far ?_ GW119.out _) | exact HK.out)) hk (.inl rfl)); have n3_ := Aside0.mk (hb); have n4_ := Aside0.mk (hi); clear BK106; clear BK119; clear HK; clear HB; clear HI0; have BK106 := n0_; have BK119 := n1_; have HK := n2_; have HB := n3_; have HI0 := n4_; clear n0_ n1_ n2_ n3_ n4_; (try clear hb); (try clear hb2); (try clear hk); (try clear hi)) | ((with_reducible refine gate_callee (f := 58) rfl ?_); refine goesL_ (some 53) rfl rfl Try.func58 (by kernel_rfl) rfl #[.pointer (some ⟨g, 0, none⟩), .int .i64 4] rfl (by (try simp only [List.map_toArray, List.map_cons, List.map_nil]); first | done | rfl | (simp only [List.length_drop, List.length_take]; rfl)) ?_; (with_reducible refine (spec_l20Rd_pick.calls kj13 g s0_0 t131 4 t132 t133 w0 _ ?side1 ?side2 A51.out).mono ?_); (case side1 => repeat (first | (with_reducible first | exact HI0.out | apply IsS102.alloc | apply IsS102.drewN | apply IsS102.drew | apply IsS102.set_1 | refine IsS102.far ?_ NB0_106.out _ | refine IsS102.far ?_ NB0_119.out _) | exact HI0.out)); (case side2 => repeat (first | (with_reducible first | exact HB.out | apply below_alloc | apply pw_below_drewN | apply below_drew1 | refine below_set ?_ (IsS102.ge HI0.out) | refine below_set ?_ GE106.out | refine below_set ?_ GE119.out) | exact HB.out)); rintro e w87 ⟨rfl, hi, hb, hk⟩; refine ⟨_, rfl, ?_⟩; have n0_ := Aside0.mk (KeepBut.blk hk (g' := gb106) (o := .cells #[.bool false, .int .i64 0, .int .i64 0, .int .i64 0, .int .i64 0, .int .i64 0, .int .i64 0] 24 (0, 0)) (bk BK106) NB106_0.out (by simp)); have n1_ := Aside0.mk (KeepBut.blk hk (g' := gb119) (o := .cells #[.bool (t107 == 0), .int .i64 (wrap64 (1 + t109)), .int .i64 (wrap64 ((wrap64 (1 + t109)) + t120)), .int .i64 (wrap64 (100 + t111)), .int .i64 (wrap64 ((wrap64 (100 + t111)) + t122)), .int .i64 (rd y113 t116), .int .i64 x120006_13] 24 (0, 0)) (bk BK119) NB119_0.out (by simp)); have n2_ := Aside0.mk (KeepBut.trans (by repeat (first | (with_reducible first | exact HK.out | apply KeepBut.set_ | apply keep_drewN | apply keep_drew | apply keep_alloc | refine keep_far ?_ GW106.out _ | refine keep_far ?_ GW119.out _) | exact HK.out)) hk (.inl rfl)); have n3_ := Aside0.mk (hb); have n4_ := Aside0.mk (hi); clear BK106; clear BK119; clear HK; clear HB; clear HI0; have BK106 := n0_; have BK119 := n1_; have HK := n2_; have HB := n3_; have HI0 := n4_; clear n0_ n1_ n2_ n3_ n4_; (try clear hb); (try clear hb2); (try clear hk); (try clear hi)) | ((with_reducible refine gate_dst (N := 73) rfl ?_); refine Kd.R_lit (Kd.int .i64) _ 3 ?hg (N := 73) ?hd (xs := ([0, 1000] : List Int)) (inner := [.int .i64 0, .int .i64 1000]) (ok := fun _ => True) (okp := fun _ => True) ?hr ?hp (fun _ hk => hk) trivial (Below.refl _ _) (Nat.le_refl _) (by simp) ?_; (case hd => rfl); (case hg => rfl); (case hr => first | (go_simp; done) | (go_simp; rfl)); (case hp => exact (Reps.one (show Kd.M (Kd.int .i64) _ _ _ 0 [.int .i64 0] from rfl) (Reps.one (show Kd.M (Kd.int .i64) _ _ _ 1000 [.int .i64 1000] from rfl) (Reps.none _ _)))); intro v147 w88 ho89 hb hg_ hnew_; clear hg_ hnew_; (first | rw [← Ny146.out] at ho89 | (simp only [Int.reduceToNat] at ho89; rw [← Ny146.out] at ho89)); have n0_ := Aside0.mk (Kd.R_lower ho89 (keep_size (w := w) (g := g) (row := none) (by repeat (first | (with_reducible first | exact HK.out | apply KeepBut.set_ | apply keep_drewN | apply keep_drew | apply keep_alloc | refine keep_far ?_ GW106.out _ | refine keep_far ?_ GW119.out _) | exact HK.out)))); have n1_ := bkB BK106 hb; have n2_ := bkB BK119 hb; have n3_ := Aside0.mk (IsS102.below (by repeat (first | (with_reducible first | exact HI0.out | apply IsS102.alloc | apply IsS102.drewN | apply IsS102.drew | apply IsS102.set_1 | refine IsS102.far ?_ NB0_106.out _ | refine IsS102.far ?_ NB0_119.out _) | exact HI0.out)) hb); have n4_ := Aside0.mk (KeepBut.trans (by repeat (first | (with_reducible first | exact HK.out | apply KeepBut.set_ | apply keep_drewN | apply keep_drew | apply keep_alloc | refine keep_far ?_ GW106.out _ | refine keep_far ?_ GW119.out _) | exact HK.out)) (KeepBut.of_below hb g none) (.inl rfl)); have n5_ := Aside0.mk (below_step (by repeat (first | (with_reducible first | exact HB.out | apply below_alloc | apply pw_below_drewN | apply below_drew1 | refine below_set ?_ (IsS102.ge HI0.out) | refine below_set ?_ GE106.out | refine below_set ?_ GE119.out) | exact HB.out)) hb); clear BK106; clear BK119; clear HI0; clear HK; clear HB; have HO148 := n0_; have BK106 := n1_; have BK119 := n2_; have HI0 := n3_; have HK := n4_; have HB := n5_; clear n0_ n1_ n2_ n3_ n4_ n5_; clear hb ho89) | ((with_reducible refine gate_callee (f := 58) rfl ?_); refine goesL_ (some 75) rfl rfl Try.func58 (by kernel_rfl) rfl #[.pointer (some ⟨g, 0, none⟩), .int .i64 2] rfl (by (try simp only [List.map_toArray, List.map_cons, List.map_nil]); first | done | rfl | (simp only [List.length_drop, List.length_take]; rfl)) ?_; (with_reducible refine (spec_l20Rd_pick.calls kj13 g s0_0 t133 2 t149 t150 w0 _ ?side1 ?side2 A83.out).mono ?_); (case side1 => repeat (first | (with_reducible first | exact HI0.out | apply IsS102.alloc | apply IsS102.drewN | apply IsS102.drew | apply IsS102.set_1 | refine IsS102.far ?_ NB0_106.out _ | refine IsS102.far ?_ NB0_119.out _) | exact HI0.out)); (case side2 => repeat (first | (with_reducible first | exact HB.out | apply below_alloc | apply pw_below_drewN | apply below_drew1 | refine below_set ?_ (IsS102.ge HI0.out) | refine below_set ?_ GE106.out | refine below_set ?_ GE119.out) | exact HB.out)); rintro e w90 ⟨rfl, hi, hb, hk⟩; refine ⟨_, rfl, ?_⟩; have n0_ := Aside0.mk (KeepBut.blk hk (g' := gb106) (o := .cells #[.bool false, .int .i64 0, .int .i64 0, .int .i64 0, .int .i64 0, .int .i64 0, .int .i64 0] 24 (0, 0)) (bk BK106) NB106_0.out (by simp)); have n1_ := Aside0.mk (KeepBut.blk hk (g' := gb119) (o := .cells #[.bool (t107 == 0), .int .i64 (wrap64 (1 + t109)), .int .i64 (wrap64 ((wrap64 (1 + t109)) + t120)), .int .i64 (wrap64 (100 + t111)), .int .i64 (wrap64 ((wrap64 (100 + t111)) + t122)), .int .i64 (rd y113 t116), .int .i64 x120006_13] 24 (0, 0)) (bk BK119) NB119_0.out (by simp)); have n2_ := Aside0.mk (Kd.R_mono (Kd.R_keep (IsS102.apart (show IsS102 w0 _ g s0_0 t133 from by repeat (first | (with_reducible first | exact HI0.out | apply IsS102.alloc | apply IsS102.drewN | apply IsS102.drew | apply IsS102.set_1 | refine IsS102.far ?_ NB0_106.out _ | refine IsS102.far ?_ NB0_119.out _) | exact HI0.out)) (rs HO148) (by decide)) hk (fun _ h => h.2)) (fun _ h => h.1)); have n3_ := Aside0.mk (KeepBut.trans (by repeat (first | (with_reducible first | exact HK.out | apply KeepBut.set_ | apply keep_drewN | apply keep_drew | apply keep_alloc | refine keep_far ?_ GW106.out _ | refine keep_far ?_ GW119.out _) | exact HK.out)) hk (.inl rfl)); have n4_ := Aside0.mk (hb); have n5_ := Aside0.mk (hi); clear BK106; clear BK119; clear HO148; clear HK; clear HB; clear HI0; have BK106 := n0_; have BK119 := n1_; have HO148 := n2_; have HK := n3_; have HB := n4_; have HI0 := n5_; clear n0_ n1_ n2_ n3_ n4_ n5_; (try clear hb); (try clear hb2); (try clear hk); (try clear hi); obtain ⟨Ao91, co91, eo91⟩ := Kd.R_slice HO148.out; subst eo91; have p151 : 0 ≤ (t149 : Int) := of_decide_eq_true (by first | (with_reducible assumption) | assumption); have q151 : t149 < (y146.length : Int) := of_decide_eq_true (by first | (with_reducible assumption) | assumption); obtain ⟨ad151, e151, hx151_0⟩ := Kd.at_int (Kd.R_reads' HO148.out).2.2 t149 p151 q151; cases e151; replace p151 := eq_true p151; replace q151 := eq_true q151; have hnb92 := NB119_106.out; have hnc92 := NB106_119.out; have hnb93 := NB119_0.out; have hnc93 := NB0_119.out; have hcz94_0 : w90.cell? ⟨gb119, 0, none⟩ = some (.bool (t107 == 0)) := (blk_cell BK119.out 0).trans rfl; have hcz94_1 : w90.cell? ⟨gb119, 1, none⟩ = some (.int .i64 (wrap64 (1 + t109))) := (blk_cell BK119.out 1).trans rfl; have hcz94_2 : w90.cell? ⟨gb119, 2, none⟩ = some (.int .i64 (wrap64 ((wrap64 (1 + t109)) + t120))) := (blk_cell BK119.out 2).trans rfl; have hcz94_3 : w90.cell? ⟨gb119, 3, none⟩ = some (.int .i64 (wrap64 (100 + t111))) := (blk_cell BK119.out 3).trans rfl; have hcz94_4 : w90.cell? ⟨gb119, 4, none⟩ = some (.int .i64 (wrap64 ((wrap64 (100 + t111)) + t122))) := (blk_cell BK119.out 4).trans rfl; have hcz94_5 : w90.cell? ⟨gb119, 5, none⟩ = some (.int .i64 (rd y113 t116)) := (blk_cell BK119.out 5).trans rfl; have hcz94_6 : w90.cell? ⟨gb119, 6, none⟩ = some (.int .i64 x120006_13) := (blk_cell BK119.out 6).trans rfl; have hfz94_0 := blk_frozen BK119.out 0; have hfz94_1 := blk_frozen BK119.out 1; have hfz94_2 := blk_frozen BK119.out 2; have hfz94_3 := blk_frozen BK119.out 3; have hfz94_4 := blk_frozen BK119.out 4; have hfz94_5 := blk_frozen BK119.out 5; have hfz94_6 := blk_frozen BK119.out 6; have hnb95 := NB106_0.out; have hnc95 := NB0_106.out; have hcz96_0 : w90.cell? ⟨gb106, 0, none⟩ = some (.bool false) := (blk_cell BK106.out 0).trans rfl; have hcz96_1 : w90.cell? ⟨gb106, 1, none⟩ = some (.int .i64 0) := (blk_cell BK106.out 1).trans rfl; have hcz96_2 : w90.cell? ⟨gb106, 2, none⟩ = some (.int .i64 0) := (blk_cell BK106.out 2).trans rfl; have hcz96_3 : w90.cell? ⟨gb106, 3, none⟩ = some (.int .i64 0) := (blk_cell BK106.out 3).trans rfl; have hcz96_4 : w90.cell? ⟨gb106, 4, none⟩ = some (.int .i64 0) := (blk_cell BK106.out 4).trans rfl; have hcz96_5 : w90.cell? ⟨gb106, 5, none⟩ = some (.int .i64 0) := (blk_cell BK106.out 5).trans rfl; have hcz96_6 : w90.cell? ⟨gb106, 6, none⟩ = some (.int .i64 0) := (blk_cell BK106.out 6).trans rfl; have hfz96_0 := blk_frozen BK106.out 0; have hfz96_1 := blk_frozen BK106.out 1; have hfz96_2 := blk_frozen BK106.out 2; have hfz96_3 := blk_frozen BK106.out 3; have hfz96_4 := blk_frozen BK106.out 4; have hfz96_5 := blk_frozen BK106.out 5; have hfz96_6 := blk_frozen BK106.out 6))
                          refine bodyPost_ret (results_cell_row rfl _ _ gb106 24 #[.bool (t107 == 0), .int .i64 (wrap64 (1 + t109)), .int .i64 (wrap64 ((wrap64 (1 + t109)) + t120)), .int .i64 (wrap64 (100 + t111)), .int .i64 (wrap64 ((wrap64 (100 + t111)) + t122)), .int .i64 (rd y113 t116), .int .i64 (rd y146 t149)] (0, 0) _ rfl (by (with_reducible repeat refine bu ?_); refine blk_put (cs := #[.bool (t107 == 0), .int .i64 (wrap64 (1 + t109)), .int .i64 (wrap64 ((wrap64 (1 + t109)) + t120)), .int .i64 (wrap64 (100 + t111)), .int .i64 (wrap64 ((wrap64 (100 + t111)) + t122)), .int .i64 (rd y113 t116), .int .i64 0]) ?_ 6 _ rfl; (with_reducible repeat refine bu ?_); refine blk_put (cs := #[.bool (t107 == 0), .int .i64 (wrap64 (1 + t109)), .int .i64 (wrap64 ((wrap64 (1 + t109)) + t120)), .int .i64 (wrap64 (100 + t111)), .int .i64 (wrap64 ((wrap64 (100 + t111)) + t122)), .int .i64 0, .int .i64 0]) ?_ 5 _ rfl; (with_reducible repeat refine bu ?_); refine blk_put (cs := #[.bool (t107 == 0), .int .i64 (wrap64 (1 + t109)), .int .i64 (wrap64 ((wrap64 (1 + t109)) + t120)), .int .i64 (wrap64 (100 + t111)), .int .i64 0, .int .i64 0, .int .i64 0]) ?_ 4 _ rfl; (with_reducible repeat refine bu ?_); refine blk_put (cs := #[.bool (t107 == 0), .int .i64 (wrap64 (1 + t109)), .int .i64 (wrap64 ((wrap64 (1 + t109)) + t120)), .int .i64 0, .int .i64 0, .int .i64 0, .int .i64 0]) ?_ 3 _ rfl; (with_reducible repeat refine bu ?_); refine blk_put (cs := #[.bool (t107 == 0), .int .i64 (wrap64 (1 + t109)), .int .i64 0, .int .i64 0, .int .i64 0, .int .i64 0, .int .i64 0]) ?_ 2 _ rfl; (with_reducible repeat refine bu ?_); refine blk_put (cs := #[.bool (t107 == 0), .int .i64 0, .int .i64 0, .int .i64 0, .int .i64 0, .int .i64 0, .int .i64 0]) ?_ 1 _ rfl; (with_reducible repeat refine bu ?_); refine blk_put (cs := #[.bool false, .int .i64 0, .int .i64 0, .int .i64 0, .int .i64 0, .int .i64 0, .int .i64 0]) ?_ 0 _ rfl; (with_reducible repeat refine bu ?_); refine blk_far ?_ NB106_119.out _; (with_reducible repeat refine bu ?_); exact BK106.out) Try.underlying24 rfl (by kernel_rfl)) rfl ?_
                          exact ⟨by first | rfl | (simp [errW_none, errW_some] <;> rfl) | (simp [*, errW_none, errW_some] <;> rfl), by repeat (first | (with_reducible first | exact HI0.out | apply IsS102.alloc | apply IsS102.drewN | apply IsS102.drew | apply IsS102.set_1 | refine IsS102.far ?_ NB0_106.out _ | refine IsS102.far ?_ NB0_119.out _) | exact HI0.out), by repeat (first | (with_reducible first | exact HB.out | apply below_alloc | apply pw_below_drewN | apply below_drew1 | refine below_set ?_ (IsS102.ge HI0.out) | refine below_set ?_ GE106.out | refine below_set ?_ GE119.out) | exact HB.out), by repeat (first | (with_reducible first | exact HK.out | apply KeepBut.set_ | apply keep_drewN | apply keep_drew | apply keep_alloc | refine keep_far ?_ GW106.out _ | refine keep_far ?_ GW119.out _) | exact HK.out)⟩
                        · rw [if_neg c85] at H
                          exact absurd H (by simp)
                      · rw [if_neg c84] at H
                        exact absurd H (by simp)
                    · rw [if_neg c82] at H
                      have c82b0 : (t132 == 2) = false := beq_eq_false_iff_ne.mpr c82
                      have c82b1 : (t132 != 2) = true := bne_iff_ne.mpr c82
                      simp only [Option.some.injEq, Prod.mk.injEq] at H
                      obtain ⟨rfl, rfl, rfl, rfl, rfl, rfl, rfl, rfl⟩ := H
                      go_wp2_with (first | ((with_reducible refine gate_callee (f := 59) rfl ?_); refine goesL_ (some 51) rfl rfl Try.func59 (by kernel_rfl) rfl #[.pointer (some ⟨g, 0, none⟩), .int .i64 a1] rfl (by (try simp only [List.map_toArray, List.map_cons, List.map_nil]); first | done | rfl | (simp only [List.length_drop, List.length_take]; rfl)) ?_; (with_reducible refine (spec_l20Rd_odd.calls kj13 g s0_0 t128 a1 true t131 w0 _ ?side1 ?side2 A49.out).mono ?_); (case side1 => repeat (first | (with_reducible first | exact HI0.out | apply IsS102.alloc | apply IsS102.drewN | apply IsS102.drew | apply IsS102.set_1 | refine IsS102.far ?_ NB0_106.out _ | refine IsS102.far ?_ NB0_119.out _) | exact HI0.out)); (case side2 => repeat (first | (with_reducible first | exact HB.out | apply below_alloc | apply pw_below_drewN | apply below_drew1 | refine below_set ?_ (IsS102.ge HI0.out) | refine below_set ?_ GE106.out | refine below_set ?_ GE119.out) | exact HB.out)); rintro e w97 ⟨rfl, hi, hb, hk⟩; refine ⟨_, rfl, ?_⟩; have n0_ := Aside0.mk (KeepBut.blk hk (g' := gb106) (o := .cells #[.bool false, .int .i64 0, .int .i64 0, .int .i64 0, .int .i64 0, .int .i64 0, .int .i64 0] 24 (0, 0)) (bk BK106) NB106_0.out (by simp)); have n1_ := Aside0.mk (KeepBut.blk hk (g' := gb119) (o := .cells #[.bool (t107 == 0), .int .i64 (wrap64 (1 + t109)), .int .i64 (wrap64 ((wrap64 (1 + t109)) + t120)), .int .i64 (wrap64 (100 + t111)), .int .i64 (wrap64 ((wrap64 (100 + t111)) + t122)), .int .i64 (rd y113 t116), .int .i64 x120006_13] 24 (0, 0)) (bk BK119) NB119_0.out (by simp)); have n2_ := Aside0.mk (KeepBut.trans (by repeat (first | (with_reducible first | exact HK.out | apply KeepBut.set_ | apply keep_drewN | apply keep_drew | apply keep_alloc | refine keep_far ?_ GW106.out _ | refine keep_far ?_ GW119.out _) | exact HK.out)) hk (.inl rfl)); have n3_ := Aside0.mk (hb); have n4_ := Aside0.mk (hi); clear BK106; clear BK119; clear HK; clear HB; clear HI0; have BK106 := n0_; have BK119 := n1_; have HK := n2_; have HB := n3_; have HI0 := n4_; clear n0_ n1_ n2_ n3_ n4_; (try clear hb); (try clear hb2); (try clear hk); (try clear hi)) | ((with_reducible refine gate_callee (f := 58) rfl ?_); refine goesL_ (some 53) rfl rfl Try.func58 (by kernel_rfl) rfl #[.pointer (some ⟨g, 0, none⟩), .int .i64 4] rfl (by (try simp only [List.map_toArray, List.map_cons, List.map_nil]); first | done | rfl | (simp only [List.length_drop, List.length_take]; rfl)) ?_; (with_reducible refine (spec_l20Rd_pick.calls kj13 g s0_0 t131 4 t132 t133 w0 _ ?side1 ?side2 A51.out).mono ?_); (case side1 => repeat (first | (with_reducible first | exact HI0.out | apply IsS102.alloc | apply IsS102.drewN | apply IsS102.drew | apply IsS102.set_1 | refine IsS102.far ?_ NB0_106.out _ | refine IsS102.far ?_ NB0_119.out _) | exact HI0.out)); (case side2 => repeat (first | (with_reducible first | exact HB.out | apply below_alloc | apply pw_below_drewN | apply below_drew1 | refine below_set ?_ (IsS102.ge HI0.out) | refine below_set ?_ GE106.out | refine below_set ?_ GE119.out) | exact HB.out)); rintro e w98 ⟨rfl, hi, hb, hk⟩; refine ⟨_, rfl, ?_⟩; have n0_ := Aside0.mk (KeepBut.blk hk (g' := gb106) (o := .cells #[.bool false, .int .i64 0, .int .i64 0, .int .i64 0, .int .i64 0, .int .i64 0, .int .i64 0] 24 (0, 0)) (bk BK106) NB106_0.out (by simp)); have n1_ := Aside0.mk (KeepBut.blk hk (g' := gb119) (o := .cells #[.bool (t107 == 0), .int .i64 (wrap64 (1 + t109)), .int .i64 (wrap64 ((wrap64 (1 + t109)) + t120)), .int .i64 (wrap64 (100 + t111)), .int .i64 (wrap64 ((wrap64 (100 + t111)) + t122)), .int .i64 (rd y113 t116), .int .i64 x120006_13] 24 (0, 0)) (bk BK119) NB119_0.out (by simp)); have n2_ := Aside0.mk (KeepBut.trans (by repeat (first | (with_reducible first | exact HK.out | apply KeepBut.set_ | apply keep_drewN | apply keep_drew | apply keep_alloc | refine keep_far ?_ GW106.out _ | refine keep_far ?_ GW119.out _) | exact HK.out)) hk (.inl rfl)); have n3_ := Aside0.mk (hb); have n4_ := Aside0.mk (hi); clear BK106; clear BK119; clear HK; clear HB; clear HI0; have BK106 := n0_; have BK119 := n1_; have HK := n2_; have HB := n3_; have HI0 := n4_; clear n0_ n1_ n2_ n3_ n4_; (try clear hb); (try clear hb2); (try clear hk); (try clear hi); have hnb99 := NB119_106.out; have hnc99 := NB106_119.out; have hnb100 := NB119_0.out; have hnc100 := NB0_119.out; have hcz101_0 : w98.cell? ⟨gb119, 0, none⟩ = some (.bool (t107 == 0)) := (blk_cell BK119.out 0).trans rfl; have hcz101_1 : w98.cell? ⟨gb119, 1, none⟩ = some (.int .i64 (wrap64 (1 + t109))) := (blk_cell BK119.out 1).trans rfl; have hcz101_2 : w98.cell? ⟨gb119, 2, none⟩ = some (.int .i64 (wrap64 ((wrap64 (1 + t109)) + t120))) := (blk_cell BK119.out 2).trans rfl; have hcz101_3 : w98.cell? ⟨gb119, 3, none⟩ = some (.int .i64 (wrap64 (100 + t111))) := (blk_cell BK119.out 3).trans rfl; have hcz101_4 : w98.cell? ⟨gb119, 4, none⟩ = some (.int .i64 (wrap64 ((wrap64 (100 + t111)) + t122))) := (blk_cell BK119.out 4).trans rfl; have hcz101_5 : w98.cell? ⟨gb119, 5, none⟩ = some (.int .i64 (rd y113 t116)) := (blk_cell BK119.out 5).trans rfl; have hcz101_6 : w98.cell? ⟨gb119, 6, none⟩ = some (.int .i64 x120006_13) := (blk_cell BK119.out 6).trans rfl; have hfz101_0 := blk_frozen BK119.out 0; have hfz101_1 := blk_frozen BK119.out 1; have hfz101_2 := blk_frozen BK119.out 2; have hfz101_3 := blk_frozen BK119.out 3; have hfz101_4 := blk_frozen BK119.out 4; have hfz101_5 := blk_frozen BK119.out 5; have hfz101_6 := blk_frozen BK119.out 6; have hnb102 := NB106_0.out; have hnc102 := NB0_106.out; have hcz103_0 : w98.cell? ⟨gb106, 0, none⟩ = some (.bool false) := (blk_cell BK106.out 0).trans rfl; have hcz103_1 : w98.cell? ⟨gb106, 1, none⟩ = some (.int .i64 0) := (blk_cell BK106.out 1).trans rfl; have hcz103_2 : w98.cell? ⟨gb106, 2, none⟩ = some (.int .i64 0) := (blk_cell BK106.out 2).trans rfl; have hcz103_3 : w98.cell? ⟨gb106, 3, none⟩ = some (.int .i64 0) := (blk_cell BK106.out 3).trans rfl; have hcz103_4 : w98.cell? ⟨gb106, 4, none⟩ = some (.int .i64 0) := (blk_cell BK106.out 4).trans rfl; have hcz103_5 : w98.cell? ⟨gb106, 5, none⟩ = some (.int .i64 0) := (blk_cell BK106.out 5).trans rfl; have hcz103_6 : w98.cell? ⟨gb106, 6, none⟩ = some (.int .i64 0) := (blk_cell BK106.out 6).trans rfl; have hfz103_0 := blk_frozen BK106.out 0; have hfz103_1 := blk_frozen BK106.out 1; have hfz103_2 := blk_frozen BK106.out 2; have hfz103_3 := blk_frozen BK106.out 3; have hfz103_4 := blk_frozen BK106.out 4; have hfz103_5 := blk_frozen BK106.out 5; have hfz103_6 := blk_frozen BK106.out 6))
                      refine bodyPost_ret (results_cell_row rfl _ _ gb106 24 #[.bool (t107 == 0), .int .i64 (wrap64 (1 + t109)), .int .i64 10, .int .i64 (wrap64 (100 + t111)), .int .i64 (wrap64 ((wrap64 (100 + t111)) + t122)), .int .i64 (rd y113 t116), .int .i64 x120006_13] (0, 0) _ rfl (by (with_reducible repeat refine bu ?_); refine blk_put (cs := #[.bool (t107 == 0), .int .i64 (wrap64 (1 + t109)), .int .i64 10, .int .i64 (wrap64 (100 + t111)), .int .i64 (wrap64 ((wrap64 (100 + t111)) + t122)), .int .i64 (rd y113 t116), .int .i64 0]) ?_ 6 _ rfl; (with_reducible repeat refine bu ?_); refine blk_put (cs := #[.bool (t107 == 0), .int .i64 (wrap64 (1 + t109)), .int .i64 10, .int .i64 (wrap64 (100 + t111)), .int .i64 (wrap64 ((wrap64 (100 + t111)) + t122)), .int .i64 0, .int .i64 0]) ?_ 5 _ rfl; (with_reducible repeat refine bu ?_); refine blk_put (cs := #[.bool (t107 == 0), .int .i64 (wrap64 (1 + t109)), .int .i64 10, .int .i64 (wrap64 (100 + t111)), .int .i64 0, .int .i64 0, .int .i64 0]) ?_ 4 _ rfl; (with_reducible repeat refine bu ?_); refine blk_put (cs := #[.bool (t107 == 0), .int .i64 (wrap64 (1 + t109)), .int .i64 10, .int .i64 0, .int .i64 0, .int .i64 0, .int .i64 0]) ?_ 3 _ rfl; (with_reducible repeat refine bu ?_); refine blk_put (cs := #[.bool (t107 == 0), .int .i64 (wrap64 (1 + t109)), .int .i64 0, .int .i64 0, .int .i64 0, .int .i64 0, .int .i64 0]) ?_ 2 _ rfl; (with_reducible repeat refine bu ?_); refine blk_put (cs := #[.bool (t107 == 0), .int .i64 0, .int .i64 0, .int .i64 0, .int .i64 0, .int .i64 0, .int .i64 0]) ?_ 1 _ rfl; (with_reducible repeat refine bu ?_); refine blk_put (cs := #[.bool false, .int .i64 0, .int .i64 0, .int .i64 0, .int .i64 0, .int .i64 0, .int .i64 0]) ?_ 0 _ rfl; (with_reducible repeat refine bu ?_); refine blk_far ?_ NB106_119.out _; (with_reducible repeat refine bu ?_); exact BK106.out) Try.underlying24 rfl (by kernel_rfl)) rfl ?_
                      exact ⟨by first | rfl | (simp [errW_none, errW_some] <;> rfl) | (simp [*, errW_none, errW_some] <;> rfl), by repeat (first | (with_reducible first | exact HI0.out | apply IsS102.alloc | apply IsS102.drewN | apply IsS102.drew | apply IsS102.set_1 | refine IsS102.far ?_ NB0_106.out _ | refine IsS102.far ?_ NB0_119.out _) | exact HI0.out), by repeat (first | (with_reducible first | exact HB.out | apply below_alloc | apply pw_below_drewN | apply below_drew1 | refine below_set ?_ (IsS102.ge HI0.out) | refine below_set ?_ GE106.out | refine below_set ?_ GE119.out) | exact HB.out), by repeat (first | (with_reducible first | exact HK.out | apply KeepBut.set_ | apply keep_drewN | apply keep_drew | apply keep_alloc | refine keep_far ?_ GW106.out _ | refine keep_far ?_ GW119.out _) | exact HK.out)⟩
              · replace c50 := Bool.eq_false_iff.mpr c50
                subst c50
                have H1 : (some ((t107 == 0), (wrap64 (1 + t109)), (wrap64 ((wrap64 (1 + t109)) + t120)), (wrap64 (100 + t111)), (wrap64 ((wrap64 (100 + t111)) + t122)), (rd y113 t116), x120006_13, t131)) = some (r1, r2, r3, r4, r5, r6, r7, r8) := by rw [if_neg (show ¬ (false = true) by decide)] at H; exact H
                clear H
                have H := H1
                clear H1
                simp only [Option.some.injEq, Prod.mk.injEq] at H
                obtain ⟨rfl, rfl, rfl, rfl, rfl, rfl, rfl, rfl⟩ := H
                go_wp2_with (first | ((with_reducible refine gate_callee (f := 59) rfl ?_); refine goesL_ (some 51) rfl rfl Try.func59 (by kernel_rfl) rfl #[.pointer (some ⟨g, 0, none⟩), .int .i64 a1] rfl (by (try simp only [List.map_toArray, List.map_cons, List.map_nil]); first | done | rfl | (simp only [List.length_drop, List.length_take]; rfl)) ?_; (with_reducible refine (spec_l20Rd_odd.calls kj13 g s0_0 t128 a1 false t131 w0 _ ?side1 ?side2 A49.out).mono ?_); (case side1 => repeat (first | (with_reducible first | exact HI0.out | apply IsS102.alloc | apply IsS102.drewN | apply IsS102.drew | apply IsS102.set_1 | refine IsS102.far ?_ NB0_106.out _ | refine IsS102.far ?_ NB0_119.out _) | exact HI0.out)); (case side2 => repeat (first | (with_reducible first | exact HB.out | apply below_alloc | apply pw_below_drewN | apply below_drew1 | refine below_set ?_ (IsS102.ge HI0.out) | refine below_set ?_ GE106.out | refine below_set ?_ GE119.out) | exact HB.out)); rintro e w104 ⟨rfl, hi, hb, hk⟩; refine ⟨_, rfl, ?_⟩; have n0_ := Aside0.mk (KeepBut.blk hk (g' := gb106) (o := .cells #[.bool false, .int .i64 0, .int .i64 0, .int .i64 0, .int .i64 0, .int .i64 0, .int .i64 0] 24 (0, 0)) (bk BK106) NB106_0.out (by simp)); have n1_ := Aside0.mk (KeepBut.blk hk (g' := gb119) (o := .cells #[.bool (t107 == 0), .int .i64 (wrap64 (1 + t109)), .int .i64 (wrap64 ((wrap64 (1 + t109)) + t120)), .int .i64 (wrap64 (100 + t111)), .int .i64 (wrap64 ((wrap64 (100 + t111)) + t122)), .int .i64 (rd y113 t116), .int .i64 x120006_13] 24 (0, 0)) (bk BK119) NB119_0.out (by simp)); have n2_ := Aside0.mk (KeepBut.trans (by repeat (first | (with_reducible first | exact HK.out | apply KeepBut.set_ | apply keep_drewN | apply keep_drew | apply keep_alloc | refine keep_far ?_ GW106.out _ | refine keep_far ?_ GW119.out _) | exact HK.out)) hk (.inl rfl)); have n3_ := Aside0.mk (hb); have n4_ := Aside0.mk (hi); clear BK106; clear BK119; clear HK; clear HB; clear HI0; have BK106 := n0_; have BK119 := n1_; have HK := n2_; have HB := n3_; have HI0 := n4_; clear n0_ n1_ n2_ n3_ n4_; (try clear hb); (try clear hb2); (try clear hk); (try clear hi); have hnb105 := NB119_106.out; have hnc105 := NB106_119.out; have hnb106 := NB119_0.out; have hnc106 := NB0_119.out; have hcz107_0 : w104.cell? ⟨gb119, 0, none⟩ = some (.bool (t107 == 0)) := (blk_cell BK119.out 0).trans rfl; have hcz107_1 : w104.cell? ⟨gb119, 1, none⟩ = some (.int .i64 (wrap64 (1 + t109))) := (blk_cell BK119.out 1).trans rfl; have hcz107_2 : w104.cell? ⟨gb119, 2, none⟩ = some (.int .i64 (wrap64 ((wrap64 (1 + t109)) + t120))) := (blk_cell BK119.out 2).trans rfl; have hcz107_3 : w104.cell? ⟨gb119, 3, none⟩ = some (.int .i64 (wrap64 (100 + t111))) := (blk_cell BK119.out 3).trans rfl; have hcz107_4 : w104.cell? ⟨gb119, 4, none⟩ = some (.int .i64 (wrap64 ((wrap64 (100 + t111)) + t122))) := (blk_cell BK119.out 4).trans rfl; have hcz107_5 : w104.cell? ⟨gb119, 5, none⟩ = some (.int .i64 (rd y113 t116)) := (blk_cell BK119.out 5).trans rfl; have hcz107_6 : w104.cell? ⟨gb119, 6, none⟩ = some (.int .i64 x120006_13) := (blk_cell BK119.out 6).trans rfl; have hfz107_0 := blk_frozen BK119.out 0; have hfz107_1 := blk_frozen BK119.out 1; have hfz107_2 := blk_frozen BK119.out 2; have hfz107_3 := blk_frozen BK119.out 3; have hfz107_4 := blk_frozen BK119.out 4; have hfz107_5 := blk_frozen BK119.out 5; have hfz107_6 := blk_frozen BK119.out 6; have hnb108 := NB106_0.out; have hnc108 := NB0_106.out; have hcz109_0 : w104.cell? ⟨gb106, 0, none⟩ = some (.bool false) := (blk_cell BK106.out 0).trans rfl; have hcz109_1 : w104.cell? ⟨gb106, 1, none⟩ = some (.int .i64 0) := (blk_cell BK106.out 1).trans rfl; have hcz109_2 : w104.cell? ⟨gb106, 2, none⟩ = some (.int .i64 0) := (blk_cell BK106.out 2).trans rfl; have hcz109_3 : w104.cell? ⟨gb106, 3, none⟩ = some (.int .i64 0) := (blk_cell BK106.out 3).trans rfl; have hcz109_4 : w104.cell? ⟨gb106, 4, none⟩ = some (.int .i64 0) := (blk_cell BK106.out 4).trans rfl; have hcz109_5 : w104.cell? ⟨gb106, 5, none⟩ = some (.int .i64 0) := (blk_cell BK106.out 5).trans rfl; have hcz109_6 : w104.cell? ⟨gb106, 6, none⟩ = some (.int .i64 0) := (blk_cell BK106.out 6).trans rfl; have hfz109_0 := blk_frozen BK106.out 0; have hfz109_1 := blk_frozen BK106.out 1; have hfz109_2 := blk_frozen BK106.out 2; have hfz109_3 := blk_frozen BK106.out 3; have hfz109_4 := blk_frozen BK106.out 4; have hfz109_5 := blk_frozen BK106.out 5; have hfz109_6 := blk_frozen BK106.out 6))
                refine bodyPost_ret (results_cell_row rfl _ _ gb106 24 #[.bool (t107 == 0), .int .i64 (wrap64 (1 + t109)), .int .i64 (wrap64 ((wrap64 (1 + t109)) + t120)), .int .i64 (wrap64 (100 + t111)), .int .i64 (wrap64 ((wrap64 (100 + t111)) + t122)), .int .i64 (rd y113 t116), .int .i64 x120006_13] (0, 0) _ rfl (by (with_reducible repeat refine bu ?_); refine blk_put (cs := #[.bool (t107 == 0), .int .i64 (wrap64 (1 + t109)), .int .i64 (wrap64 ((wrap64 (1 + t109)) + t120)), .int .i64 (wrap64 (100 + t111)), .int .i64 (wrap64 ((wrap64 (100 + t111)) + t122)), .int .i64 (rd y113 t116), .int .i64 0]) ?_ 6 _ rfl; (with_reducible repeat refine bu ?_); refine blk_put (cs := #[.bool (t107 == 0), .int .i64 (wrap64 (1 + t109)), .int .i64 (wrap64 ((wrap64 (1 + t109)) + t120)), .int .i64 (wrap64 (100 + t111)), .int .i64 (wrap64 ((wrap64 (100 + t111)) + t122)), .int .i64 0, .int .i64 0]) ?_ 5 _ rfl; (with_reducible repeat refine bu ?_); refine blk_put (cs := #[.bool (t107 == 0), .int .i64 (wrap64 (1 + t109)), .int .i64 (wrap64 ((wrap64 (1 + t109)) + t120)), .int .i64 (wrap64 (100 + t111)), .int .i64 0, .int .i64 0, .int .i64 0]) ?_ 4 _ rfl; (with_reducible repeat refine bu ?_); refine blk_put (cs := #[.bool (t107 == 0), .int .i64 (wrap64 (1 + t109)), .int .i64 (wrap64 ((wrap64 (1 + t109)) + t120)), .int .i64 0, .int .i64 0, .int .i64 0, .int .i64 0]) ?_ 3 _ rfl; (with_reducible repeat refine bu ?_); refine blk_put (cs := #[.bool (t107 == 0), .int .i64 (wrap64 (1 + t109)), .int .i64 0, .int .i64 0, .int .i64 0, .int .i64 0, .int .i64 0]) ?_ 2 _ rfl; (with_reducible repeat refine bu ?_); refine blk_put (cs := #[.bool (t107 == 0), .int .i64 0, .int .i64 0, .int .i64 0, .int .i64 0, .int .i64 0, .int .i64 0]) ?_ 1 _ rfl; (with_reducible repeat refine bu ?_); refine blk_put (cs := #[.bool false, .int .i64 0, .int .i64 0, .int .i64 0, .int .i64 0, .int .i64 0, .int .i64 0]) ?_ 0 _ rfl; (with_reducible repeat refine bu ?_); exact BK106.out) Try.underlying24 rfl (by kernel_rfl)) rfl ?_
                exact ⟨by first | rfl | (simp [errW_none, errW_some] <;> rfl) | (simp [*, errW_none, errW_some] <;> rfl), by repeat (first | (with_reducible first | exact HI0.out | apply IsS102.alloc | apply IsS102.drewN | apply IsS102.drew | apply IsS102.set_1 | refine IsS102.far ?_ NB0_106.out _ | refine IsS102.far ?_ NB0_119.out _) | exact HI0.out), by repeat (first | (with_reducible first | exact HB.out | apply below_alloc | apply pw_below_drewN | apply below_drew1 | refine below_set ?_ (IsS102.ge HI0.out) | refine below_set ?_ GE106.out | refine below_set ?_ GE119.out) | exact HB.out), by repeat (first | (with_reducible first | exact HK.out | apply KeepBut.set_ | apply keep_drewN | apply keep_drew | apply keep_alloc | refine keep_far ?_ GW106.out _ | refine keep_far ?_ GW119.out _) | exact HK.out)⟩
        · rw [if_neg c13] at H
          exact absurd H (by simp)
      · rw [if_neg c12] at H
        exact absurd H (by simp)
    · rw [if_neg c8] at H
      exact absurd H (by simp)
  · rw [if_neg c7] at H
    exact absurd H (by simp)

end Go.Proofs.Ytiocgkggegahhaa.P
