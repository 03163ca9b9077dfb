import Derived.Test.YtiocgkggegahhaaGLawFnMapPutx5
-- written by hw.py for this claim
namespace Go.Proofs.Ytiocgkggegahhaa.P
open Go.RowKit Go.Proofs.YtiocgkggegahhaaUFnMapPut.PrintWords Go.Proofs.YtiocgkggegahhaaUFnMapPut.PrintLast Go.Proofs.YtiocgkggegahhaaUFnMapPut.PrintMore
attribute [local go_sem] max2_int min2_int max_two min_two max_three min_three max_four min_four
set_option linter.unusedVariables false
set_option linter.unusedSimpArgs false

attribute [local go_sem high] eqA29
/-! ### laws_FnMapPut: function 9 -/
mutual
def laws_FnMapPut.j0 : Nat → Int → Bool → List (S29) → Int → Int → List (S29) → Option (Bool)
  | 0, _, _, _, _, _, _ => none
  | k + 1, x6, x50, x797000, x798000, x798001, x803000 => if x50 = true then (some false) else ((spec_MapOk.f k x797000).bind fun t811 => (if t811 = true then ((spec_EndInside.f x798000 x798001).bind fun t812 => (laws_FnMapPut.j1 k x6 (!t812) x797000 x798000 x798001 x803000)) else (laws_FnMapPut.j1 k x6 true x797000 x798000 x798001 x803000)))
def laws_FnMapPut.j1 : Nat → Int → Bool → List (S29) → Int → Int → List (S29) → Option (Bool)
  | 0, _, _, _, _, _, _ => none
  | k + 1, x6, x58, x797000, x798000, x798001, x803000 => if x58 = true then (if x6 = 0 then (if (x803000.length : Int) = 0 then ((laws_haOk.f).bind fun t813 => (some t813)) else (some false)) else (some false)) else ((impl_MapOk.f k x803000).bind fun t814 => (if t814 = true then ((laws_haFirst.f k x803000 x797000).bind fun t815 => (laws_FnMapPut.j2 k x6 (!t815) x797000 x798000 x798001 x803000)) else (laws_FnMapPut.j2 k x6 true x797000 x798000 x798001 x803000)))
def laws_FnMapPut.j2 : Nat → Int → Bool → List (S29) → Int → Int → List (S29) → Option (Bool)
  | 0, _, _, _, _, _, _ => none
  | k + 1, x6, x80, x797000, x798000, x798001, x803000 => if x80 = true then (some false) else ((impl_MapPort.f x797000 x798000 x798001).bind fun t816 => (if x6 = 0 then (if t816 = 0 then (if (x797000.length : Int) = 6 then ((laws_haEnds.f k x803000 x797000).bind fun t817 => (some t817)) else (some false)) else (some false)) else ((impl_MapEnd.f x803000 x6).bind fun bt818 => (if bt818.2.2 = true then (if (!(bt818.1 == x798000) || (!(bt818.2.1 == x798001))) = true then (laws_FnMapPut.j3 k true x797000 x803000) else ((impl_MapPort.f x803000 x798000 x798001).bind fun t822 => (if t822 = x6 then (if t816 = 0 then (laws_FnMapPut.j3 k false x797000 x803000) else (laws_FnMapPut.j3 k (t816 != x6) x797000 x803000)) else (laws_FnMapPut.j3 k true x797000 x803000)))) else (laws_FnMapPut.j3 k true x797000 x803000)))))
def laws_FnMapPut.j3 : Nat → Bool → List (S29) → List (S29) → Option (Bool)
  | 0, _, _, _ => none
  | k + 1, x129, x797000, x803000 => if x129 = true then (some false) else (laws_FnMapPut.l0 k 0 x797000 x803000)
def laws_FnMapPut.l0 : Nat → Int → List (S29) → List (S29) → Option (Bool)
  | 0, _, _, _ => none
  | k + 1, x12, x797000, x803000 => if x12 < (x797000.length : Int) then (if 0 ≤ x12 then ((impl_MapPort.f x803000 ((rd_T29 x797000 x12).f0) ((rd_T29 x797000 x12).f1)).bind fun t824 => ((impl_MapPort.f x797000 ((rd_T29 x797000 x12).f0) ((rd_T29 x797000 x12).f1)).bind fun t826 => (if t824 = t826 then (laws_FnMapPut.l0 k (wrap64 (x12 + 1)) x797000 x803000) else (some false)))) else (none)) else (some (decide ((x803000.length : Int) ≤ (wrap64 ((x797000.length : Int) + 1)))))
end
def laws_FnMapPut.f (k : Nat) (l0 : List Int) : Option (Bool) := if (l0.length : Int) > 1048576 then (some true) else ((spec_DrawMapPut.f k l0).bind fun bt791 => ((impl_MapPut.f k bt791.1 bt791.2.1 bt791.2.2).bind fun bt798 => ((spec_MapPut.f k bt791.1 bt791.2.1 bt791.2.2).bind fun bt803 => ((laws_haEnds.f k bt798.1 bt803.1).bind fun t808 => (if t808 = true then (if bt798.2 = bt803.2 then ((impl_MapOk.f k bt791.1).bind fun t809 => ((spec_MapOk.f k bt791.1).bind fun t810 => (laws_FnMapPut.j0 k bt798.2 (t809 != t810) bt791.1 bt791.2.1 bt791.2.2 bt798.1))) else (laws_FnMapPut.j0 k bt798.2 true bt791.1 bt791.2.1 bt791.2.2 bt798.1)) else (laws_FnMapPut.j0 k bt798.2 true bt791.1 bt791.2.1 bt791.2.2 bt798.1))))))
theorem laws_FnMapPut.mono_l : ∀ k, (∀ y0 y1 y2 y3 y4 y5, LeO (laws_FnMapPut.j0 k y0 y1 y2 y3 y4 y5) (laws_FnMapPut.j0 (k + 1) y0 y1 y2 y3 y4 y5)) ∧ (∀ y0 y1 y2 y3 y4 y5, LeO (laws_FnMapPut.j1 k y0 y1 y2 y3 y4 y5) (laws_FnMapPut.j1 (k + 1) y0 y1 y2 y3 y4 y5)) ∧ (∀ y0 y1 y2 y3 y4 y5, LeO (laws_FnMapPut.j2 k y0 y1 y2 y3 y4 y5) (laws_FnMapPut.j2 (k + 1) y0 y1 y2 y3 y4 y5)) ∧ (∀ y0 y1 y2, LeO (laws_FnMapPut.j3 k y0 y1 y2) (laws_FnMapPut.j3 (k + 1) y0 y1 y2)) ∧ (∀ y0 y1 y2, LeO (laws_FnMapPut.l0 k y0 y1 y2) (laws_FnMapPut.l0 (k + 1) y0 y1 y2))
  | 0 => ⟨fun _ _ _ _ _ _ r h => by simp [laws_FnMapPut.j0] at h, fun _ _ _ _ _ _ r h => by simp [laws_FnMapPut.j1] at h, fun _ _ _ _ _ _ r h => by simp [laws_FnMapPut.j2] at h, fun _ _ _ r h => by simp [laws_FnMapPut.j3] at h, fun _ _ _ r h => by simp [laws_FnMapPut.l0] at h⟩
  | k + 1 => by
    obtain ⟨ih0, ih1, ih2, ih3, ih4⟩ := laws_FnMapPut.mono_l k
    refine ⟨?_, ?_, ?_, ?_, ?_⟩
    · intro y0 y1 y2 y3 y4 y5
      unfold laws_FnMapPut.j0
      repeat' first
      | (with_reducible exact ih0 _ _ _ _ _ _)
      | (with_reducible exact ih1 _ _ _ _ _ _)
      | (with_reducible exact ih2 _ _ _ _ _ _)
      | (with_reducible exact ih3 _ _ _)
      | (with_reducible exact ih4 _ _ _)
      | (with_reducible exact impl_MapOk.mono _ _)
      | (with_reducible exact impl_MapPut.mono _ _ _ _)
      | (with_reducible exact laws_haEnds.mono _ _ _)
      | (with_reducible exact laws_haFirst.mono _ _ _)
      | (with_reducible exact spec_DrawMapPut.mono _ _)
      | (with_reducible exact spec_MapOk.mono _ _)
      | (with_reducible exact spec_MapPut.mono _ _ _ _)
      | (with_reducible exact LeO.refl _)
      | (with_reducible exact LeO.none _)
      | (with_reducible refine LeO.ite ?_ ?_)
      | (with_reducible refine LeO.bind ?_ (fun _ => ?_))
      | exact ih0 _ _ _ _ _ _
      | exact ih1 _ _ _ _ _ _
      | exact ih2 _ _ _ _ _ _
      | exact ih3 _ _ _
      | exact ih4 _ _ _
      | exact impl_MapOk.mono _ _
      | exact impl_MapPut.mono _ _ _ _
      | exact laws_haEnds.mono _ _ _
      | exact laws_haFirst.mono _ _ _
      | exact spec_DrawMapPut.mono _ _
      | exact spec_MapOk.mono _ _
      | exact spec_MapPut.mono _ _ _ _
      | exact LeO.none _
      | refine LeO.ite ?_ ?_
      | refine LeO.bind ?_ (fun _ => ?_)
    · intro y0 y1 y2 y3 y4 y5
      unfold laws_FnMapPut.j1
      repeat' first
      | (with_reducible exact ih0 _ _ _ _ _ _)
      | (with_reducible exact ih1 _ _ _ _ _ _)
      | (with_reducible exact ih2 _ _ _ _ _ _)
      | (with_reducible exact ih3 _ _ _)
      | (with_reducible exact ih4 _ _ _)
      | (with_reducible exact impl_MapOk.mono _ _)
      | (with_reducible exact impl_MapPut.mono _ _ _ _)
      | (with_reducible exact laws_haEnds.mono _ _ _)
      | (with_reducible exact laws_haFirst.mono _ _ _)
      | (with_reducible exact spec_DrawMapPut.mono _ _)
      | (with_reducible exact spec_MapOk.mono _ _)
      | (with_reducible exact spec_MapPut.mono _ _ _ _)
      | (with_reducible exact LeO.refl _)
      | (with_reducible exact LeO.none _)
      | (with_reducible refine LeO.ite ?_ ?_)
      | (with_reducible refine LeO.bind ?_ (fun _ => ?_))
      | exact ih0 _ _ _ _ _ _
      | exact ih1 _ _ _ _ _ _
      | exact ih2 _ _ _ _ _ _
      | exact ih3 _ _ _
      | exact ih4 _ _ _
      | exact impl_MapOk.mono _ _
      | exact impl_MapPut.mono _ _ _ _
      | exact laws_haEnds.mono _ _ _
      | exact laws_haFirst.mono _ _ _
      | exact spec_DrawMapPut.mono _ _
      | exact spec_MapOk.mono _ _
      | exact spec_MapPut.mono _ _ _ _
      | exact LeO.none _
      | refine LeO.ite ?_ ?_
      | refine LeO.bind ?_ (fun _ => ?_)
    · intro y0 y1 y2 y3 y4 y5
      unfold laws_FnMapPut.j2
      repeat' first
      | (with_reducible exact ih0 _ _ _ _ _ _)
      | (with_reducible exact ih1 _ _ _ _ _ _)
      | (with_reducible exact ih2 _ _ _ _ _ _)
      | (with_reducible exact ih3 _ _ _)
      | (with_reducible exact ih4 _ _ _)
      | (with_reducible exact impl_MapOk.mono _ _)
      | (with_reducible exact impl_MapPut.mono _ _ _ _)
      | (with_reducible exact laws_haEnds.mono _ _ _)
      | (with_reducible exact laws_haFirst.mono _ _ _)
      | (with_reducible exact spec_DrawMapPut.mono _ _)
      | (with_reducible exact spec_MapOk.mono _ _)
      | (with_reducible exact spec_MapPut.mono _ _ _ _)
      | (with_reducible exact LeO.refl _)
      | (with_reducible exact LeO.none _)
      | (with_reducible refine LeO.ite ?_ ?_)
      | (with_reducible refine LeO.bind ?_ (fun _ => ?_))
      | exact ih0 _ _ _ _ _ _
      | exact ih1 _ _ _ _ _ _
      | exact ih2 _ _ _ _ _ _
      | exact ih3 _ _ _
      | exact ih4 _ _ _
      | exact impl_MapOk.mono _ _
      | exact impl_MapPut.mono _ _ _ _
      | exact laws_haEnds.mono _ _ _
      | exact laws_haFirst.mono _ _ _
      | exact spec_DrawMapPut.mono _ _
      | exact spec_MapOk.mono _ _
      | exact spec_MapPut.mono _ _ _ _
      | exact LeO.none _
      | refine LeO.ite ?_ ?_
      | refine LeO.bind ?_ (fun _ => ?_)
    · intro y0 y1 y2
      unfold laws_FnMapPut.j3
      repeat' first
      | (with_reducible exact ih0 _ _ _ _ _ _)
      | (with_reducible exact ih1 _ _ _ _ _ _)
      | (with_reducible exact ih2 _ _ _ _ _ _)
      | (with_reducible exact ih3 _ _ _)
      | (with_reducible exact ih4 _ _ _)
      | (with_reducible exact impl_MapOk.mono _ _)
      | (with_reducible exact impl_MapPut.mono _ _ _ _)
      | (with_reducible exact laws_haEnds.mono _ _ _)
      | (with_reducible exact laws_haFirst.mono _ _ _)
      | (with_reducible exact spec_DrawMapPut.mono _ _)
      | (with_reducible exact spec_MapOk.mono _ _)
      | (with_reducible exact spec_MapPut.mono _ _ _ _)
      | (with_reducible exact LeO.refl _)
      | (with_reducible exact LeO.none _)
      | (with_reducible refine LeO.ite ?_ ?_)
      | (with_reducible refine LeO.bind ?_ (fun _ => ?_))
      | exact ih0 _ _ _ _ _ _
      | exact ih1 _ _ _ _ _ _
      | exact ih2 _ _ _ _ _ _
      | exact ih3 _ _ _
      | exact ih4 _ _ _
      | exact impl_MapOk.mono _ _
      | exact impl_MapPut.mono _ _ _ _
      | exact laws_haEnds.mono _ _ _
      | exact laws_haFirst.mono _ _ _
      | exact spec_DrawMapPut.mono _ _
      | exact spec_MapOk.mono _ _
      | exact spec_MapPut.mono _ _ _ _
      | exact LeO.none _
      | refine LeO.ite ?_ ?_
      | refine LeO.bind ?_ (fun _ => ?_)
    · intro y0 y1 y2
      unfold laws_FnMapPut.l0
      repeat' first
      | (with_reducible exact ih0 _ _ _ _ _ _)
      | (with_reducible exact ih1 _ _ _ _ _ _)
      | (with_reducible exact ih2 _ _ _ _ _ _)
      | (with_reducible exact ih3 _ _ _)
      | (with_reducible exact ih4 _ _ _)
      | (with_reducible exact impl_MapOk.mono _ _)
      | (with_reducible exact impl_MapPut.mono _ _ _ _)
      | (with_reducible exact laws_haEnds.mono _ _ _)
      | (with_reducible exact laws_haFirst.mono _ _ _)
      | (with_reducible exact spec_DrawMapPut.mono _ _)
      | (with_reducible exact spec_MapOk.mono _ _)
      | (with_reducible exact spec_MapPut.mono _ _ _ _)
      | (with_reducible exact LeO.refl _)
      | (with_reducible exact LeO.none _)
      | (with_reducible refine LeO.ite ?_ ?_)
      | (with_reducible refine LeO.bind ?_ (fun _ => ?_))
      | exact ih0 _ _ _ _ _ _
      | exact ih1 _ _ _ _ _ _
      | exact ih2 _ _ _ _ _ _
      | exact ih3 _ _ _
      | exact ih4 _ _ _
      | exact impl_MapOk.mono _ _
      | exact impl_MapPut.mono _ _ _ _
      | exact laws_haEnds.mono _ _ _
      | exact laws_haFirst.mono _ _ _
      | exact spec_DrawMapPut.mono _ _
      | exact spec_MapOk.mono _ _
      | exact spec_MapPut.mono _ _ _ _
      | exact LeO.none _
      | refine LeO.ite ?_ ?_
      | refine LeO.bind ?_ (fun _ => ?_)
theorem laws_FnMapPut.mono : ∀ a0 k, LeO (laws_FnMapPut.f k a0) (laws_FnMapPut.f (k + 1) a0) := by
  intro a0 k
  obtain ⟨ih0, ih1, ih2, ih3, ih4⟩ := laws_FnMapPut.mono_l k
  unfold laws_FnMapPut.f
  repeat' first
      | (with_reducible exact ih0 _ _ _ _ _ _)
      | (with_reducible exact ih1 _ _ _ _ _ _)
      | (with_reducible exact ih2 _ _ _ _ _ _)
      | (with_reducible exact ih3 _ _ _)
      | (with_reducible exact ih4 _ _ _)
      | (with_reducible exact impl_MapOk.mono _ _)
      | (with_reducible exact impl_MapPut.mono _ _ _ _)
      | (with_reducible exact laws_haEnds.mono _ _ _)
      | (with_reducible exact laws_haFirst.mono _ _ _)
      | (with_reducible exact spec_DrawMapPut.mono _ _)
      | (with_reducible exact spec_MapOk.mono _ _)
      | (with_reducible exact spec_MapPut.mono _ _ _ _)
      | (with_reducible exact LeO.refl _)
      | (with_reducible exact LeO.none _)
      | (with_reducible refine LeO.ite ?_ ?_)
      | (with_reducible refine LeO.bind ?_ (fun _ => ?_))
      | exact ih0 _ _ _ _ _ _
      | exact ih1 _ _ _ _ _ _
      | exact ih2 _ _ _ _ _ _
      | exact ih3 _ _ _
      | exact ih4 _ _ _
      | exact impl_MapOk.mono _ _
      | exact impl_MapPut.mono _ _ _ _
      | exact laws_haEnds.mono _ _ _
      | exact laws_haFirst.mono _ _ _
      | exact spec_DrawMapPut.mono _ _
      | exact spec_MapOk.mono _ _
      | exact spec_MapPut.mono _ _ _ _
      | exact LeO.none _
      | refine LeO.ite ?_ ?_
      | refine LeO.bind ?_ (fun _ => ?_)
def laws_FnMapPut.T6 : Bool × List (List Nat × List Nat) := (true, [([], []), ([0], [0]), ([], []), ([2], [2]), ([1, 3], [1, 3]), ([4], [4]), ([5, 4], [5]), ([6], [6]), ([6], [6]), ([7, 8, 6], [6, 7, 8]), ([6, 9], [6, 9]), ([10, 6], [10]), ([11], [11]), ([12, 11, 11], [11, 12]), ([11], [11]), ([14, 13, 11], [11, 14]), ([13, 15, 11], [11, 13, 15]), ([11, 16], [11, 16])])
def laws_FnMapPut.B6 : List Nat := [0, 1, 0, 4, 15, 31, 63, 127, 127, 511, 1023, 2047, 4095, 8191, 4095, 32767, 65535, 131071]
theorem laws_FnMapPut.tab6 : rtab .any (opsOf Try.f9 6) = laws_FnMapPut.T6 := by kernel_rfl
theorem laws_FnMapPut.bits6 : waitsOk laws_FnMapPut.T6.2 laws_FnMapPut.B6 = true := by kernel_rfl
def laws_FnMapPut.T21 : Bool × List (List Nat × List Nat) := (true, [([], []), ([], []), ([1], [1]), ([], []), ([2, 3], [2, 3]), ([4], [4]), ([0, 5], [0, 5]), ([], []), ([], []), ([8], [8]), ([], []), ([9, 10], [9, 10]), ([11], [11]), ([7, 12, 6], [7, 12]), ([6, 13], [6, 13])])
def laws_FnMapPut.B21 : List Nat := [0, 0, 2, 0, 14, 30, 63, 0, 0, 256, 0, 1792, 3840, 8191, 16383]
theorem laws_FnMapPut.tab21 : rtab .any (opsOf Try.f9 21) = laws_FnMapPut.T21 := by kernel_rfl
theorem laws_FnMapPut.bits21 : waitsOk laws_FnMapPut.T21.2 laws_FnMapPut.B21 = true := by kernel_rfl
set_option maxHeartbeats 8000000 in
set_option maxRecDepth 100000 in
theorem laws_FnMapPut.calls (k : Nat) (A0 : Option Addr) (c0 : Nat) (l0 : List Int) (r : Bool) (w : World) (hr0 : Kd.C (Kd.int .u8) w A0 l0.length l0) (hc0 : l0.length ≤ c0) (h : laws_FnMapPut.f k l0 = some r) (hrt : Aside0 (r = true)) :
    Calls Try.prog 9 #[.slice A0 l0.length c0] w fun e w' => e = .returned (.bool r) ∧ Below w.heap.size w w' := by
  have hu45 := Try.underlying45
  have hu29 := Try.underlying29
  have HR0 := Aside0.mk hr0
  have HC0 := Aside0.mk hc0
  clear hr0 hc0
  have HB := Aside0.mk (Below.refl w.heap.size w)
  have H : (if (l0.length : Int) > 1048576 then (some true) else ((spec_DrawMapPut.f k l0).bind fun bt791 => ((impl_MapPut.f k bt791.1 bt791.2.1 bt791.2.2).bind fun bt798 => ((spec_MapPut.f k bt791.1 bt791.2.1 bt791.2.2).bind fun bt803 => ((laws_haEnds.f k bt798.1 bt803.1).bind fun t808 => (if t808 = true then (if bt798.2 = bt803.2 then ((impl_MapOk.f k bt791.1).bind fun t809 => ((spec_MapOk.f k bt791.1).bind fun t810 => (laws_FnMapPut.j0 k bt798.2 (t809 != t810) bt791.1 bt791.2.1 bt791.2.2 bt798.1))) else (laws_FnMapPut.j0 k bt798.2 true bt791.1 bt791.2.1 bt791.2.2 bt798.1)) else (laws_FnMapPut.j0 k bt798.2 true bt791.1 bt791.2.1 bt791.2.2 bt798.1))))))) = some r := h
  clear h
  by_cases c2 : (l0.length : Int) > 1048576
  · rw [if_pos c2] at H
    have c2b0 : decide (1048576 < (l0.length : Int)) = true := decide_eq_true c2
    have c2b1 : decide (1048576 < l0.length) = true := decide_eq_true (by omega)
    clear c2
    obtain rfl := Option.some.inj H
    go_enter Try.func9, Try.ntmps9
    go_wp2
    go_ret
    exact ⟨by first | rfl | (simp [errW_none, errW_some] <;> rfl) | (simp [*, errW_none, errW_some] <;> rfl), by repeat (first | (with_reducible first | exact HB.out | apply below_alloc | apply pw_below_drewN | apply below_drew1) | exact HB.out)⟩
  · rw [if_neg c2] at H
    have c2b0 : decide (1048576 < (l0.length : Int)) = false := decide_eq_false c2
    have c2b1 : decide (1048576 < l0.length) = false := decide_eq_false (by omega)
    clear c2
    replace H := Option.bind_eq_some_iff.mp H
    obtain ⟨⟨t791, t794, t795⟩, A30, H⟩ := H
    replace H : ((impl_MapPut.f k t791 t794 t795).bind fun bt798 => ((spec_MapPut.f k t791 t794 t795).bind fun bt803 => ((laws_haEnds.f k bt798.1 bt803.1).bind fun t808 => (if t808 = true then (if bt798.2 = bt803.2 then ((impl_MapOk.f k t791).bind fun t809 => ((spec_MapOk.f k t791).bind fun t810 => (laws_FnMapPut.j0 k bt798.2 (t809 != t810) t791 t794 t795 bt798.1))) else (laws_FnMapPut.j0 k bt798.2 true t791 t794 t795 bt798.1)) else (laws_FnMapPut.j0 k bt798.2 true t791 t794 t795 bt798.1))))) = some r := H
    have A3 := Aside0.mk A30
    clear A30
    replace H := Option.bind_eq_some_iff.mp H
    obtain ⟨⟨t798, t801⟩, A40, H⟩ := H
    replace H : ((spec_MapPut.f k t791 t794 t795).bind fun bt803 => ((laws_haEnds.f k t798 bt803.1).bind fun t808 => (if t808 = true then (if t801 = bt803.2 then ((impl_MapOk.f k t791).bind fun t809 => ((spec_MapOk.f k t791).bind fun t810 => (laws_FnMapPut.j0 k t801 (t809 != t810) t791 t794 t795 t798))) else (laws_FnMapPut.j0 k t801 true t791 t794 t795 t798)) else (laws_FnMapPut.j0 k t801 true t791 t794 t795 t798)))) = some r := H
    have A4 := Aside0.mk A40
    clear A40
    replace H := Option.bind_eq_some_iff.mp H
    obtain ⟨⟨t803, t806⟩, A50, H⟩ := H
    replace H : ((laws_haEnds.f k t798 t803).bind fun t808 => (if t808 = true then (if t801 = t806 then ((impl_MapOk.f k t791).bind fun t809 => ((spec_MapOk.f k t791).bind fun t810 => (laws_FnMapPut.j0 k t801 (t809 != t810) t791 t794 t795 t798))) else (laws_FnMapPut.j0 k t801 true t791 t794 t795 t798)) else (laws_FnMapPut.j0 k t801 true t791 t794 t795 t798))) = some r := H
    have A5 := Aside0.mk A50
    clear A50
    have HC6 := Aside0.mk H
    clear H
    go_enter Try.func9, Try.ntmps9
    go_upto_region 6 with (first | ((with_reducible refine gate_callee (f := 24) rfl ?_); refine goesL_ (some 18) rfl rfl Try.func24 (by kernel_rfl) rfl #[.slice A0 l0.length c0] rfl (by (try simp only [List.map_toArray, List.map_cons, List.map_nil]); first | done | rfl | (simp only [List.length_drop, List.length_take]; rfl)) ?_; (with_reducible refine (spec_DrawMapPut.calls k _ _ l0 t791 t794 t795 _ ?side1 ?side2 A3.out).mono ?_); (case side1 => repeat (first | exact HR0.out | (with_reducible refine Kd.C_alloc ?_ _) | (with_reducible refine Kd.C_drewN ?_ _) | (with_reducible refine Kd.C_drew ?_))); (case side2 => exact HC0.out); rintro e w7 ⟨v792, rfl, ho0, hb⟩; refine ⟨_, rfl, ?_⟩; have n0_ := Aside0.mk (Kd.R_lower ho0 (below_size (bl HB))); have n1_ := Aside0.mk (below_step (bl HB) hb); clear HB; have HO793 := n0_; have HB := n1_; clear n0_ n1_; (try clear hb); (try clear hb2); (try clear hk); (try clear hi); (try clear ho0)) | ((with_reducible refine gate_dst (N := 3) rfl ?_); refine box_event ?hg (N := 3) ?hd (cs := #[.slice none 0 0]) (t := 45) ?hr ?_; (case hd => rfl); (case hg => rfl); (case hr => first | (go_simp; done) | (go_simp; rfl)); intro gb796 hg w8 hbox hb; have n0_ := Aside0.mk (Kd.R_below (rs HO793) hb); have n1_ := Aside0.mk (below_step (bl HB) hb); have n2_ := Aside0.mk (hbox); have n3_ := Aside0.mk ((by rw [hg]; exact (below_size (bl HB)) : w.heap.size ≤ gb796)); have n4_ := Aside0.mk ((by rw [hg]; exact (below_size (bl HB)) : w.heap.size ≤ gb796)); clear HO793; clear HB; have HO793 := n0_; have HB := n1_; have BK796 := n2_; have GW796 := n3_; have GE796 := n4_; clear n0_ n1_ n2_ n3_ n4_; clear hb hbox hg) | ((with_reducible refine gate_dst (N := 4) rfl ?_); refine box_event ?hg (N := 4) ?hd (cs := #[.int .i64 0, .int .i64 0]) (t := 29) ?hr ?_; (case hd => rfl); (case hg => rfl); (case hr => first | (go_simp; done) | (go_simp; rfl)); intro gb797 hg w9 hbox hb; have n0_ := Aside0.mk (Kd.R_below (Kd.R_elderB (rs HO793) gb797 (Nat.le_of_eq hg.symm)) hb); have n1_ := bkB BK796 hb; have n2_ := Aside0.mk (below_step (bl HB) hb); have n3_ := Aside0.mk (hbox); have n4_ := Aside0.mk ((by rw [hg]; exact (below_size (bl HB)) : w.heap.size ≤ gb797)); have n5_ := Aside0.mk ((by rw [hg]; exact (below_size (bl HB)) : w.heap.size ≤ gb797)); have n6_ := Aside0.mk ((by rw [hg]; exact Nat.ne_of_lt (bkL BK796) : gb796 ≠ gb797)); have n7_ := Aside0.mk ((by rw [hg]; exact Nat.ne_of_gt (bkL BK796) : gb797 ≠ gb796)); clear HO793; clear BK796; clear HB; have HO793 := n0_; have BK796 := n1_; have HB := n2_; have BK797 := n3_; have GW797 := n4_; have GE797 := n5_; have NB796_797 := n6_; have NB797_796 := n7_; clear n0_ n1_ n2_ n3_ n4_ n5_ n6_ n7_; clear hb hbox hg; obtain ⟨Ao10, co10, eo10⟩ := Kd.R_slice HO793.out; subst eo10; have hnb11 := NB796_797.out; have hnc11 := NB797_796.out; have hcz12_0 : w9.cell? ⟨gb796, 0, none⟩ = some (.slice none 0 0) := (blk_cell BK796.out 0).trans rfl; have hfz12_0 := blk_frozen BK796.out 0; have hcz13_0 : w9.cell? ⟨gb797, 0, none⟩ = some (.int .i64 0) := (blk_cell BK797.out 0).trans rfl; have hcz13_1 : w9.cell? ⟨gb797, 1, none⟩ = some (.int .i64 0) := (blk_cell BK797.out 1).trans rfl; have hfz13_0 := blk_frozen BK797.out 0; have hfz13_1 := blk_frozen BK797.out 1) | ((with_reducible refine gate_callee (f := 26) rfl ?_); refine goesL_ (some 24) rfl rfl Try.func26 (by kernel_rfl) rfl #[.agg #[.slice Ao10 t791.length co10], .agg #[.int .i64 t794, .int .i64 t795]] rfl (by (try simp only [List.map_toArray, List.map_cons, List.map_nil]); first | done | rfl | (simp only [List.length_drop, List.length_take]; rfl)) ?_; (with_reducible refine (impl_MapPut.calls k _ _ t791 t794 t795 t798 t801 _ ?side1 ?side2 A4.out).mono ?_); (case side1 => refine (Kd.R_reads' (e := 29) (base := w.heap.size) (ok := fun k_ => (True ∧ k_ ≠ gb797)) (n := t791.length) (c := co10) ?_).2.2; exact (by (with_reducible repeat apply ru); exact (Kd.R_mono (Kd.R_mono (Kd.R_far (p := ⟨gb797, 1, none⟩) (Kd.R_far (p := ⟨gb797, 0, none⟩) (Kd.R_far (p := ⟨gb796, 0, none⟩) (Kd.R_mono (Kd.R_types HO793.out BK796.out (by decide)) (fun k_ hk => (⟨hk, hk.1.2⟩ : _ ∧ k_ ≠ gb797))) (fun _ hk => hk.1.2) (.slice Ao10 t791.length co10)) (fun _ hk => hk.2) (.int .i64 t794)) (fun _ hk => hk.2) (.int .i64 t795)) (fun _ h_ => h_.1)) (fun _ h_ => h_.1)))); (case side2 => exact (Kd.R_reads' HO793.out).2.1); rintro e w14 ⟨v799, rfl, ho0, hb⟩; refine ⟨_, rfl, ?_⟩; have n0_ := Aside0.mk (Kd.R_elder' (by (with_reducible repeat apply ru); exact (Kd.R_mono (Kd.R_mono (Kd.R_far (p := ⟨gb797, 1, none⟩) (Kd.R_far (p := ⟨gb797, 0, none⟩) (Kd.R_far (p := ⟨gb796, 0, none⟩) (Kd.R_mono (Kd.R_types HO793.out BK796.out (by decide)) (fun k_ hk => (⟨hk, hk.1.2⟩ : _ ∧ k_ ≠ gb797))) (fun _ hk => hk.1.2) (.slice Ao10 t791.length co10)) (fun _ hk => hk.2) (.int .i64 t794)) (fun _ hk => hk.2) (.int .i64 t795)) (fun _ h_ => h_.1)) (fun _ h_ => h_.1))) (Kd.R_base ho0) hb); have n1_ := Aside0.mk (Kd.R_lower (Kd.R_newB (Kd.R_new' ho0 (Kd.R_lt (by (with_reducible repeat apply ru); exact (Kd.R_mono (Kd.R_mono (Kd.R_far (p := ⟨gb797, 1, none⟩) (Kd.R_far (p := ⟨gb797, 0, none⟩) (Kd.R_far (p := ⟨gb796, 0, none⟩) (Kd.R_mono (Kd.R_types HO793.out BK796.out (by decide)) (fun k_ hk => (⟨hk, hk.1.2⟩ : _ ∧ k_ ≠ gb797))) (fun _ hk => hk.1.2) (.slice Ao10 t791.length co10)) (fun _ hk => hk.2) (.int .i64 t794)) (fun _ hk => hk.2) (.int .i64 t795)) (fun _ h_ => h_.1)) (fun _ h_ => h_.1))))) (g := gb797) (o := .cells #[.int .i64 t794, .int .i64 t795] 29 (0, 0)) (by (with_reducible repeat refine bu ?_); refine blk_put (cs := #[.int .i64 t794, .int .i64 0]) ?_ 1 _ rfl; (with_reducible repeat refine bu ?_); refine blk_put (cs := #[.int .i64 0, .int .i64 0]) ?_ 0 _ rfl; (with_reducible repeat refine bu ?_); refine blk_far ?_ NB797_796.out _; (with_reducible repeat refine bu ?_); exact BK797.out)) (below_size (bl HB))); have n2_ := Aside0.mk (blk_below (g := gb796) (o := .cells #[.slice Ao10 t791.length co10] 45 (0, 0)) (by (with_reducible repeat refine bu ?_); refine blk_far ?_ NB796_797.out _; (with_reducible repeat refine bu ?_); refine blk_far ?_ NB796_797.out _; (with_reducible repeat refine bu ?_); refine blk_put (cs := #[.slice none 0 0]) ?_ 0 _ rfl; (with_reducible repeat refine bu ?_); exact BK796.out) hb); have n3_ := Aside0.mk (blk_below (g := gb797) (o := .cells #[.int .i64 t794, .int .i64 t795] 29 (0, 0)) (by (with_reducible repeat refine bu ?_); refine blk_put (cs := #[.int .i64 t794, .int .i64 0]) ?_ 1 _ rfl; (with_reducible repeat refine bu ?_); refine blk_put (cs := #[.int .i64 0, .int .i64 0]) ?_ 0 _ rfl; (with_reducible repeat refine bu ?_); refine blk_far ?_ NB797_796.out _; (with_reducible repeat refine bu ?_); exact BK797.out) hb); have n4_ := Aside0.mk (below_step (bl HB) hb); clear HO793; clear BK796; clear BK797; clear HB; have HO793 := n0_; have HO800 := n1_; have BK796 := n2_; have BK797 := n3_; have HB := n4_; clear n0_ n1_ n2_ n3_ n4_; (try clear hb); (try clear hb2); (try clear hk); (try clear hi); (try clear ho0)) | ((with_reducible refine gate_dst (N := 5) rfl ?_); refine box_event ?hg (N := 5) ?hd (cs := #[.slice none 0 0]) (t := 45) ?hr ?_; (case hd => rfl); (case hg => rfl); (case hr => first | (go_simp; done) | (go_simp; rfl)); intro gb802 hg w15 hbox hb; have n0_ := Aside0.mk (Kd.R_below (rs HO793) hb); have n1_ := Aside0.mk (Kd.R_below (rs HO800) hb); have n2_ := bkB BK796 hb; have n3_ := bkB BK797 hb; have n4_ := Aside0.mk (below_step (bl HB) hb); have n5_ := Aside0.mk (hbox); have n6_ := Aside0.mk ((by rw [hg]; exact (below_size (bl HB)) : w.heap.size ≤ gb802)); have n7_ := Aside0.mk ((by rw [hg]; exact (below_size (bl HB)) : w.heap.size ≤ gb802)); have n8_ := Aside0.mk ((by rw [hg]; exact Nat.ne_of_lt (bkL BK796) : gb796 ≠ gb802)); have n9_ := Aside0.mk ((by rw [hg]; exact Nat.ne_of_gt (bkL BK796) : gb802 ≠ gb796)); have n10_ := Aside0.mk ((by rw [hg]; exact Nat.ne_of_lt (bkL BK797) : gb797 ≠ gb802)); have n11_ := Aside0.mk ((by rw [hg]; exact Nat.ne_of_gt (bkL BK797) : gb802 ≠ gb797)); clear HO793; clear HO800; clear BK796; clear BK797; clear HB; have HO793 := n0_; have HO800 := n1_; have BK796 := n2_; have BK797 := n3_; have HB := n4_; have BK802 := n5_; have GW802 := n6_; have GE802 := n7_; have NB796_802 := n8_; have NB802_796 := n9_; have NB797_802 := n10_; have NB802_797 := n11_; clear n0_ n1_ n2_ n3_ n4_ n5_ n6_ n7_ n8_ n9_ n10_ n11_; clear hb hbox hg; obtain ⟨Ao16, co16, eo16⟩ := Kd.R_slice HO800.out; subst eo16; have hnb17 := NB802_796.out; have hnc17 := NB796_802.out; have hnb18 := NB802_797.out; have hnc18 := NB797_802.out; have hcz19_0 : w15.cell? ⟨gb802, 0, none⟩ = some (.slice none 0 0) := (blk_cell BK802.out 0).trans rfl; have hfz19_0 := blk_frozen BK802.out 0; have hcz20_0 : w15.cell? ⟨gb796, 0, none⟩ = some (.slice Ao10 t791.length co10) := (blk_cell BK796.out 0).trans rfl; have hfz20_0 := blk_frozen BK796.out 0; have hcz21_0 : w15.cell? ⟨gb797, 0, none⟩ = some (.int .i64 t794) := (blk_cell BK797.out 0).trans rfl; have hcz21_1 : w15.cell? ⟨gb797, 1, none⟩ = some (.int .i64 t795) := (blk_cell BK797.out 1).trans rfl; have hfz21_0 := blk_frozen BK797.out 0; have hfz21_1 := blk_frozen BK797.out 1) | ((with_reducible refine gate_callee (f := 29) rfl ?_); refine goesL_ (some 30) rfl rfl Try.func29 (by kernel_rfl) rfl #[.agg #[.slice Ao10 t791.length co10], .agg #[.int .i64 t794, .int .i64 t795]] rfl (by (try simp only [List.map_toArray, List.map_cons, List.map_nil]); first | done | rfl | (simp only [List.length_drop, List.length_take]; rfl)) ?_; (with_reducible refine (spec_MapPut.calls k _ _ t791 t794 t795 t803 t806 _ ?side1 ?side2 A5.out).mono ?_); (case side1 => refine (Kd.R_reads' (e := 29) (base := w.heap.size) (ok := fun k_ => ((True ∧ k_ ≠ gb797) ∧ some k_ ≠ (.slice Ao16 t798.length co16 : Value).ownBlock)) (n := t791.length) (c := co10) ?_).2.2; exact (by (with_reducible repeat apply ru); exact (Kd.R_mono (Kd.R_far (p := ⟨gb802, 0, none⟩) (Kd.R_types HO793.out BK802.out (by decide)) (fun _ hk => hk.2) (.slice Ao16 t798.length co16)) (fun _ h_ => h_.1)))); (case side2 => exact (Kd.R_reads' HO793.out).2.1); rintro e w22 ⟨v804, rfl, ho0, hb⟩; refine ⟨_, rfl, ?_⟩; have n0_ := Aside0.mk (Kd.R_elder' (by (with_reducible repeat apply ru); exact (Kd.R_mono (Kd.R_far (p := ⟨gb802, 0, none⟩) (Kd.R_types HO793.out BK802.out (by decide)) (fun _ hk => hk.2) (.slice Ao16 t798.length co16)) (fun _ h_ => h_.1))) (Kd.R_base ho0) hb); have n1_ := Aside0.mk (Kd.R_elder' (by (with_reducible repeat apply ru); exact (Kd.R_mono (Kd.R_far (p := ⟨gb802, 0, none⟩) (Kd.R_types HO800.out BK802.out (by decide)) (fun _ hk => hk.2) (.slice Ao16 t798.length co16)) (fun _ h_ => h_.1))) (Kd.R_base ho0) hb); have n2_ := Aside0.mk (Kd.R_lower (Kd.R_newB (Kd.R_new' (Kd.R_new' ho0 (Kd.R_lt (by (with_reducible repeat apply ru); exact (Kd.R_mono (Kd.R_far (p := ⟨gb802, 0, none⟩) (Kd.R_types HO793.out BK802.out (by decide)) (fun _ hk => hk.2) (.slice Ao16 t798.length co16)) (fun _ h_ => h_.1))))) (Kd.R_lt (by (with_reducible repeat apply ru); exact (Kd.R_mono (Kd.R_far (p := ⟨gb802, 0, none⟩) (Kd.R_types HO800.out BK802.out (by decide)) (fun _ hk => hk.2) (.slice Ao16 t798.length co16)) (fun _ h_ => h_.1))))) (g := gb797) (o := .cells #[.int .i64 t794, .int .i64 t795] 29 (0, 0)) (by (with_reducible repeat refine bu ?_); refine blk_far ?_ NB797_802.out _; (with_reducible repeat refine bu ?_); exact BK797.out)) (below_size (bl HB))); have n3_ := Aside0.mk (blk_below (g := gb796) (o := .cells #[.slice Ao10 t791.length co10] 45 (0, 0)) (by (with_reducible repeat refine bu ?_); refine blk_far ?_ NB796_802.out _; (with_reducible repeat refine bu ?_); exact BK796.out) hb); have n4_ := Aside0.mk (blk_below (g := gb797) (o := .cells #[.int .i64 t794, .int .i64 t795] 29 (0, 0)) (by (with_reducible repeat refine bu ?_); refine blk_far ?_ NB797_802.out _; (with_reducible repeat refine bu ?_); exact BK797.out) hb); have n5_ := Aside0.mk (blk_below (g := gb802) (o := .cells #[.slice Ao16 t798.length co16] 45 (0, 0)) (by (with_reducible repeat refine bu ?_); refine blk_put (cs := #[.slice none 0 0]) ?_ 0 _ rfl; (with_reducible repeat refine bu ?_); exact BK802.out) hb); have n6_ := Aside0.mk (below_step (bl HB) hb); clear HO793; clear HO800; clear BK796; clear BK797; clear BK802; clear HB; have HO793 := n0_; have HO800 := n1_; have HO805 := n2_; have BK796 := n3_; have BK797 := n4_; have BK802 := n5_; have HB := n6_; clear n0_ n1_ n2_ n3_ n4_ n5_ n6_; (try clear hb); (try clear hb2); (try clear hk); (try clear hi); (try clear ho0)) | ((with_reducible refine gate_dst (N := 7) rfl ?_); refine box_event ?hg (N := 7) ?hd (cs := #[.slice none 0 0]) (t := 45) ?hr ?_; (case hd => rfl); (case hg => rfl); (case hr => first | (go_simp; done) | (go_simp; rfl)); intro gb807 hg w23 hbox hb; have n0_ := Aside0.mk (Kd.R_below (rs HO793) hb); have n1_ := Aside0.mk (Kd.R_below (rs HO800) hb); have n2_ := Aside0.mk (Kd.R_below (rs HO805) hb); have n3_ := bkB BK796 hb; have n4_ := bkB BK797 hb; have n5_ := bkB BK802 hb; have n6_ := Aside0.mk (below_step (bl HB) hb); have n7_ := Aside0.mk (hbox); have n8_ := Aside0.mk ((by rw [hg]; exact (below_size (bl HB)) : w.heap.size ≤ gb807)); have n9_ := Aside0.mk ((by rw [hg]; exact (below_size (bl HB)) : w.heap.size ≤ gb807)); have n10_ := Aside0.mk ((by rw [hg]; exact Nat.ne_of_lt (bkL BK796) : gb796 ≠ gb807)); have n11_ := Aside0.mk ((by rw [hg]; exact Nat.ne_of_gt (bkL BK796) : gb807 ≠ gb796)); have n12_ := Aside0.mk ((by rw [hg]; exact Nat.ne_of_lt (bkL BK797) : gb797 ≠ gb807)); have n13_ := Aside0.mk ((by rw [hg]; exact Nat.ne_of_gt (bkL BK797) : gb807 ≠ gb797)); have n14_ := Aside0.mk ((by rw [hg]; exact Nat.ne_of_lt (bkL BK802) : gb802 ≠ gb807)); have n15_ := Aside0.mk ((by rw [hg]; exact Nat.ne_of_gt (bkL BK802) : gb807 ≠ gb802)); clear HO793; clear HO800; clear HO805; clear BK796; clear BK797; clear BK802; clear HB; have HO793 := n0_; have HO800 := n1_; have HO805 := n2_; have BK796 := n3_; have BK797 := n4_; have BK802 := n5_; have HB := n6_; have BK807 := n7_; have GW807 := n8_; have GE807 := n9_; have NB796_807 := n10_; have NB807_796 := n11_; have NB797_807 := n12_; have NB807_797 := n13_; have NB802_807 := n14_; have NB807_802 := n15_; clear n0_ n1_ n2_ n3_ n4_ n5_ n6_ n7_ n8_ n9_ n10_ n11_ n12_ n13_ n14_ n15_; clear hb hbox hg; obtain ⟨Ao24, co24, eo24⟩ := Kd.R_slice HO805.out; subst eo24; have hnb25 := NB807_796.out; have hnc25 := NB796_807.out; have hnb26 := NB807_797.out; have hnc26 := NB797_807.out; have hnb27 := NB807_802.out; have hnc27 := NB802_807.out; have hcz28_0 : w23.cell? ⟨gb807, 0, none⟩ = some (.slice none 0 0) := (blk_cell BK807.out 0).trans rfl; have hfz28_0 := blk_frozen BK807.out 0))
    (try simp only [Act.put, List.setIfInBounds_toArray, List.set_cons_zero, List.set_cons_succ])
    go_cut [50] (fun v50 wc => ∃ (kq : Nat) (x50_5 : Bool), v50 = .bool x50_5 ∧ Aside0 (laws_FnMapPut.j0 kq t801 x50_5 t791 t794 t795 t798 = some r) ∧ Aside0 (kq ≤ k) ∧ Aside0 (Kd.R k29 29 wc w.heap.size (fun k_ => some k_ ≠ ((.slice Ao16 t798.length co16) : Value).ownBlock ∧ some k_ ≠ ((.slice Ao24 t803.length co24) : Value).ownBlock ∧ k_ ≠ gb797) (.slice Ao10 t791.length co10) t791) ∧ Aside0 (Kd.R k29 29 wc w.heap.size (fun k_ => some k_ ≠ ((.slice Ao10 t791.length co10) : Value).ownBlock ∧ some k_ ≠ ((.slice Ao24 t803.length co24) : Value).ownBlock ∧ k_ ≠ gb797) (.slice Ao16 t798.length co16) t798) ∧ Aside0 (Kd.R k29 29 wc w.heap.size (fun k_ => some k_ ≠ ((.slice Ao10 t791.length co10) : Value).ownBlock ∧ some k_ ≠ ((.slice Ao16 t798.length co16) : Value).ownBlock ∧ k_ ≠ gb797) (.slice Ao24 t803.length co24) t803) ∧ Aside0 (wc.heap[gb796]? = some (.cells #[(.slice Ao10 t791.length co10)] 45 (0, 0))) ∧ Aside0 (wc.heap[gb797]? = some (.cells #[.int .i64 t794, .int .i64 t795] 29 (0, 0))) ∧ Aside0 (wc.heap[gb802]? = some (.cells #[(.slice Ao16 t798.length co16)] 45 (0, 0))) ∧ Aside0 (wc.heap[gb807]? = some (.cells #[(.slice Ao24 t803.length co24)] 45 (0, 0))) ∧ Aside0 (Below w.heap.size w wc))
    case first =>
      have H := HC6.out
      clear HC6
      replace H := Option.bind_eq_some_iff.mp H
      obtain ⟨t808, A290, H⟩ := H
      replace H : (if t808 = true then (if t801 = t806 then ((impl_MapOk.f k t791).bind fun t809 => ((spec_MapOk.f k t791).bind fun t810 => (laws_FnMapPut.j0 k t801 (t809 != t810) t791 t794 t795 t798))) else (laws_FnMapPut.j0 k t801 true t791 t794 t795 t798)) else (laws_FnMapPut.j0 k t801 true t791 t794 t795 t798)) = some r := H
      have A29 := Aside0.mk A290
      clear A290
      by_cases c30 : t808 = true
      · subst c30
        have H1 : (if t801 = t806 then ((impl_MapOk.f k t791).bind fun t809 => ((spec_MapOk.f k t791).bind fun t810 => (laws_FnMapPut.j0 k t801 (t809 != t810) t791 t794 t795 t798))) else (laws_FnMapPut.j0 k t801 true t791 t794 t795 t798)) = some r := by rw [if_pos rfl] at H; exact H
        clear H
        have H := H1
        clear H1
        by_cases c31 : t801 = t806
        · rw [if_pos c31] at H
          have c31b0 : (t801 == t806) = true := beq_iff_eq.mpr c31
          have c31b1 : (t801 != t806) = false := bne_eq_false_iff_eq.mpr c31
          clear c31
          (first | rw [c31b0] | (simp only [i64_w, i32_w]; rw [c31b0]) | skip)
          replace H := Option.bind_eq_some_iff.mp H
          obtain ⟨t809, A320, H⟩ := H
          replace H : ((spec_MapOk.f k t791).bind fun t810 => (laws_FnMapPut.j0 k t801 (t809 != t810) t791 t794 t795 t798)) = some r := H
          have A32 := Aside0.mk A320
          clear A320
          replace H := Option.bind_eq_some_iff.mp H
          obtain ⟨t810, A330, H⟩ := H
          replace H : (laws_FnMapPut.j0 k t801 (t809 != t810) t791 t794 t795 t798) = some r := H
          have A33 := Aside0.mk A330
          clear A330
          have H' := Aside0.mk H
          clear H
          try go_wp2
          have n0_ : Aside0 (Kd.R k29 29 (w23.setCell ⟨gb807, 0, none⟩ (.slice Ao24 t803.length co24)) w.heap.size (fun k_ => some k_ ≠ (.slice Ao16 t798.length co16 : Value).ownBlock ∧ some k_ ≠ (.slice Ao24 t803.length co24 : Value).ownBlock ∧ k_ ≠ gb797) (.slice Ao10 t791.length co10) t791) := ⟨by (with_reducible repeat apply ru); exact Kd.R_mono (Kd.R_far (p := ⟨gb807, 0, none⟩) (Kd.R_types HO793.out BK807.out (by decide)) (fun _ hk => hk.2) (.slice Ao24 t803.length co24)) (fun _ hk => ⟨hk.1.1.2, ⟨hk.1.2, hk.1.1.1.2⟩⟩)⟩
          have n1_ : Aside0 (Kd.R k29 29 (w23.setCell ⟨gb807, 0, none⟩ (.slice Ao24 t803.length co24)) w.heap.size (fun k_ => some k_ ≠ (.slice Ao10 t791.length co10 : Value).ownBlock ∧ some k_ ≠ (.slice Ao24 t803.length co24 : Value).ownBlock ∧ k_ ≠ gb797) (.slice Ao16 t798.length co16) t798) := ⟨by (with_reducible repeat apply ru); exact Kd.R_mono (Kd.R_far (p := ⟨gb807, 0, none⟩) (Kd.R_types HO800.out BK807.out (by decide)) (fun _ hk => hk.2) (.slice Ao24 t803.length co24)) (fun _ hk => ⟨hk.1.1.1.2, ⟨hk.1.2, hk.1.1.2⟩⟩)⟩
          have n2_ : Aside0 (Kd.R k29 29 (w23.setCell ⟨gb807, 0, none⟩ (.slice Ao24 t803.length co24)) w.heap.size (fun k_ => some k_ ≠ (.slice Ao10 t791.length co10 : Value).ownBlock ∧ some k_ ≠ (.slice Ao16 t798.length co16 : Value).ownBlock ∧ k_ ≠ gb797) (.slice Ao24 t803.length co24) t803) := ⟨by (with_reducible repeat apply ru); exact Kd.R_mono (Kd.R_far (p := ⟨gb807, 0, none⟩) (Kd.R_types HO805.out BK807.out (by decide)) (fun _ hk => hk.2) (.slice Ao24 t803.length co24)) (fun _ hk => ⟨hk.1.1.1.2, ⟨hk.1.1.2, hk.1.2⟩⟩)⟩
          have n3_ : Aside0 ((w23.setCell ⟨gb807, 0, none⟩ (.slice Ao24 t803.length co24)).heap[gb796]? = some (.cells #[.slice Ao10 t791.length co10] 45 (0, 0))) := ⟨by (with_reducible repeat refine bu ?_); refine blk_far ?_ NB796_807.out _; (with_reducible repeat refine bu ?_); exact BK796.out⟩
          have n4_ : Aside0 ((w23.setCell ⟨gb807, 0, none⟩ (.slice Ao24 t803.length co24)).heap[gb797]? = some (.cells #[.int .i64 t794, .int .i64 t795] 29 (0, 0))) := ⟨by (with_reducible repeat refine bu ?_); refine blk_far ?_ NB797_807.out _; (with_reducible repeat refine bu ?_); exact BK797.out⟩
          have n5_ : Aside0 ((w23.setCell ⟨gb807, 0, none⟩ (.slice Ao24 t803.length co24)).heap[gb802]? = some (.cells #[.slice Ao16 t798.length co16] 45 (0, 0))) := ⟨by (with_reducible repeat refine bu ?_); refine blk_far ?_ NB802_807.out _; (with_reducible repeat refine bu ?_); exact BK802.out⟩
          have n6_ : Aside0 ((w23.setCell ⟨gb807, 0, none⟩ (.slice Ao24 t803.length co24)).heap[gb807]? = some (.cells #[.slice Ao24 t803.length co24] 45 (0, 0))) := ⟨by (with_reducible repeat refine bu ?_); refine blk_put (cs := #[.slice none 0 0]) ?_ 0 _ rfl; (with_reducible repeat refine bu ?_); exact BK807.out⟩
          have n7_ : Aside0 (Below w.heap.size w (w23.setCell ⟨gb807, 0, none⟩ (.slice Ao24 t803.length co24))) := ⟨by repeat (first | (with_reducible first | exact HB.out | apply below_alloc | apply pw_below_drewN | apply below_drew1 | refine below_set ?_ GE796.out | refine below_set ?_ GE797.out | refine below_set ?_ GE802.out | refine below_set ?_ GE807.out) | exact HB.out)⟩
          (try clear HO793)
          (try clear HO800)
          (try clear HO805)
          (try clear BK796)
          (try clear BK797)
          (try clear BK802)
          (try clear BK807)
          (try clear HB)
          generalize (w23.setCell ⟨gb807, 0, none⟩ (.slice Ao24 t803.length co24)) = w34 at n0_ n1_ n2_ n3_ n4_ n5_ n6_ n7_ ⊢
          have HO793 := n0_
          have HO800 := n1_
          have HO805 := n2_
          have BK796 := n3_
          have BK797 := n4_
          have BK802 := n5_
          have BK807 := n6_
          have HB := n7_
          clear n0_ n1_ n2_ n3_ n4_ n5_ n6_ n7_
          have n0_ := Aside0.mk (Kd.R_drew HO793.out)
          have n1_ := Aside0.mk (Kd.R_drew HO800.out)
          have n2_ := Aside0.mk (Kd.R_drew HO805.out)
          have n3_ := Aside0.mk (blk_drew BK796.out)
          have n4_ := Aside0.mk (blk_drew BK797.out)
          have n5_ := Aside0.mk (blk_drew BK802.out)
          have n6_ := Aside0.mk (blk_drew BK807.out)
          have n7_ := Aside0.mk (below_drew1 HB.out)
          clear HO793
          clear HO800
          clear HO805
          clear BK796
          clear BK797
          clear BK802
          clear BK807
          clear HB
          have HO793 := n0_
          have HO800 := n1_
          have HO805 := n2_
          have BK796 := n3_
          have BK797 := n4_
          have BK802 := n5_
          have BK807 := n6_
          have HB := n7_
          clear n0_ n1_ n2_ n3_ n4_ n5_ n6_ n7_
          refine start_ (n := 18) (S := fun w' => w'.cell? ⟨gb802, 0, none⟩ = some (.slice Ao16 t798.length co16) ∧ w'.cell? ⟨gb807, 0, none⟩ = some (.slice Ao24 t803.length co24) ∧ w'.cell? ⟨gb796, 0, none⟩ = some (.slice Ao10 t791.length co10)) (ds := []) #[false, false, false, false, false, false, false, false, false, false, false, false, false, false, false, false, false, false] (by kernel_rfl) rfl rfl ⟨(blk_cell BK802.out 0).trans rfl, (blk_cell BK807.out 0).trans rfl, (blk_cell BK796.out 0).trans rfl⟩ (fun hHeld => ?_); refine with_tabW laws_FnMapPut.tab6 laws_FnMapPut.bits6 (fun HT_ HW_ => ?_)
          generalize w34.drew = w35 at HO793 HO800 HO805 BK796 BK797 BK802 BK807 HB hHeld ⊢
          refine pure_ (i := 0) (N := some 33) (v := ?_) (a' := ?_) #[true, false, false, false, false, false, false, false, false, false, false, false, false, false, false, false, false, false] rfl rfl (any_of HT_.out (by kernel_rfl)) (fun _ _ _ h => h) (Or.inl ⟨by rfl, ?_⟩) ?_ ?_
          rotate_left
          · intro w'
            go_simp
            with_reducible rfl
          rotate_left
          · simp only [Act.put, List.setIfInBounds_toArray, List.set_cons_zero, List.set_cons_succ, i64_w, i32_w]
            rfl
          refine pure_ (i := 2) (N := some 35) (v := ?_) (a' := ?_) #[true, false, true, false, false, false, false, false, false, false, false, false, false, false, false, false, false, false] rfl rfl (any_of HT_.out (by kernel_rfl)) (fun _ _ _ h => h) (Or.inl ⟨by rfl, ?_⟩) ?_ ?_
          rotate_left
          · intro w'
            go_simp
            with_reducible rfl
          rotate_left
          · simp only [Act.put, List.setIfInBounds_toArray, List.set_cons_zero, List.set_cons_succ, i64_w, i32_w]
            rfl
          refine take_ (i := 1) (N := some 34) (v := ?_) (a' := ?_) #[true, true, true, false, false, false, false, false, false, false, false, false, false, false, false, false, false, false] rfl rfl (take_ofW HT_.out HW_.out (by kernel_rfl)) (fun _ _ _ h => h) (Or.inl ⟨by rfl, ?_⟩) hHeld ?_ ?_
          rotate_left
          · rintro w' ⟨s0, s1, s2⟩
            go_simp
            with_reducible rfl
          rotate_left
          · simp only [Act.put, List.setIfInBounds_toArray, List.set_cons_zero, List.set_cons_succ, i64_w, i32_w]
            rfl
          refine take_ (i := 3) (N := some 36) (v := ?_) (a' := ?_) #[true, true, true, true, false, false, false, false, false, false, false, false, false, false, false, false, false, false] rfl rfl (take_ofW HT_.out HW_.out (by kernel_rfl)) (fun _ _ _ h => h) (Or.inl ⟨by rfl, ?_⟩) hHeld ?_ ?_
          rotate_left
          · rintro w' ⟨s0, s1, s2⟩
            go_simp
            with_reducible rfl
          rotate_left
          · simp only [Act.put, List.setIfInBounds_toArray, List.set_cons_zero, List.set_cons_succ, i64_w, i32_w]
            rfl
          refine one_ (i := 4) (N := some 37) #[true, true, true, true, true, false, false, false, false, false, false, false, false, false, false, false, false, false] rfl rfl (one_of HT_.out (by kernel_rfl)) (by decide) (fun K hK => ?_)
          refine goes_ Try.func34 (by kernel_rfl) rfl #[.slice Ao16 t798.length co16, .slice Ao24 t803.length co24] (by rfl) rfl rfl (by (try simp only [List.map_toArray, List.map_cons, List.map_nil]); first | done | rfl | (simp only [List.length_drop, List.length_take]; rfl)) ?_
          with_reducible refine (laws_haEnds.calls k _ _ t798 _ _ t803 true _ ?side1 ?side2 ?side3 ?side4 A29.out).mono ?_
          (case side1 => repeat (first | exact (Kd.R_reads' HO800.out).2.2 | (with_reducible refine Kd.C_alloc ?_ _) | (with_reducible refine Kd.C_drewN ?_ _) | (with_reducible refine Kd.C_drew ?_)))
          (case side2 => exact (Kd.R_reads' HO800.out).2.1)
          (case side3 => repeat (first | exact (Kd.R_reads' HO805.out).2.2 | (with_reducible refine Kd.C_alloc ?_ _) | (with_reducible refine Kd.C_drewN ?_ _) | (with_reducible refine Kd.C_drew ?_)))
          (case side4 => exact (Kd.R_reads' HO805.out).2.1)
          rintro e w' ⟨rfl, ⟨nd, rfl⟩⟩
          refine ⟨_, rfl, ?_⟩
          refine hK.out _ _ ⟨(blk_cell BK802.out 0).trans rfl, (blk_cell BK807.out 0).trans rfl, (blk_cell BK796.out 0).trans rfl⟩ (fun hHeld => ?_)
          clear hK K
          refine norm_ (a' := ?_) ?_ ?_
          rotate_left
          · show Act.put _ (some 37) _ = _
            simp only [Act.put, List.setIfInBounds_toArray, List.set_cons_zero, List.set_cons_succ, i64_w, i32_w]
            rfl
          refine pure_ (i := 5) (N := some 38) (v := ?_) (a' := ?_) #[true, true, true, true, true, true, false, false, false, false, false, false, false, false, false, false, false, false] rfl rfl (any_of HT_.out (by kernel_rfl)) (fun _ _ _ h => h) (Or.inl ⟨by rfl, ?_⟩) ?_ ?_
          rotate_left
          · intro w'
            go_simp
            with_reducible rfl
          rotate_left
          · simp only [Act.put, List.setIfInBounds_toArray, List.set_cons_zero, List.set_cons_succ, i64_w, i32_w]
            rfl
          refine pure_ (i := 6) (N := some 39) (v := ?_) (a' := ?_) #[true, true, true, true, true, true, true, false, false, false, false, false, false, false, false, false, false, false] rfl rfl (any_of HT_.out (by kernel_rfl)) (fun _ _ _ h => h) (Or.inl ⟨by rfl, ?_⟩) ?_ ?_
          rotate_left
          · intro w'
            go_simp
            with_reducible rfl
          rotate_left
          · simp only [Act.put, List.setIfInBounds_toArray, List.set_cons_zero, List.set_cons_succ, i64_w, i32_w]
            rfl
          refine pure_ (i := 7) (N := some 40) (v := ?_) (a' := ?_) #[true, true, true, true, true, true, true, true, false, false, false, false, false, false, false, false, false, false] rfl rfl (any_of HT_.out (by kernel_rfl)) (fun _ _ _ h => h) (Or.inl ⟨by rfl, ?_⟩) ?_ ?_
          rotate_left
          · intro w'
            go_simp
            with_reducible rfl
          rotate_left
          · simp only [Act.put, List.setIfInBounds_toArray, List.set_cons_zero, List.set_cons_succ, i64_w, i32_w]
            rfl
          refine pure_ (i := 8) (N := some 41) (v := ?_) (a' := ?_) #[true, true, true, true, true, true, true, true, true, false, false, false, false, false, false, false, false, false] rfl rfl (any_of HT_.out (by kernel_rfl)) (fun _ _ _ h => h) (Or.inl ⟨by rfl, ?_⟩) ?_ ?_
          rotate_left
          · intro w'
            go_simp
            with_reducible rfl
          rotate_left
          · simp only [Act.put, List.setIfInBounds_toArray, List.set_cons_zero, List.set_cons_succ, i64_w, i32_w]
            rfl
          refine pure_ (i := 9) (N := some 42) (v := ?_) (a' := ?_) #[true, true, true, true, true, true, true, true, true, true, false, false, false, false, false, false, false, false] rfl rfl (any_of HT_.out (by kernel_rfl)) (fun _ _ _ h => h) (Or.inl ⟨by rfl, ?_⟩) ?_ ?_
          rotate_left
          · intro w'
            go_simp
            with_reducible rfl
          rotate_left
          · simp only [Act.put, List.setIfInBounds_toArray, List.set_cons_zero, List.set_cons_succ, i64_w, i32_w]
            rfl
          refine pure_ (i := 10) (N := some 43) (v := ?_) (a' := ?_) #[true, true, true, true, true, true, true, true, true, true, true, false, false, false, false, false, false, false] rfl rfl (any_of HT_.out (by kernel_rfl)) (fun _ _ _ h => h) (Or.inl ⟨by rfl, ?_⟩) ?_ ?_
          rotate_left
          · intro w'
            go_simp
            with_reducible rfl
          rotate_left
          · simp only [Act.put, List.setIfInBounds_toArray, List.set_cons_zero, List.set_cons_succ, i64_w, i32_w]
            rfl
          refine pure_ (i := 11) (N := some 44) (v := ?_) (a' := ?_) #[true, true, true, true, true, true, true, true, true, true, true, true, false, false, false, false, false, false] rfl rfl (any_of HT_.out (by kernel_rfl)) (fun _ _ _ h => h) (Or.inl ⟨by rfl, ?_⟩) ?_ ?_
          rotate_left
          · intro w'
            go_simp
            with_reducible rfl
          rotate_left
          · simp only [Act.put, List.setIfInBounds_toArray, List.set_cons_zero, List.set_cons_succ, i64_w, i32_w]
            rfl
          refine take_ (i := 12) (N := some 45) (v := ?_) (a' := ?_) #[true, true, true, true, true, true, true, true, true, true, true, true, true, false, false, false, false, false] rfl rfl (take_ofW HT_.out HW_.out (by kernel_rfl)) (fun _ _ _ h => h) (Or.inl ⟨by rfl, ?_⟩) hHeld ?_ ?_
          rotate_left
          · rintro w' ⟨s0, s1, s2⟩
            go_simp
            with_reducible rfl
          rotate_left
          · simp only [Act.put, List.setIfInBounds_toArray, List.set_cons_zero, List.set_cons_succ, i64_w, i32_w]
            rfl
          refine take_ (i := 14) (N := some 47) (v := ?_) (a' := ?_) #[true, true, true, true, true, true, true, true, true, true, true, true, true, false, true, false, false, false] rfl rfl (take_ofW HT_.out HW_.out (by kernel_rfl)) (fun _ _ _ h => h) (Or.inl ⟨by rfl, ?_⟩) hHeld ?_ ?_
          rotate_left
          · rintro w' ⟨s0, s1, s2⟩
            go_simp
            with_reducible rfl
          rotate_left
          · simp only [Act.put, List.setIfInBounds_toArray, List.set_cons_zero, List.set_cons_succ, i64_w, i32_w]
            rfl
          refine one_ (i := 13) (N := some 46) #[true, true, true, true, true, true, true, true, true, true, true, true, true, true, true, false, false, false] rfl rfl (one_of HT_.out (by kernel_rfl)) (by decide) (fun K hK => ?_)
          refine goes_ Try.func35 (by kernel_rfl) rfl #[.agg #[.slice Ao10 t791.length co10]] (by rfl) rfl rfl (by (try simp only [List.map_toArray, List.map_cons, List.map_nil]); first | done | rfl | (simp only [List.length_drop, List.length_take]; rfl)) ?_
          with_reducible refine (impl_MapOk.calls k _ _ t791 t809 _ ?side1 ?side2 A32.out).mono ?_
          (case side1 => repeat (first | exact (Kd.R_reads' HO793.out).2.2 | (with_reducible refine Kd.C_alloc ?_ _) | (with_reducible refine Kd.C_drewN ?_ _) | (with_reducible refine Kd.C_drew ?_)))
          (case side2 => exact (Kd.R_reads' HO793.out).2.1)
          rintro e w36 ⟨rfl, hb⟩
          refine ⟨_, rfl, ?_⟩
          have n0_ := Aside0.mk (Kd.R_below (rs HO793) hb)
          have n1_ := Aside0.mk (Kd.R_below (rs HO800) hb)
          have n2_ := Aside0.mk (Kd.R_below (rs HO805) hb)
          have n3_ := bkB BK796 hb
          have n4_ := bkB BK797 hb
          have n5_ := bkB BK802 hb
          have n6_ := bkB BK807 hb
          have n7_ := Aside0.mk (below_step (bl HB) hb)
          clear HO793
          clear HO800
          clear HO805
          clear BK796
          clear BK797
          clear BK802
          clear BK807
          clear HB
          have HO793 := n0_
          have HO800 := n1_
          have HO805 := n2_
          have BK796 := n3_
          have BK797 := n4_
          have BK802 := n5_
          have BK807 := n6_
          have HB := n7_
          clear n0_ n1_ n2_ n3_ n4_ n5_ n6_ n7_
          (try clear hb)
          (try clear hb2)
          (try clear hk)
          (try clear hi)
          refine hK.out _ _ ⟨(blk_cell BK802.out 0).trans rfl, (blk_cell BK807.out 0).trans rfl, (blk_cell BK796.out 0).trans rfl⟩ (fun hHeld => ?_)
          clear hK K
          refine norm_ (a' := ?_) ?_ ?_
          rotate_left
          · show Act.put _ (some 46) _ = _
            simp only [Act.put, List.setIfInBounds_toArray, List.set_cons_zero, List.set_cons_succ, i64_w, i32_w]
            rfl
          refine one_ (i := 15) (N := some 48) #[true, true, true, true, true, true, true, true, true, true, true, true, true, true, true, true, false, false] rfl rfl (one_of HT_.out (by kernel_rfl)) (by decide) (fun K hK => ?_)
          refine goes_ Try.func25 (by kernel_rfl) rfl #[.agg #[.slice Ao10 t791.length co10]] (by rfl) rfl rfl (by (try simp only [List.map_toArray, List.map_cons, List.map_nil]); first | done | rfl | (simp only [List.length_drop, List.length_take]; rfl)) ?_
          with_reducible refine (spec_MapOk.calls k _ _ t791 t810 _ ?side1 ?side2 A33.out).mono ?_
          (case side1 => repeat (first | exact (Kd.R_reads' HO793.out).2.2 | (with_reducible refine Kd.C_alloc ?_ _) | (with_reducible refine Kd.C_drewN ?_ _) | (with_reducible refine Kd.C_drew ?_)))
          (case side2 => exact (Kd.R_reads' HO793.out).2.1)
          rintro e w37 ⟨rfl, hb⟩
          refine ⟨_, rfl, ?_⟩
          have n0_ := Aside0.mk (Kd.R_below (rs HO793) hb)
          have n1_ := Aside0.mk (Kd.R_below (rs HO800) hb)
          have n2_ := Aside0.mk (Kd.R_below (rs HO805) hb)
          have n3_ := bkB BK796 hb
          have n4_ := bkB BK797 hb
          have n5_ := bkB BK802 hb
          have n6_ := bkB BK807 hb
          have n7_ := Aside0.mk (below_step (bl HB) hb)
          clear HO793
          clear HO800
          clear HO805
          clear BK796
          clear BK797
          clear BK802
          clear BK807
          clear HB
          have HO793 := n0_
          have HO800 := n1_
          have HO805 := n2_
          have BK796 := n3_
          have BK797 := n4_
          have BK802 := n5_
          have BK807 := n6_
          have HB := n7_
          clear n0_ n1_ n2_ n3_ n4_ n5_ n6_ n7_
          (try clear hb)
          (try clear hb2)
          (try clear hk)
          (try clear hi)
          refine hK.out _ _ ⟨(blk_cell BK802.out 0).trans rfl, (blk_cell BK807.out 0).trans rfl, (blk_cell BK796.out 0).trans rfl⟩ (fun hHeld => ?_)
          clear hK K
          refine norm_ (a' := ?_) ?_ ?_
          rotate_left
          · show Act.put _ (some 48) _ = _
            simp only [Act.put, List.setIfInBounds_toArray, List.set_cons_zero, List.set_cons_succ, i64_w, i32_w]
            rfl
          refine pure_ (i := 16) (N := some 49) (v := ?_) (a' := ?_) #[true, true, true, true, true, true, true, true, true, true, true, true, true, true, true, true, true, false] rfl rfl (any_of HT_.out (by kernel_rfl)) (fun _ _ _ h => h) (Or.inl ⟨by rfl, ?_⟩) ?_ ?_
          rotate_left
          · intro w'
            go_simp
            with_reducible rfl
          rotate_left
          · simp only [Act.put, List.setIfInBounds_toArray, List.set_cons_zero, List.set_cons_succ, i64_w, i32_w]
            rfl
          refine pure_ (i := 17) (N := some 50) (v := ?_) (a' := ?_) #[true, true, true, true, true, true, true, true, true, true, true, true, true, true, true, true, true, true] rfl rfl (any_of HT_.out (by kernel_rfl)) (fun _ _ _ h => h) (Or.inl ⟨by rfl, ?_⟩) ?_ ?_
          rotate_left
          · intro w'
            go_simp
            with_reducible rfl
          rotate_left
          · simp only [Act.put, List.setIfInBounds_toArray, List.set_cons_zero, List.set_cons_succ, i64_w, i32_w]
            rfl
          refine done_ (done_of HT_.out (by kernel_rfl)) ?_
          try go_wp2
          go_meet
          case rel => exact ⟨_, ((t809 != t810)), (by first | rfl | (simp; done) | (simp [*]; done)), H', ⟨by first | omega | exact Nat.le_refl _⟩, ⟨by (with_reducible repeat apply ru); exact HO793.out⟩, ⟨by (with_reducible repeat apply ru); exact HO800.out⟩, ⟨by (with_reducible repeat apply ru); exact HO805.out⟩, ⟨by (with_reducible repeat refine bu ?_); exact BK796.out⟩, ⟨by (with_reducible repeat refine bu ?_); exact BK797.out⟩, ⟨by (with_reducible repeat refine bu ?_); exact BK802.out⟩, ⟨by (with_reducible repeat refine bu ?_); exact BK807.out⟩, ⟨by repeat (first | (with_reducible first | exact HB.out | apply below_alloc | apply pw_below_drewN | apply below_drew1 | refine below_set ?_ GE796.out | refine below_set ?_ GE797.out | refine below_set ?_ GE802.out | refine below_set ?_ GE807.out) | exact HB.out)⟩⟩
        · rw [if_neg c31] at H
          have c31b0 : (t801 == t806) = false := beq_eq_false_iff_ne.mpr c31
          have c31b1 : (t801 != t806) = true := bne_iff_ne.mpr c31
          (first | rw [c31b0] | (simp only [i64_w, i32_w]; rw [c31b0]) | skip)
          have H' := Aside0.mk H
          clear H
          try go_wp2
          have n0_ : Aside0 (Kd.R k29 29 (w23.setCell ⟨gb807, 0, none⟩ (.slice Ao24 t803.length co24)) w.heap.size (fun k_ => some k_ ≠ (.slice Ao16 t798.length co16 : Value).ownBlock ∧ some k_ ≠ (.slice Ao24 t803.length co24 : Value).ownBlock ∧ k_ ≠ gb797) (.slice Ao10 t791.length co10) t791) := ⟨by (with_reducible repeat apply ru); exact Kd.R_mono (Kd.R_far (p := ⟨gb807, 0, none⟩) (Kd.R_types HO793.out BK807.out (by decide)) (fun _ hk => hk.2) (.slice Ao24 t803.length co24)) (fun _ hk => ⟨hk.1.1.2, ⟨hk.1.2, hk.1.1.1.2⟩⟩)⟩
          have n1_ : Aside0 (Kd.R k29 29 (w23.setCell ⟨gb807, 0, none⟩ (.slice Ao24 t803.length co24)) w.heap.size (fun k_ => some k_ ≠ (.slice Ao10 t791.length co10 : Value).ownBlock ∧ some k_ ≠ (.slice Ao24 t803.length co24 : Value).ownBlock ∧ k_ ≠ gb797) (.slice Ao16 t798.length co16) t798) := ⟨by (with_reducible repeat apply ru); exact Kd.R_mono (Kd.R_far (p := ⟨gb807, 0, none⟩) (Kd.R_types HO800.out BK807.out (by decide)) (fun _ hk => hk.2) (.slice Ao24 t803.length co24)) (fun _ hk => ⟨hk.1.1.1.2, ⟨hk.1.2, hk.1.1.2⟩⟩)⟩
          have n2_ : Aside0 (Kd.R k29 29 (w23.setCell ⟨gb807, 0, none⟩ (.slice Ao24 t803.length co24)) w.heap.size (fun k_ => some k_ ≠ (.slice Ao10 t791.length co10 : Value).ownBlock ∧ some k_ ≠ (.slice Ao16 t798.length co16 : Value).ownBlock ∧ k_ ≠ gb797) (.slice Ao24 t803.length co24) t803) := ⟨by (with_reducible repeat apply ru); exact Kd.R_mono (Kd.R_far (p := ⟨gb807, 0, none⟩) (Kd.R_types HO805.out BK807.out (by decide)) (fun _ hk => hk.2) (.slice Ao24 t803.length co24)) (fun _ hk => ⟨hk.1.1.1.2, ⟨hk.1.1.2, hk.1.2⟩⟩)⟩
          have n3_ : Aside0 ((w23.setCell ⟨gb807, 0, none⟩ (.slice Ao24 t803.length co24)).heap[gb796]? = some (.cells #[.slice Ao10 t791.length co10] 45 (0, 0))) := ⟨by (with_reducible repeat refine bu ?_); refine blk_far ?_ NB796_807.out _; (with_reducible repeat refine bu ?_); exact BK796.out⟩
          have n4_ : Aside0 ((w23.setCell ⟨gb807, 0, none⟩ (.slice Ao24 t803.length co24)).heap[gb797]? = some (.cells #[.int .i64 t794, .int .i64 t795] 29 (0, 0))) := ⟨by (with_reducible repeat refine bu ?_); refine blk_far ?_ NB797_807.out _; (with_reducible repeat refine bu ?_); exact BK797.out⟩
          have n5_ : Aside0 ((w23.setCell ⟨gb807, 0, none⟩ (.slice Ao24 t803.length co24)).heap[gb802]? = some (.cells #[.slice Ao16 t798.length co16] 45 (0, 0))) := ⟨by (with_reducible repeat refine bu ?_); refine blk_far ?_ NB802_807.out _; (with_reducible repeat refine bu ?_); exact BK802.out⟩
          have n6_ : Aside0 ((w23.setCell ⟨gb807, 0, none⟩ (.slice Ao24 t803.length co24)).heap[gb807]? = some (.cells #[.slice Ao24 t803.length co24] 45 (0, 0))) := ⟨by (with_reducible repeat refine bu ?_); refine blk_put (cs := #[.slice none 0 0]) ?_ 0 _ rfl; (with_reducible repeat refine bu ?_); exact BK807.out⟩
          have n7_ : Aside0 (Below w.heap.size w (w23.setCell ⟨gb807, 0, none⟩ (.slice Ao24 t803.length co24))) := ⟨by repeat (first | (with_reducible first | exact HB.out | apply below_alloc | apply pw_below_drewN | apply below_drew1 | refine below_set ?_ GE796.out | refine below_set ?_ GE797.out | refine below_set ?_ GE802.out | refine below_set ?_ GE807.out) | exact HB.out)⟩
          (try clear HO793)
          (try clear HO800)
          (try clear HO805)
          (try clear BK796)
          (try clear BK797)
          (try clear BK802)
          (try clear BK807)
          (try clear HB)
          generalize (w23.setCell ⟨gb807, 0, none⟩ (.slice Ao24 t803.length co24)) = w38 at n0_ n1_ n2_ n3_ n4_ n5_ n6_ n7_ ⊢
          have HO793 := n0_
          have HO800 := n1_
          have HO805 := n2_
          have BK796 := n3_
          have BK797 := n4_
          have BK802 := n5_
          have BK807 := n6_
          have HB := n7_
          clear n0_ n1_ n2_ n3_ n4_ n5_ n6_ n7_
          have n0_ := Aside0.mk (Kd.R_drew HO793.out)
          have n1_ := Aside0.mk (Kd.R_drew HO800.out)
          have n2_ := Aside0.mk (Kd.R_drew HO805.out)
          have n3_ := Aside0.mk (blk_drew BK796.out)
          have n4_ := Aside0.mk (blk_drew BK797.out)
          have n5_ := Aside0.mk (blk_drew BK802.out)
          have n6_ := Aside0.mk (blk_drew BK807.out)
          have n7_ := Aside0.mk (below_drew1 HB.out)
          clear HO793
          clear HO800
          clear HO805
          clear BK796
          clear BK797
          clear BK802
          clear BK807
          clear HB
          have HO793 := n0_
          have HO800 := n1_
          have HO805 := n2_
          have BK796 := n3_
          have BK797 := n4_
          have BK802 := n5_
          have BK807 := n6_
          have HB := n7_
          clear n0_ n1_ n2_ n3_ n4_ n5_ n6_ n7_
          refine start_ (n := 18) (S := fun w' => w'.cell? ⟨gb802, 0, none⟩ = some (.slice Ao16 t798.length co16) ∧ w'.cell? ⟨gb807, 0, none⟩ = some (.slice Ao24 t803.length co24)) (ds := []) #[false, false, false, false, false, false, false, false, false, false, false, false, false, false, false, false, false, false] (by kernel_rfl) rfl rfl ⟨(blk_cell BK802.out 0).trans rfl, (blk_cell BK807.out 0).trans rfl⟩ (fun hHeld => ?_); refine with_tabW laws_FnMapPut.tab6 laws_FnMapPut.bits6 (fun HT_ HW_ => ?_)
          generalize w38.drew = w39 at HO793 HO800 HO805 BK796 BK797 BK802 BK807 HB hHeld ⊢
          refine pure_ (i := 0) (N := some 33) (v := ?_) (a' := ?_) #[true, false, false, false, false, false, false, false, false, false, false, false, false, false, false, false, false, false] rfl rfl (any_of HT_.out (by kernel_rfl)) (fun _ _ _ h => h) (Or.inl ⟨by rfl, ?_⟩) ?_ ?_
          rotate_left
          · intro w'
            go_simp
            with_reducible rfl
          rotate_left
          · simp only [Act.put, List.setIfInBounds_toArray, List.set_cons_zero, List.set_cons_succ, i64_w, i32_w]
            rfl
          refine pure_ (i := 2) (N := some 35) (v := ?_) (a' := ?_) #[true, false, true, false, false, false, false, false, false, false, false, false, false, false, false, false, false, false] rfl rfl (any_of HT_.out (by kernel_rfl)) (fun _ _ _ h => h) (Or.inl ⟨by rfl, ?_⟩) ?_ ?_
          rotate_left
          · intro w'
            go_simp
            with_reducible rfl
          rotate_left
          · simp only [Act.put, List.setIfInBounds_toArray, List.set_cons_zero, List.set_cons_succ, i64_w, i32_w]
            rfl
          refine take_ (i := 1) (N := some 34) (v := ?_) (a' := ?_) #[true, true, true, false, false, false, false, false, false, false, false, false, false, false, false, false, false, false] rfl rfl (take_ofW HT_.out HW_.out (by kernel_rfl)) (fun _ _ _ h => h) (Or.inl ⟨by rfl, ?_⟩) hHeld ?_ ?_
          rotate_left
          · rintro w' ⟨s0, s1⟩
            go_simp
            with_reducible rfl
          rotate_left
          · simp only [Act.put, List.setIfInBounds_toArray, List.set_cons_zero, List.set_cons_succ, i64_w, i32_w]
            rfl
          refine take_ (i := 3) (N := some 36) (v := ?_) (a' := ?_) #[true, true, true, true, false, false, false, false, false, false, false, false, false, false, false, false, false, false] rfl rfl (take_ofW HT_.out HW_.out (by kernel_rfl)) (fun _ _ _ h => h) (Or.inl ⟨by rfl, ?_⟩) hHeld ?_ ?_
          rotate_left
          · rintro w' ⟨s0, s1⟩
            go_simp
            with_reducible rfl
          rotate_left
          · simp only [Act.put, List.setIfInBounds_toArray, List.set_cons_zero, List.set_cons_succ, i64_w, i32_w]
            rfl
          refine one_ (i := 4) (N := some 37) #[true, true, true, true, true, false, false, false, false, false, false, false, false, false, false, false, false, false] rfl rfl (one_of HT_.out (by kernel_rfl)) (by decide) (fun K hK => ?_)
          refine goes_ Try.func34 (by kernel_rfl) rfl #[.slice Ao16 t798.length co16, .slice Ao24 t803.length co24] (by rfl) rfl rfl (by (try simp only [List.map_toArray, List.map_cons, List.map_nil]); first | done | rfl | (simp only [List.length_drop, List.length_take]; rfl)) ?_
          with_reducible refine (laws_haEnds.calls k _ _ t798 _ _ t803 true _ ?side1 ?side2 ?side3 ?side4 A29.out).mono ?_
          (case side1 => repeat (first | exact (Kd.R_reads' HO800.out).2.2 | (with_reducible refine Kd.C_alloc ?_ _) | (with_reducible refine Kd.C_drewN ?_ _) | (with_reducible refine Kd.C_drew ?_)))
          (case side2 => exact (Kd.R_reads' HO800.out).2.1)
          (case side3 => repeat (first | exact (Kd.R_reads' HO805.out).2.2 | (with_reducible refine Kd.C_alloc ?_ _) | (with_reducible refine Kd.C_drewN ?_ _) | (with_reducible refine Kd.C_drew ?_)))
          (case side4 => exact (Kd.R_reads' HO805.out).2.1)
          rintro e w' ⟨rfl, ⟨nd, rfl⟩⟩
          refine ⟨_, rfl, ?_⟩
          refine hK.out _ _ ⟨(blk_cell BK802.out 0).trans rfl, (blk_cell BK807.out 0).trans rfl⟩ (fun hHeld => ?_)
          clear hK K
          refine norm_ (a' := ?_) ?_ ?_
          rotate_left
          · show Act.put _ (some 37) _ = _
            simp only [Act.put, List.setIfInBounds_toArray, List.set_cons_zero, List.set_cons_succ, i64_w, i32_w]
            rfl
          refine pure_ (i := 5) (N := some 38) (v := ?_) (a' := ?_) #[true, true, true, true, true, true, false, false, false, false, false, false, false, false, false, false, false, false] rfl rfl (any_of HT_.out (by kernel_rfl)) (fun _ _ _ h => h) (Or.inl ⟨by rfl, ?_⟩) ?_ ?_
          rotate_left
          · intro w'
            go_simp
            with_reducible rfl
          rotate_left
          · simp only [Act.put, List.setIfInBounds_toArray, List.set_cons_zero, List.set_cons_succ, i64_w, i32_w]
            rfl
          refine pure_ (i := 6) (N := some 39) (v := ?_) (a' := ?_) #[true, true, true, true, true, true, true, false, false, false, false, false, false, false, false, false, false, false] rfl rfl (any_of HT_.out (by kernel_rfl)) (fun _ _ _ h => h) (Or.inl ⟨by rfl, ?_⟩) ?_ ?_
          rotate_left
          · intro w'
            go_simp
            with_reducible rfl
          rotate_left
          · simp only [Act.put, List.setIfInBounds_toArray, List.set_cons_zero, List.set_cons_succ, i64_w, i32_w]
            rfl
          refine pure_ (i := 7) (N := some 40) (v := ?_) (a' := ?_) #[true, true, true, true, true, true, true, true, false, false, false, false, false, false, false, false, false, false] rfl rfl (any_of HT_.out (by kernel_rfl)) (fun _ _ _ h => h) (Or.inl ⟨by rfl, ?_⟩) ?_ ?_
          rotate_left
          · intro w'
            go_simp
            with_reducible rfl
          rotate_left
          · simp only [Act.put, List.setIfInBounds_toArray, List.set_cons_zero, List.set_cons_succ, i64_w, i32_w]
            rfl
          refine pure_ (i := 8) (N := some 41) (v := ?_) (a' := ?_) #[true, true, true, true, true, true, true, true, true, false, false, false, false, false, false, false, false, false] rfl rfl (any_of HT_.out (by kernel_rfl)) (fun _ _ _ h => h) (Or.inl ⟨by rfl, ?_⟩) ?_ ?_
          rotate_left
          · intro w'
            go_simp
            with_reducible rfl
          rotate_left
          · simp only [Act.put, List.setIfInBounds_toArray, List.set_cons_zero, List.set_cons_succ, i64_w, i32_w]
            rfl
          refine pure_ (i := 9) (N := some 42) (v := ?_) (a' := ?_) #[true, true, true, true, true, true, true, true, true, true, false, false, false, false, false, false, false, false] rfl rfl (any_of HT_.out (by kernel_rfl)) (fun _ _ _ h => h) (Or.inl ⟨by rfl, ?_⟩) ?_ ?_
          rotate_left
          · intro w'
            go_simp
            with_reducible rfl
          rotate_left
          · simp only [Act.put, List.setIfInBounds_toArray, List.set_cons_zero, List.set_cons_succ, i64_w, i32_w]
            rfl
          refine pure_ (i := 10) (N := some 43) (v := ?_) (a' := ?_) #[true, true, true, true, true, true, true, true, true, true, true, false, false, false, false, false, false, false] rfl rfl (any_of HT_.out (by kernel_rfl)) (fun _ _ _ h => h) (Or.inl ⟨by rfl, ?_⟩) ?_ ?_
          rotate_left
          · intro w'
            go_simp
            with_reducible rfl
          rotate_left
          · simp only [Act.put, List.setIfInBounds_toArray, List.set_cons_zero, List.set_cons_succ, i64_w, i32_w]
            rfl
          refine pure_ (i := 11) (N := some 44) (v := ?_) (a' := ?_) #[true, true, true, true, true, true, true, true, true, true, true, true, false, false, false, false, false, false] rfl rfl (any_of HT_.out (by kernel_rfl)) (fun _ _ _ h => h) (Or.inl ⟨by rfl, ?_⟩) ?_ ?_
          rotate_left
          · intro w'
            go_simp
            with_reducible rfl
          rotate_left
          · simp only [Act.put, List.setIfInBounds_toArray, List.set_cons_zero, List.set_cons_succ, i64_w, i32_w]
            rfl
          refine pure_ (i := 12) (N := some 45) (v := undef) (a' := ?_) #[true, true, true, true, true, true, true, true, true, true, true, true, true, false, false, false, false, false] rfl rfl (any_of HT_.out (by kernel_rfl)) (fun _ _ _ h => h) (Or.inr ⟨by rfl, rfl⟩) ?_ ?_
          rotate_left
          · simp only [Act.put, List.setIfInBounds_toArray, List.set_cons_zero, List.set_cons_succ, i64_w, i32_w]
            rfl
          refine pure_ (i := 13) (N := some 46) (v := undef) (a' := ?_) #[true, true, true, true, true, true, true, true, true, true, true, true, true, true, false, false, false, false] rfl rfl (any_of HT_.out (by kernel_rfl)) (fun _ _ _ h => h) (Or.inr ⟨by rfl, rfl⟩) ?_ ?_
          rotate_left
          · simp only [Act.put, List.setIfInBounds_toArray, List.set_cons_zero, List.set_cons_succ, i64_w, i32_w]
            rfl
          refine pure_ (i := 14) (N := some 47) (v := undef) (a' := ?_) #[true, true, true, true, true, true, true, true, true, true, true, true, true, true, true, false, false, false] rfl rfl (any_of HT_.out (by kernel_rfl)) (fun _ _ _ h => h) (Or.inr ⟨by rfl, rfl⟩) ?_ ?_
          rotate_left
          · simp only [Act.put, List.setIfInBounds_toArray, List.set_cons_zero, List.set_cons_succ, i64_w, i32_w]
            rfl
          refine pure_ (i := 15) (N := some 48) (v := undef) (a' := ?_) #[true, true, true, true, true, true, true, true, true, true, true, true, true, true, true, true, false, false] rfl rfl (any_of HT_.out (by kernel_rfl)) (fun _ _ _ h => h) (Or.inr ⟨by rfl, rfl⟩) ?_ ?_
          rotate_left
          · simp only [Act.put, List.setIfInBounds_toArray, List.set_cons_zero, List.set_cons_succ, i64_w, i32_w]
            rfl
          refine pure_ (i := 16) (N := some 49) (v := undef) (a' := ?_) #[true, true, true, true, true, true, true, true, true, true, true, true, true, true, true, true, true, false] rfl rfl (any_of HT_.out (by kernel_rfl)) (fun _ _ _ h => h) (Or.inr ⟨by rfl, rfl⟩) ?_ ?_
          rotate_left
          · simp only [Act.put, List.setIfInBounds_toArray, List.set_cons_zero, List.set_cons_succ, i64_w, i32_w]
            rfl
          refine pure_ (i := 17) (N := some 50) (v := ?_) (a' := ?_) #[true, true, true, true, true, true, true, true, true, true, true, true, true, true, true, true, true, true] rfl rfl (any_of HT_.out (by kernel_rfl)) (fun _ _ _ h => h) (Or.inl ⟨by rfl, ?_⟩) ?_ ?_
          rotate_left
          · intro w'
            go_simp
            with_reducible rfl
          rotate_left
          · simp only [Act.put, List.setIfInBounds_toArray, List.set_cons_zero, List.set_cons_succ, i64_w, i32_w]
            rfl
          refine done_ (done_of HT_.out (by kernel_rfl)) ?_
          try go_wp2
          go_meet
          case rel => exact ⟨_, (true), (by first | rfl | (simp; done) | (simp [*]; done)), H', ⟨by first | omega | exact Nat.le_refl _⟩, ⟨by (with_reducible repeat apply ru); exact HO793.out⟩, ⟨by (with_reducible repeat apply ru); exact HO800.out⟩, ⟨by (with_reducible repeat apply ru); exact HO805.out⟩, ⟨by (with_reducible repeat refine bu ?_); exact BK796.out⟩, ⟨by (with_reducible repeat refine bu ?_); exact BK797.out⟩, ⟨by (with_reducible repeat refine bu ?_); exact BK802.out⟩, ⟨by (with_reducible repeat refine bu ?_); exact BK807.out⟩, ⟨by repeat (first | (with_reducible first | exact HB.out | apply below_alloc | apply pw_below_drewN | apply below_drew1 | refine below_set ?_ GE796.out | refine below_set ?_ GE797.out | refine below_set ?_ GE802.out | refine below_set ?_ GE807.out) | exact HB.out)⟩⟩
      · replace c30 := Bool.eq_false_iff.mpr c30
        subst c30
        have H1 : (laws_FnMapPut.j0 k t801 true t791 t794 t795 t798) = some r := by rw [if_neg (show ¬ (false = true) by decide)] at H; exact H
        clear H
        have H := H1
        clear H1
        have H' := Aside0.mk H
        clear H
        try go_wp2
        have n0_ : Aside0 (Kd.R k29 29 (w23.setCell ⟨gb807, 0, none⟩ (.slice Ao24 t803.length co24)) w.heap.size (fun k_ => some k_ ≠ (.slice Ao16 t798.length co16 : Value).ownBlock ∧ some k_ ≠ (.slice Ao24 t803.length co24 : Value).ownBlock ∧ k_ ≠ gb797) (.slice Ao10 t791.length co10) t791) := ⟨by (with_reducible repeat apply ru); exact Kd.R_mono (Kd.R_far (p := ⟨gb807, 0, none⟩) (Kd.R_types HO793.out BK807.out (by decide)) (fun _ hk => hk.2) (.slice Ao24 t803.length co24)) (fun _ hk => ⟨hk.1.1.2, ⟨hk.1.2, hk.1.1.1.2⟩⟩)⟩
        have n1_ : Aside0 (Kd.R k29 29 (w23.setCell ⟨gb807, 0, none⟩ (.slice Ao24 t803.length co24)) w.heap.size (fun k_ => some k_ ≠ (.slice Ao10 t791.length co10 : Value).ownBlock ∧ some k_ ≠ (.slice Ao24 t803.length co24 : Value).ownBlock ∧ k_ ≠ gb797) (.slice Ao16 t798.length co16) t798) := ⟨by (with_reducible repeat apply ru); exact Kd.R_mono (Kd.R_far (p := ⟨gb807, 0, none⟩) (Kd.R_types HO800.out BK807.out (by decide)) (fun _ hk => hk.2) (.slice Ao24 t803.length co24)) (fun _ hk => ⟨hk.1.1.1.2, ⟨hk.1.2, hk.1.1.2⟩⟩)⟩
        have n2_ : Aside0 (Kd.R k29 29 (w23.setCell ⟨gb807, 0, none⟩ (.slice Ao24 t803.length co24)) w.heap.size (fun k_ => some k_ ≠ (.slice Ao10 t791.length co10 : Value).ownBlock ∧ some k_ ≠ (.slice Ao16 t798.length co16 : Value).ownBlock ∧ k_ ≠ gb797) (.slice Ao24 t803.length co24) t803) := ⟨by (with_reducible repeat apply ru); exact Kd.R_mono (Kd.R_far (p := ⟨gb807, 0, none⟩) (Kd.R_types HO805.out BK807.out (by decide)) (fun _ hk => hk.2) (.slice Ao24 t803.length co24)) (fun _ hk => ⟨hk.1.1.1.2, ⟨hk.1.1.2, hk.1.2⟩⟩)⟩
        have n3_ : Aside0 ((w23.setCell ⟨gb807, 0, none⟩ (.slice Ao24 t803.length co24)).heap[gb796]? = some (.cells #[.slice Ao10 t791.length co10] 45 (0, 0))) := ⟨by (with_reducible repeat refine bu ?_); refine blk_far ?_ NB796_807.out _; (with_reducible repeat refine bu ?_); exact BK796.out⟩
        have n4_ : Aside0 ((w23.setCell ⟨gb807, 0, none⟩ (.slice Ao24 t803.length co24)).heap[gb797]? = some (.cells #[.int .i64 t794, .int .i64 t795] 29 (0, 0))) := ⟨by (with_reducible repeat refine bu ?_); refine blk_far ?_ NB797_807.out _; (with_reducible repeat refine bu ?_); exact BK797.out⟩
        have n5_ : Aside0 ((w23.setCell ⟨gb807, 0, none⟩ (.slice Ao24 t803.length co24)).heap[gb802]? = some (.cells #[.slice Ao16 t798.length co16] 45 (0, 0))) := ⟨by (with_reducible repeat refine bu ?_); refine blk_far ?_ NB802_807.out _; (with_reducible repeat refine bu ?_); exact BK802.out⟩
        have n6_ : Aside0 ((w23.setCell ⟨gb807, 0, none⟩ (.slice Ao24 t803.length co24)).heap[gb807]? = some (.cells #[.slice Ao24 t803.length co24] 45 (0, 0))) := ⟨by (with_reducible repeat refine bu ?_); refine blk_put (cs := #[.slice none 0 0]) ?_ 0 _ rfl; (with_reducible repeat refine bu ?_); exact BK807.out⟩
        have n7_ : Aside0 (Below w.heap.size w (w23.setCell ⟨gb807, 0, none⟩ (.slice Ao24 t803.length co24))) := ⟨by repeat (first | (with_reducible first | exact HB.out | apply below_alloc | apply pw_below_drewN | apply below_drew1 | refine below_set ?_ GE796.out | refine below_set ?_ GE797.out | refine below_set ?_ GE802.out | refine below_set ?_ GE807.out) | exact HB.out)⟩
        (try clear HO793)
        (try clear HO800)
        (try clear HO805)
        (try clear BK796)
        (try clear BK797)
        (try clear BK802)
        (try clear BK807)
        (try clear HB)
        generalize (w23.setCell ⟨gb807, 0, none⟩ (.slice Ao24 t803.length co24)) = w40 at n0_ n1_ n2_ n3_ n4_ n5_ n6_ n7_ ⊢
        have HO793 := n0_
        have HO800 := n1_
        have HO805 := n2_
        have BK796 := n3_
        have BK797 := n4_
        have BK802 := n5_
        have BK807 := n6_
        have HB := n7_
        clear n0_ n1_ n2_ n3_ n4_ n5_ n6_ n7_
        have n0_ := Aside0.mk (Kd.R_drew HO793.out)
        have n1_ := Aside0.mk (Kd.R_drew HO800.out)
        have n2_ := Aside0.mk (Kd.R_drew HO805.out)
        have n3_ := Aside0.mk (blk_drew BK796.out)
        have n4_ := Aside0.mk (blk_drew BK797.out)
        have n5_ := Aside0.mk (blk_drew BK802.out)
        have n6_ := Aside0.mk (blk_drew BK807.out)
        have n7_ := Aside0.mk (below_drew1 HB.out)
        clear HO793
        clear HO800
        clear HO805
        clear BK796
        clear BK797
        clear BK802
        clear BK807
        clear HB
        have HO793 := n0_
        have HO800 := n1_
        have HO805 := n2_
        have BK796 := n3_
        have BK797 := n4_
        have BK802 := n5_
        have BK807 := n6_
        have HB := n7_
        clear n0_ n1_ n2_ n3_ n4_ n5_ n6_ n7_
        refine start_ (n := 18) (S := fun w' => w'.cell? ⟨gb802, 0, none⟩ = some (.slice Ao16 t798.length co16) ∧ w'.cell? ⟨gb807, 0, none⟩ = some (.slice Ao24 t803.length co24)) (ds := []) #[false, false, false, false, false, false, false, false, false, false, false, false, false, false, false, false, false, false] (by kernel_rfl) rfl rfl ⟨(blk_cell BK802.out 0).trans rfl, (blk_cell BK807.out 0).trans rfl⟩ (fun hHeld => ?_); refine with_tabW laws_FnMapPut.tab6 laws_FnMapPut.bits6 (fun HT_ HW_ => ?_)
        generalize w40.drew = w41 at HO793 HO800 HO805 BK796 BK797 BK802 BK807 HB hHeld ⊢
        refine pure_ (i := 0) (N := some 33) (v := ?_) (a' := ?_) #[true, false, false, false, false, false, false, false, false, false, false, false, false, false, false, false, false, false] rfl rfl (any_of HT_.out (by kernel_rfl)) (fun _ _ _ h => h) (Or.inl ⟨by rfl, ?_⟩) ?_ ?_
        rotate_left
        · intro w'
          go_simp
          with_reducible rfl
        rotate_left
        · simp only [Act.put, List.setIfInBounds_toArray, List.set_cons_zero, List.set_cons_succ, i64_w, i32_w]
          rfl
        refine pure_ (i := 2) (N := some 35) (v := ?_) (a' := ?_) #[true, false, true, false, false, false, false, false, false, false, false, false, false, false, false, false, false, false] rfl rfl (any_of HT_.out (by kernel_rfl)) (fun _ _ _ h => h) (Or.inl ⟨by rfl, ?_⟩) ?_ ?_
        rotate_left
        · intro w'
          go_simp
          with_reducible rfl
        rotate_left
        · simp only [Act.put, List.setIfInBounds_toArray, List.set_cons_zero, List.set_cons_succ, i64_w, i32_w]
          rfl
        refine take_ (i := 1) (N := some 34) (v := ?_) (a' := ?_) #[true, true, true, false, false, false, false, false, false, false, false, false, false, false, false, false, false, false] rfl rfl (take_ofW HT_.out HW_.out (by kernel_rfl)) (fun _ _ _ h => h) (Or.inl ⟨by rfl, ?_⟩) hHeld ?_ ?_
        rotate_left
        · rintro w' ⟨s0, s1⟩
          go_simp
          with_reducible rfl
        rotate_left
        · simp only [Act.put, List.setIfInBounds_toArray, List.set_cons_zero, List.set_cons_succ, i64_w, i32_w]
          rfl
        refine take_ (i := 3) (N := some 36) (v := ?_) (a' := ?_) #[true, true, true, true, false, false, false, false, false, false, false, false, false, false, false, false, false, false] rfl rfl (take_ofW HT_.out HW_.out (by kernel_rfl)) (fun _ _ _ h => h) (Or.inl ⟨by rfl, ?_⟩) hHeld ?_ ?_
        rotate_left
        · rintro w' ⟨s0, s1⟩
          go_simp
          with_reducible rfl
        rotate_left
        · simp only [Act.put, List.setIfInBounds_toArray, List.set_cons_zero, List.set_cons_succ, i64_w, i32_w]
          rfl
        refine one_ (i := 4) (N := some 37) #[true, true, true, true, true, false, false, false, false, false, false, false, false, false, false, false, false, false] rfl rfl (one_of HT_.out (by kernel_rfl)) (by decide) (fun K hK => ?_)
        refine goes_ Try.func34 (by kernel_rfl) rfl #[.slice Ao16 t798.length co16, .slice Ao24 t803.length co24] (by rfl) rfl rfl (by (try simp only [List.map_toArray, List.map_cons, List.map_nil]); first | done | rfl | (simp only [List.length_drop, List.length_take]; rfl)) ?_
        with_reducible refine (laws_haEnds.calls k _ _ t798 _ _ t803 false _ ?side1 ?side2 ?side3 ?side4 A29.out).mono ?_
        (case side1 => repeat (first | exact (Kd.R_reads' HO800.out).2.2 | (with_reducible refine Kd.C_alloc ?_ _) | (with_reducible refine Kd.C_drewN ?_ _) | (with_reducible refine Kd.C_drew ?_)))
        (case side2 => exact (Kd.R_reads' HO800.out).2.1)
        (case side3 => repeat (first | exact (Kd.R_reads' HO805.out).2.2 | (with_reducible refine Kd.C_alloc ?_ _) | (with_reducible refine Kd.C_drewN ?_ _) | (with_reducible refine Kd.C_drew ?_)))
        (case side4 => exact (Kd.R_reads' HO805.out).2.1)
        rintro e w' ⟨rfl, ⟨nd, rfl⟩⟩
        refine ⟨_, rfl, ?_⟩
        refine hK.out _ _ ⟨(blk_cell BK802.out 0).trans rfl, (blk_cell BK807.out 0).trans rfl⟩ (fun hHeld => ?_)
        clear hK K
        refine norm_ (a' := ?_) ?_ ?_
        rotate_left
        · show Act.put _ (some 37) _ = _
          simp only [Act.put, List.setIfInBounds_toArray, List.set_cons_zero, List.set_cons_succ, i64_w, i32_w]
          rfl
        refine pure_ (i := 5) (N := some 38) (v := ?_) (a' := ?_) #[true, true, true, true, true, true, false, false, false, false, false, false, false, false, false, false, false, false] rfl rfl (any_of HT_.out (by kernel_rfl)) (fun _ _ _ h => h) (Or.inl ⟨by rfl, ?_⟩) ?_ ?_
        rotate_left
        · intro w'
          go_simp
          with_reducible rfl
        rotate_left
        · simp only [Act.put, List.setIfInBounds_toArray, List.set_cons_zero, List.set_cons_succ, i64_w, i32_w]
          rfl
        refine pure_ (i := 6) (N := some 39) (v := ?_) (a' := ?_) #[true, true, true, true, true, true, true, false, false, false, false, false, false, false, false, false, false, false] rfl rfl (any_of HT_.out (by kernel_rfl)) (fun _ _ _ h => h) (Or.inl ⟨by rfl, ?_⟩) ?_ ?_
        rotate_left
        · intro w'
          go_simp
          with_reducible rfl
        rotate_left
        · simp only [Act.put, List.setIfInBounds_toArray, List.set_cons_zero, List.set_cons_succ, i64_w, i32_w]
          rfl
        refine pure_ (i := 7) (N := some 40) (v := undef) (a' := ?_) #[true, true, true, true, true, true, true, true, false, false, false, false, false, false, false, false, false, false] rfl rfl (any_of HT_.out (by kernel_rfl)) (fun _ _ _ h => h) (Or.inr ⟨by rfl, rfl⟩) ?_ ?_
        rotate_left
        · simp only [Act.put, List.setIfInBounds_toArray, List.set_cons_zero, List.set_cons_succ, i64_w, i32_w]
          rfl
        refine pure_ (i := 8) (N := some 41) (v := undef) (a' := ?_) #[true, true, true, true, true, true, true, true, true, false, false, false, false, false, false, false, false, false] rfl rfl (any_of HT_.out (by kernel_rfl)) (fun _ _ _ h => h) (Or.inr ⟨by rfl, rfl⟩) ?_ ?_
        rotate_left
        · simp only [Act.put, List.setIfInBounds_toArray, List.set_cons_zero, List.set_cons_succ, i64_w, i32_w]
          rfl
        refine pure_ (i := 9) (N := some 42) (v := undef) (a' := ?_) #[true, true, true, true, true, true, true, true, true, true, false, false, false, false, false, false, false, false] rfl rfl (any_of HT_.out (by kernel_rfl)) (fun _ _ _ h => h) (Or.inr ⟨by rfl, rfl⟩) ?_ ?_
        rotate_left
        · simp only [Act.put, List.setIfInBounds_toArray, List.set_cons_zero, List.set_cons_succ, i64_w, i32_w]
          rfl
        refine pure_ (i := 10) (N := some 43) (v := ?_) (a' := ?_) #[true, true, true, true, true, true, true, true, true, true, true, false, false, false, false, false, false, false] rfl rfl (any_of HT_.out (by kernel_rfl)) (fun _ _ _ h => h) (Or.inl ⟨by rfl, ?_⟩) ?_ ?_
        rotate_left
        · intro w'
          go_simp
          with_reducible rfl
        rotate_left
        · simp only [Act.put, List.setIfInBounds_toArray, List.set_cons_zero, List.set_cons_succ, i64_w, i32_w]
          rfl
        refine pure_ (i := 11) (N := some 44) (v := ?_) (a' := ?_) #[true, true, true, true, true, true, true, true, true, true, true, true, false, false, false, false, false, false] rfl rfl (any_of HT_.out (by kernel_rfl)) (fun _ _ _ h => h) (Or.inl ⟨by rfl, ?_⟩) ?_ ?_
        rotate_left
        · intro w'
          go_simp
          with_reducible rfl
        rotate_left
        · simp only [Act.put, List.setIfInBounds_toArray, List.set_cons_zero, List.set_cons_succ, i64_w, i32_w]
          rfl
        refine pure_ (i := 12) (N := some 45) (v := undef) (a' := ?_) #[true, true, true, true, true, true, true, true, true, true, true, true, true, false, false, false, false, false] rfl rfl (any_of HT_.out (by kernel_rfl)) (fun _ _ _ h => h) (Or.inr ⟨by rfl, rfl⟩) ?_ ?_
        rotate_left
        · simp only [Act.put, List.setIfInBounds_toArray, List.set_cons_zero, List.set_cons_succ, i64_w, i32_w]
          rfl
        refine pure_ (i := 13) (N := some 46) (v := undef) (a' := ?_) #[true, true, true, true, true, true, true, true, true, true, true, true, true, true, false, false, false, false] rfl rfl (any_of HT_.out (by kernel_rfl)) (fun _ _ _ h => h) (Or.inr ⟨by rfl, rfl⟩) ?_ ?_
        rotate_left
        · simp only [Act.put, List.setIfInBounds_toArray, List.set_cons_zero, List.set_cons_succ, i64_w, i32_w]
          rfl
        refine pure_ (i := 14) (N := some 47) (v := undef) (a' := ?_) #[true, true, true, true, true, true, true, true, true, true, true, true, true, true, true, false, false, false] rfl rfl (any_of HT_.out (by kernel_rfl)) (fun _ _ _ h => h) (Or.inr ⟨by rfl, rfl⟩) ?_ ?_
        rotate_left
        · simp only [Act.put, List.setIfInBounds_toArray, List.set_cons_zero, List.set_cons_succ, i64_w, i32_w]
          rfl
        refine pure_ (i := 15) (N := some 48) (v := undef) (a' := ?_) #[true, true, true, true, true, true, true, true, true, true, true, true, true, true, true, true, false, false] rfl rfl (any_of HT_.out (by kernel_rfl)) (fun _ _ _ h => h) (Or.inr ⟨by rfl, rfl⟩) ?_ ?_
        rotate_left
        · simp only [Act.put, List.setIfInBounds_toArray, List.set_cons_zero, List.set_cons_succ, i64_w, i32_w]
          rfl
        refine pure_ (i := 16) (N := some 49) (v := undef) (a' := ?_) #[true, true, true, true, true, true, true, true, true, true, true, true, true, true, true, true, true, false] rfl rfl (any_of HT_.out (by kernel_rfl)) (fun _ _ _ h => h) (Or.inr ⟨by rfl, rfl⟩) ?_ ?_
        rotate_left
        · simp only [Act.put, List.setIfInBounds_toArray, List.set_cons_zero, List.set_cons_succ, i64_w, i32_w]
          rfl
        refine pure_ (i := 17) (N := some 50) (v := ?_) (a' := ?_) #[true, true, true, true, true, true, true, true, true, true, true, true, true, true, true, true, true, true] rfl rfl (any_of HT_.out (by kernel_rfl)) (fun _ _ _ h => h) (Or.inl ⟨by rfl, ?_⟩) ?_ ?_
        rotate_left
        · intro w'
          go_simp
          with_reducible rfl
        rotate_left
        · simp only [Act.put, List.setIfInBounds_toArray, List.set_cons_zero, List.set_cons_succ, i64_w, i32_w]
          rfl
        refine done_ (done_of HT_.out (by kernel_rfl)) ?_
        try go_wp2
        go_meet
        case rel => exact ⟨_, (true), (by first | rfl | (simp; done) | (simp [*]; done)), H', ⟨by first | omega | exact Nat.le_refl _⟩, ⟨by (with_reducible repeat apply ru); exact HO793.out⟩, ⟨by (with_reducible repeat apply ru); exact HO800.out⟩, ⟨by (with_reducible repeat apply ru); exact HO805.out⟩, ⟨by (with_reducible repeat refine bu ?_); exact BK796.out⟩, ⟨by (with_reducible repeat refine bu ?_); exact BK797.out⟩, ⟨by (with_reducible repeat refine bu ?_); exact BK802.out⟩, ⟨by (with_reducible repeat refine bu ?_); exact BK807.out⟩, ⟨by repeat (first | (with_reducible first | exact HB.out | apply below_alloc | apply pw_below_drewN | apply below_drew1 | refine below_set ?_ GE796.out | refine below_set ?_ GE797.out | refine below_set ?_ GE802.out | refine below_set ?_ GE807.out) | exact HB.out)⟩⟩
    case rest =>
      clear HC6
      try clear c2
      try clear p2
      try clear c3
      try clear c25
      try clear c30
      try clear c31
      try clear c31b0
      try clear c31b1
      try clear c34
      try clear c35
      obtain ⟨kq, x50_5, rfl, HA, HJ5, HO_797000, HO_803000, HO_808000, BK796, BK797, BK802, BK807, HB⟩ := hcut
      cases kq with
      | zero => exact absurd HA.out (by simp [laws_FnMapPut.j0])
      | succ kj5 =>
        have H := HA.out
        clear HA
        simp only [laws_FnMapPut.j0] at H
        by_cases c42 : x50_5 = true
        · subst c42
          have H1 : (some false) = some r := by rw [if_pos rfl] at H; exact H
          clear H
          have H := H1
          clear H1
          exact absurd ((Option.some.inj H).trans hrt.out) (by decide)
        · replace c42 := Bool.eq_false_iff.mpr c42
          subst c42
          have H1 : ((spec_MapOk.f kj5 t791).bind fun t811 => (if t811 = true then ((spec_EndInside.f t794 t795).bind fun t812 => (laws_FnMapPut.j1 kj5 t801 (!t812) t791 t794 t795 t798)) else (laws_FnMapPut.j1 kj5 t801 true t791 t794 t795 t798))) = some r := by rw [if_neg (show ¬ (false = true) by decide)] at H; exact H
          clear H
          have H := H1
          clear H1
          have HC43 := Aside0.mk H
          clear H
          go_upto_region 8 with (fail)
          go_cut [58] (fun v58 wc => ∃ (kq : Nat) (x58_42 : Bool), v58 = .bool x58_42 ∧ Aside0 (laws_FnMapPut.j1 kq t801 x58_42 t791 t794 t795 t798 = some r) ∧ Aside0 (kq ≤ kj5) ∧ Aside0 (Kd.R k29 29 wc w.heap.size (fun k_ => some k_ ≠ ((.slice Ao16 t798.length co16) : Value).ownBlock ∧ some k_ ≠ ((.slice Ao24 t803.length co24) : Value).ownBlock ∧ k_ ≠ gb797) (.slice Ao10 t791.length co10) t791) ∧ Aside0 (Kd.R k29 29 wc w.heap.size (fun k_ => some k_ ≠ ((.slice Ao10 t791.length co10) : Value).ownBlock ∧ some k_ ≠ ((.slice Ao24 t803.length co24) : Value).ownBlock ∧ k_ ≠ gb797) (.slice Ao16 t798.length co16) t798) ∧ Aside0 (Kd.R k29 29 wc w.heap.size (fun k_ => some k_ ≠ ((.slice Ao10 t791.length co10) : Value).ownBlock ∧ some k_ ≠ ((.slice Ao16 t798.length co16) : Value).ownBlock ∧ k_ ≠ gb797) (.slice Ao24 t803.length co24) t803) ∧ Aside0 (wc.heap[gb796]? = some (.cells #[(.slice Ao10 t791.length co10)] 45 (0, 0))) ∧ Aside0 (wc.heap[gb797]? = some (.cells #[.int .i64 t794, .int .i64 t795] 29 (0, 0))) ∧ Aside0 (wc.heap[gb802]? = some (.cells #[(.slice Ao16 t798.length co16)] 45 (0, 0))) ∧ Aside0 (wc.heap[gb807]? = some (.cells #[(.slice Ao24 t803.length co24)] 45 (0, 0))) ∧ Aside0 (Below w.heap.size w wc))
          case first =>
            have H := HC43.out
            clear HC43
            replace H := Option.bind_eq_some_iff.mp H
            obtain ⟨t811, A440, H⟩ := H
            replace H : (if t811 = true then ((spec_EndInside.f t794 t795).bind fun t812 => (laws_FnMapPut.j1 kj5 t801 (!t812) t791 t794 t795 t798)) else (laws_FnMapPut.j1 kj5 t801 true t791 t794 t795 t798)) = some r := H
            have A44 := Aside0.mk A440
            clear A440
            by_cases c45 : t811 = true
            · subst c45
              have H1 : ((spec_EndInside.f t794 t795).bind fun t812 => (laws_FnMapPut.j1 kj5 t801 (!t812) t791 t794 t795 t798)) = some r := by rw [if_pos rfl] at H; exact H
              clear H
              have H := H1
              clear H1
              replace H := Option.bind_eq_some_iff.mp H
              obtain ⟨t812, A460, H⟩ := H
              replace H : (laws_FnMapPut.j1 kj5 t801 (!t812) t791 t794 t795 t798) = some r := H
              have A46 := Aside0.mk A460
              clear A460
              have H' := Aside0.mk H
              clear H
              have hnb47 := NB796_797.out
              have hnc47 := NB797_796.out
              have hnb48 := NB796_802.out
              have hnc48 := NB802_796.out
              have hnb49 := NB796_807.out
              have hnc49 := NB807_796.out
              have hcz50_0 : wc.cell? ⟨gb796, 0, none⟩ = some (.slice Ao10 t791.length co10) := (blk_cell BK796.out 0).trans rfl
              have hfz50_0 := blk_frozen BK796.out 0
              go_wp2_with (first | ((with_reducible refine gate_callee (f := 25) rfl ?_); refine goesL_ (some 52) rfl rfl Try.func25 (by kernel_rfl) rfl #[.agg #[.slice Ao10 t791.length co10]] rfl (by (try simp only [List.map_toArray, List.map_cons, List.map_nil]); first | done | rfl | (simp only [List.length_drop, List.length_take]; rfl)) ?_; (with_reducible refine (spec_MapOk.calls kj5 _ _ t791 true _ ?side1 ?side2 A44.out).mono ?_); (case side1 => repeat (first | exact (Kd.R_reads' HO_797000.out).2.2 | (with_reducible refine Kd.C_alloc ?_ _) | (with_reducible refine Kd.C_drewN ?_ _) | (with_reducible refine Kd.C_drew ?_))); (case side2 => exact (Kd.R_reads' HO_797000.out).2.1); rintro e w51 ⟨rfl, hb⟩; refine ⟨_, rfl, ?_⟩; have n0_ := Aside0.mk (Kd.R_below (rs HO_797000) hb); have n1_ := Aside0.mk (Kd.R_below (rs HO_803000) hb); have n2_ := Aside0.mk (Kd.R_below (rs HO_808000) hb); have n3_ := bkB BK796 hb; have n4_ := bkB BK797 hb; have n5_ := bkB BK802 hb; have n6_ := bkB BK807 hb; have n7_ := Aside0.mk (below_step (bl HB) hb); clear HO_797000; clear HO_803000; clear HO_808000; clear BK796; clear BK797; clear BK802; clear BK807; clear HB; have HO_797000 := n0_; have HO_803000 := n1_; have HO_808000 := n2_; have BK796 := n3_; have BK797 := n4_; have BK802 := n5_; have BK807 := n6_; have HB := n7_; clear n0_ n1_ n2_ n3_ n4_ n5_ n6_ n7_; (try clear hb); (try clear hb2); (try clear hk); (try clear hi); have hnb52 := NB797_802.out; have hnc52 := NB802_797.out; have hnb53 := NB797_807.out; have hnc53 := NB807_797.out; have hcz54_0 : w51.cell? ⟨gb797, 0, none⟩ = some (.int .i64 t794) := (blk_cell BK797.out 0).trans rfl; have hcz54_1 : w51.cell? ⟨gb797, 1, none⟩ = some (.int .i64 t795) := (blk_cell BK797.out 1).trans rfl; have hfz54_0 := blk_frozen BK797.out 0; have hfz54_1 := blk_frozen BK797.out 1) | (go_at_call 22; (with_reducible refine (spec_EndInside.calls t794 t795 t812 _ A46.out).mono ?_); rintro e w55 ⟨rfl, hb⟩; have n0_ := Aside0.mk (Kd.R_below (rs HO_797000) hb); have n1_ := Aside0.mk (Kd.R_below (rs HO_803000) hb); have n2_ := Aside0.mk (Kd.R_below (rs HO_808000) hb); have n3_ := bkB BK796 hb; have n4_ := bkB BK797 hb; have n5_ := bkB BK802 hb; have n6_ := bkB BK807 hb; have n7_ := Aside0.mk (below_step (bl HB) hb); clear HO_797000; clear HO_803000; clear HO_808000; clear BK796; clear BK797; clear BK802; clear BK807; clear HB; have HO_797000 := n0_; have HO_803000 := n1_; have HO_808000 := n2_; have BK796 := n3_; have BK797 := n4_; have BK802 := n5_; have BK807 := n6_; have HB := n7_; clear n0_ n1_ n2_ n3_ n4_ n5_ n6_ n7_; (try clear hb); (try clear hb2); (try clear hk); (try clear hi)))
              go_meet
              case rel => exact ⟨_, (!t812), (by first | rfl | (simp; done) | (simp [*]; done)), H', ⟨by have := HJ5.out; first | omega | exact Nat.le_refl _⟩, ⟨by (with_reducible repeat apply ru); exact HO_797000.out⟩, ⟨by (with_reducible repeat apply ru); exact HO_803000.out⟩, ⟨by (with_reducible repeat apply ru); exact HO_808000.out⟩, ⟨by (with_reducible repeat refine bu ?_); exact BK796.out⟩, ⟨by (with_reducible repeat refine bu ?_); exact BK797.out⟩, ⟨by (with_reducible repeat refine bu ?_); exact BK802.out⟩, ⟨by (with_reducible repeat refine bu ?_); exact BK807.out⟩, ⟨by repeat (first | (with_reducible first | exact HB.out | apply below_alloc | apply pw_below_drewN | apply below_drew1 | refine below_set ?_ GE796.out | refine below_set ?_ GE797.out | refine below_set ?_ GE802.out | refine below_set ?_ GE807.out) | exact HB.out)⟩⟩
            · replace c45 := Bool.eq_false_iff.mpr c45
              subst c45
              have H1 : (laws_FnMapPut.j1 kj5 t801 true t791 t794 t795 t798) = some r := by rw [if_neg (show ¬ (false = true) by decide)] at H; exact H
              clear H
              have H := H1
              clear H1
              have H' := Aside0.mk H
              clear H
              have hnb56 := NB796_797.out
              have hnc56 := NB797_796.out
              have hnb57 := NB796_802.out
              have hnc57 := NB802_796.out
              have hnb58 := NB796_807.out
              have hnc58 := NB807_796.out
              have hcz59_0 : wc.cell? ⟨gb796, 0, none⟩ = some (.slice Ao10 t791.length co10) := (blk_cell BK796.out 0).trans rfl
              have hfz59_0 := blk_frozen BK796.out 0
              go_wp2_with (first | ((with_reducible refine gate_callee (f := 25) rfl ?_); refine goesL_ (some 52) rfl rfl Try.func25 (by kernel_rfl) rfl #[.agg #[.slice Ao10 t791.length co10]] rfl (by (try simp only [List.map_toArray, List.map_cons, List.map_nil]); first | done | rfl | (simp only [List.length_drop, List.length_take]; rfl)) ?_; (with_reducible refine (spec_MapOk.calls kj5 _ _ t791 false _ ?side1 ?side2 A44.out).mono ?_); (case side1 => repeat (first | exact (Kd.R_reads' HO_797000.out).2.2 | (with_reducible refine Kd.C_alloc ?_ _) | (with_reducible refine Kd.C_drewN ?_ _) | (with_reducible refine Kd.C_drew ?_))); (case side2 => exact (Kd.R_reads' HO_797000.out).2.1); rintro e w60 ⟨rfl, hb⟩; refine ⟨_, rfl, ?_⟩; have n0_ := Aside0.mk (Kd.R_below (rs HO_797000) hb); have n1_ := Aside0.mk (Kd.R_below (rs HO_803000) hb); have n2_ := Aside0.mk (Kd.R_below (rs HO_808000) hb); have n3_ := bkB BK796 hb; have n4_ := bkB BK797 hb; have n5_ := bkB BK802 hb; have n6_ := bkB BK807 hb; have n7_ := Aside0.mk (below_step (bl HB) hb); clear HO_797000; clear HO_803000; clear HO_808000; clear BK796; clear BK797; clear BK802; clear BK807; clear HB; have HO_797000 := n0_; have HO_803000 := n1_; have HO_808000 := n2_; have BK796 := n3_; have BK797 := n4_; have BK802 := n5_; have BK807 := n6_; have HB := n7_; clear n0_ n1_ n2_ n3_ n4_ n5_ n6_ n7_; (try clear hb); (try clear hb2); (try clear hk); (try clear hi)))
              go_meet
              case rel => exact ⟨_, (true), (by first | rfl | (simp; done) | (simp [*]; done)), H', ⟨by have := HJ5.out; first | omega | exact Nat.le_refl _⟩, ⟨by (with_reducible repeat apply ru); exact HO_797000.out⟩, ⟨by (with_reducible repeat apply ru); exact HO_803000.out⟩, ⟨by (with_reducible repeat apply ru); exact HO_808000.out⟩, ⟨by (with_reducible repeat refine bu ?_); exact BK796.out⟩, ⟨by (with_reducible repeat refine bu ?_); exact BK797.out⟩, ⟨by (with_reducible repeat refine bu ?_); exact BK802.out⟩, ⟨by (with_reducible repeat refine bu ?_); exact BK807.out⟩, ⟨by repeat (first | (with_reducible first | exact HB.out | apply below_alloc | apply pw_below_drewN | apply below_drew1 | refine below_set ?_ GE796.out | refine below_set ?_ GE797.out | refine below_set ?_ GE802.out | refine below_set ?_ GE807.out) | exact HB.out)⟩⟩
          case rest =>
            clear HC43
            try clear c2
            try clear p2
            try clear c3
            try clear c4
            try clear c5
            try clear c25
            try clear c30
            try clear c31
            try clear c31b0
            try clear c31b1
            try clear c34
            try clear c35
            try clear c42
            try clear c45
            try clear c47
            try clear c48
            try clear c49
            try clear c52
            try clear c53
            try clear c56
            try clear c57
            try clear c58
            try clear hcz50_0
            try clear hcz54_0
            try clear hcz54_1
            try clear hcz59_0
            try clear hfz50_0
            try clear hfz54_0
            try clear hfz54_1
            try clear hfz59_0
            try clear p2
            obtain ⟨kq, x58_42, rfl, HA, HJ42, HO_797000, HO_803000, HO_808000, BK796, BK797, BK802, BK807, HB⟩ := hcut
            cases kq with
            | zero => exact absurd HA.out (by simp [laws_FnMapPut.j1])
            | succ kj42 =>
              have H := HA.out
              clear HA
              simp only [laws_FnMapPut.j1] at H
              by_cases c61 : x58_42 = true
              · subst c61
                have H1 : (if t801 = 0 then (if (t798.length : Int) = 0 then ((laws_haOk.f).bind fun t813 => (some t813)) else (some false)) else (some false)) = some r := by rw [if_pos rfl] at H; exact H
                clear H
                have H := H1
                clear H1
                by_cases c62 : t801 = 0
                · rw [if_pos c62] at H
                  have c62b0 : (t801 == 0) = true := beq_iff_eq.mpr c62
                  have c62b1 : (t801 != 0) = false := bne_eq_false_iff_eq.mpr c62
                  clear c62
                  by_cases c63 : (t798.length : Int) = 0
                  · rw [if_pos c63] at H
                    have c63b0 : ((t798.length : Int) == 0) = true := beq_iff_eq.mpr c63
                    have c63b1 : ((t798.length : Int) != 0) = false := bne_eq_false_iff_eq.mpr c63
                    clear c63
                    replace H := Option.bind_eq_some_iff.mp H
                    obtain ⟨t813, A640, H⟩ := H
                    replace H : (some t813) = some r := H
                    have A64 := Aside0.mk A640
                    clear A640
                    obtain rfl := Option.some.inj H
                    have hnb65 := NB802_796.out
                    have hnc65 := NB796_802.out
                    have hnb66 := NB802_797.out
                    have hnc66 := NB797_802.out
                    have hnb67 := NB802_807.out
                    have hnc67 := NB807_802.out
                    have hcz68_0 : wc.cell? ⟨gb802, 0, none⟩ = some (.slice Ao16 t798.length co16) := (blk_cell BK802.out 0).trans rfl
                    have hfz68_0 := blk_frozen BK802.out 0
                    go_wp2_with (first | (go_at_call 14; (with_reducible refine (laws_haOk.calls  t813 _ A64.out).mono ?_); rintro e w69 ⟨rfl, hb⟩; have n0_ := Aside0.mk (Kd.R_below (rs HO_797000) hb); have n1_ := Aside0.mk (Kd.R_below (rs HO_803000) hb); have n2_ := Aside0.mk (Kd.R_below (rs HO_808000) hb); have n3_ := bkB BK796 hb; have n4_ := bkB BK797 hb; have n5_ := bkB BK802 hb; have n6_ := bkB BK807 hb; have n7_ := Aside0.mk (below_step (bl HB) hb); clear HO_797000; clear HO_803000; clear HO_808000; clear BK796; clear BK797; clear BK802; clear BK807; clear HB; have HO_797000 := n0_; have HO_803000 := n1_; have HO_808000 := n2_; have BK796 := n3_; have BK797 := n4_; have BK802 := n5_; have BK807 := n6_; have HB := n7_; clear n0_ n1_ n2_ n3_ n4_ n5_ n6_ n7_; (try clear hb); (try clear hb2); (try clear hk); (try clear hi)))
                    go_ret
                    exact ⟨by first | rfl | (simp [errW_none, errW_some] <;> rfl) | (simp [*, errW_none, errW_some] <;> rfl), by repeat (first | (with_reducible first | exact HB.out | apply below_alloc | apply pw_below_drewN | apply below_drew1 | refine below_set ?_ GE796.out | refine below_set ?_ GE797.out | refine below_set ?_ GE802.out | refine below_set ?_ GE807.out) | exact HB.out)⟩
                  · rw [if_neg c63] at H
                    have c63b0 : ((t798.length : Int) == 0) = false := beq_eq_false_iff_ne.mpr c63
                    have c63b1 : ((t798.length : Int) != 0) = true := bne_iff_ne.mpr c63
                    have c63b2 : ¬ (t798 = []) := fun h_ => c63 (by rw [h_]; rfl)
                    exact absurd ((Option.some.inj H).trans hrt.out) (by decide)
                · rw [if_neg c62] at H
                  have c62b0 : (t801 == 0) = false := beq_eq_false_iff_ne.mpr c62
                  have c62b1 : (t801 != 0) = true := bne_iff_ne.mpr c62
                  exact absurd ((Option.some.inj H).trans hrt.out) (by decide)
              · replace c61 := Bool.eq_false_iff.mpr c61
                subst c61
                have H1 : ((impl_MapOk.f kj42 t798).bind fun t814 => (if t814 = true then ((laws_haFirst.f kj42 t798 t791).bind fun t815 => (laws_FnMapPut.j2 kj42 t801 (!t815) t791 t794 t795 t798)) else (laws_FnMapPut.j2 kj42 t801 true t791 t794 t795 t798))) = some r := by rw [if_neg (show ¬ (false = true) by decide)] at H; exact H
                clear H
                have H := H1
                clear H1
                have HC70 := Aside0.mk H
                clear H
                go_upto_region 10 with (fail)
                go_cut [80] (fun v80 wc => ∃ (kq : Nat) (x80_69 : Bool), v80 = .bool x80_69 ∧ Aside0 (laws_FnMapPut.j2 kq t801 x80_69 t791 t794 t795 t798 = some r) ∧ Aside0 (kq ≤ kj42) ∧ Aside0 (Kd.R k29 29 wc w.heap.size (fun k_ => some k_ ≠ ((.slice Ao16 t798.length co16) : Value).ownBlock ∧ some k_ ≠ ((.slice Ao24 t803.length co24) : Value).ownBlock ∧ k_ ≠ gb797) (.slice Ao10 t791.length co10) t791) ∧ Aside0 (Kd.R k29 29 wc w.heap.size (fun k_ => some k_ ≠ ((.slice Ao10 t791.length co10) : Value).ownBlock ∧ some k_ ≠ ((.slice Ao24 t803.length co24) : Value).ownBlock ∧ k_ ≠ gb797) (.slice Ao16 t798.length co16) t798) ∧ Aside0 (Kd.R k29 29 wc w.heap.size (fun k_ => some k_ ≠ ((.slice Ao10 t791.length co10) : Value).ownBlock ∧ some k_ ≠ ((.slice Ao16 t798.length co16) : Value).ownBlock ∧ k_ ≠ gb797) (.slice Ao24 t803.length co24) t803) ∧ Aside0 (wc.heap[gb796]? = some (.cells #[(.slice Ao10 t791.length co10)] 45 (0, 0))) ∧ Aside0 (wc.heap[gb797]? = some (.cells #[.int .i64 t794, .int .i64 t795] 29 (0, 0))) ∧ Aside0 (wc.heap[gb802]? = some (.cells #[(.slice Ao16 t798.length co16)] 45 (0, 0))) ∧ Aside0 (wc.heap[gb807]? = some (.cells #[(.slice Ao24 t803.length co24)] 45 (0, 0))) ∧ Aside0 (Below w.heap.size w wc))
                case first =>
                  have H := HC70.out
                  clear HC70
                  replace H := Option.bind_eq_some_iff.mp H
                  obtain ⟨t814, A710, H⟩ := H
                  replace H : (if t814 = true then ((laws_haFirst.f kj42 t798 t791).bind fun t815 => (laws_FnMapPut.j2 kj42 t801 (!t815) t791 t794 t795 t798)) else (laws_FnMapPut.j2 kj42 t801 true t791 t794 t795 t798)) = some r := H
                  have A71 := Aside0.mk A710
                  clear A710
                  by_cases c72 : t814 = true
                  · subst c72
                    have H1 : ((laws_haFirst.f kj42 t798 t791).bind fun t815 => (laws_FnMapPut.j2 kj42 t801 (!t815) t791 t794 t795 t798)) = some r := by rw [if_pos rfl] at H; exact H
                    clear H
                    have H := H1
                    clear H1
                    replace H := Option.bind_eq_some_iff.mp H
                    obtain ⟨t815, A730, H⟩ := H
                    replace H : (laws_FnMapPut.j2 kj42 t801 (!t815) t791 t794 t795 t798) = some r := H
                    have A73 := Aside0.mk A730
                    clear A730
                    have H' := Aside0.mk H
                    clear H
                    have hnb74 := NB802_796.out
                    have hnc74 := NB796_802.out
                    have hnb75 := NB802_797.out
                    have hnc75 := NB797_802.out
                    have hnb76 := NB802_807.out
                    have hnc76 := NB807_802.out
                    have hcz77_0 : wc.cell? ⟨gb802, 0, none⟩ = some (.slice Ao16 t798.length co16) := (blk_cell BK802.out 0).trans rfl
                    have hfz77_0 := blk_frozen BK802.out 0
                    go_wp2_with (first | ((with_reducible refine gate_callee (f := 35) rfl ?_); refine goesL_ (some 71) rfl rfl Try.func35 (by kernel_rfl) rfl #[.agg #[.slice Ao16 t798.length co16]] rfl (by (try simp only [List.map_toArray, List.map_cons, List.map_nil]); first | done | rfl | (simp only [List.length_drop, List.length_take]; rfl)) ?_; (with_reducible refine (impl_MapOk.calls kj42 _ _ t798 true _ ?side1 ?side2 A71.out).mono ?_); (case side1 => repeat (first | exact (Kd.R_reads' HO_803000.out).2.2 | (with_reducible refine Kd.C_alloc ?_ _) | (with_reducible refine Kd.C_drewN ?_ _) | (with_reducible refine Kd.C_drew ?_))); (case side2 => exact (Kd.R_reads' HO_803000.out).2.1); rintro e w78 ⟨rfl, hb⟩; refine ⟨_, rfl, ?_⟩; have n0_ := Aside0.mk (Kd.R_below (rs HO_797000) hb); have n1_ := Aside0.mk (Kd.R_below (rs HO_803000) hb); have n2_ := Aside0.mk (Kd.R_below (rs HO_808000) hb); have n3_ := bkB BK796 hb; have n4_ := bkB BK797 hb; have n5_ := bkB BK802 hb; have n6_ := bkB BK807 hb; have n7_ := Aside0.mk (below_step (bl HB) hb); clear HO_797000; clear HO_803000; clear HO_808000; clear BK796; clear BK797; clear BK802; clear BK807; clear HB; have HO_797000 := n0_; have HO_803000 := n1_; have HO_808000 := n2_; have BK796 := n3_; have BK797 := n4_; have BK802 := n5_; have BK807 := n6_; have HB := n7_; clear n0_ n1_ n2_ n3_ n4_ n5_ n6_ n7_; (try clear hb); (try clear hb2); (try clear hk); (try clear hi); have hcz79_0 : w78.cell? ⟨gb802, 0, none⟩ = some (.slice Ao16 t798.length co16) := (blk_cell BK802.out 0).trans rfl; have hfz79_0 := blk_frozen BK802.out 0; have hnb80 := NB796_797.out; have hnc80 := NB797_796.out; have hnb81 := NB796_807.out; have hnc81 := NB807_796.out; have hcz82_0 : w78.cell? ⟨gb796, 0, none⟩ = some (.slice Ao10 t791.length co10) := (blk_cell BK796.out 0).trans rfl; have hfz82_0 := blk_frozen BK796.out 0) | (go_at_call 36; (with_reducible refine (laws_haFirst.calls kj42 _ _ t798 _ _ t791 t815 _ ?side1 ?side2 ?side3 ?side4 A73.out).mono ?_); (case side1 => repeat (first | exact (Kd.R_reads' HO_803000.out).2.2 | (with_reducible refine Kd.C_alloc ?_ _) | (with_reducible refine Kd.C_drewN ?_ _) | (with_reducible refine Kd.C_drew ?_))); (case side2 => exact (Kd.R_reads' HO_803000.out).2.1); (case side3 => repeat (first | exact (Kd.R_reads' HO_797000.out).2.2 | (with_reducible refine Kd.C_alloc ?_ _) | (with_reducible refine Kd.C_drewN ?_ _) | (with_reducible refine Kd.C_drew ?_))); (case side4 => exact (Kd.R_reads' HO_797000.out).2.1); rintro e w' ⟨rfl, ⟨nd, rfl⟩⟩))
                    go_meet
                    case rel => exact ⟨_, (!t815), (by first | rfl | (simp; done) | (simp [*]; done)), H', ⟨by have := HJ5.out; have := HJ42.out; first | omega | exact Nat.le_refl _⟩, ⟨by (with_reducible repeat apply ru); exact HO_797000.out⟩, ⟨by (with_reducible repeat apply ru); exact HO_803000.out⟩, ⟨by (with_reducible repeat apply ru); exact HO_808000.out⟩, ⟨by (with_reducible repeat refine bu ?_); exact BK796.out⟩, ⟨by (with_reducible repeat refine bu ?_); exact BK797.out⟩, ⟨by (with_reducible repeat refine bu ?_); exact BK802.out⟩, ⟨by (with_reducible repeat refine bu ?_); exact BK807.out⟩, ⟨by repeat (first | (with_reducible first | exact HB.out | apply below_alloc | apply pw_below_drewN | apply below_drew1 | refine below_set ?_ GE796.out | refine below_set ?_ GE797.out | refine below_set ?_ GE802.out | refine below_set ?_ GE807.out) | exact HB.out)⟩⟩
                  · replace c72 := Bool.eq_false_iff.mpr c72
                    subst c72
                    have H1 : (laws_FnMapPut.j2 kj42 t801 true t791 t794 t795 t798) = some r := by rw [if_neg (show ¬ (false = true) by decide)] at H; exact H
                    clear H
                    have H := H1
                    clear H1
                    have H' := Aside0.mk H
                    clear H
                    have hnb83 := NB802_796.out
                    have hnc83 := NB796_802.out
                    have hnb84 := NB802_797.out
                    have hnc84 := NB797_802.out
                    have hnb85 := NB802_807.out
                    have hnc85 := NB807_802.out
                    have hcz86_0 : wc.cell? ⟨gb802, 0, none⟩ = some (.slice Ao16 t798.length co16) := (blk_cell BK802.out 0).trans rfl
                    have hfz86_0 := blk_frozen BK802.out 0
                    go_wp2_with (first | ((with_reducible refine gate_callee (f := 35) rfl ?_); refine goesL_ (some 71) rfl rfl Try.func35 (by kernel_rfl) rfl #[.agg #[.slice Ao16 t798.length co16]] rfl (by (try simp only [List.map_toArray, List.map_cons, List.map_nil]); first | done | rfl | (simp only [List.length_drop, List.length_take]; rfl)) ?_; (with_reducible refine (impl_MapOk.calls kj42 _ _ t798 false _ ?side1 ?side2 A71.out).mono ?_); (case side1 => repeat (first | exact (Kd.R_reads' HO_803000.out).2.2 | (with_reducible refine Kd.C_alloc ?_ _) | (with_reducible refine Kd.C_drewN ?_ _) | (with_reducible refine Kd.C_drew ?_))); (case side2 => exact (Kd.R_reads' HO_803000.out).2.1); rintro e w87 ⟨rfl, hb⟩; refine ⟨_, rfl, ?_⟩; have n0_ := Aside0.mk (Kd.R_below (rs HO_797000) hb); have n1_ := Aside0.mk (Kd.R_below (rs HO_803000) hb); have n2_ := Aside0.mk (Kd.R_below (rs HO_808000) hb); have n3_ := bkB BK796 hb; have n4_ := bkB BK797 hb; have n5_ := bkB BK802 hb; have n6_ := bkB BK807 hb; have n7_ := Aside0.mk (below_step (bl HB) hb); clear HO_797000; clear HO_803000; clear HO_808000; clear BK796; clear BK797; clear BK802; clear BK807; clear HB; have HO_797000 := n0_; have HO_803000 := n1_; have HO_808000 := n2_; have BK796 := n3_; have BK797 := n4_; have BK802 := n5_; have BK807 := n6_; have HB := n7_; clear n0_ n1_ n2_ n3_ n4_ n5_ n6_ n7_; (try clear hb); (try clear hb2); (try clear hk); (try clear hi)))
                    go_meet
                    case rel => exact ⟨_, (true), (by first | rfl | (simp; done) | (simp [*]; done)), H', ⟨by have := HJ5.out; have := HJ42.out; first | omega | exact Nat.le_refl _⟩, ⟨by (with_reducible repeat apply ru); exact HO_797000.out⟩, ⟨by (with_reducible repeat apply ru); exact HO_803000.out⟩, ⟨by (with_reducible repeat apply ru); exact HO_808000.out⟩, ⟨by (with_reducible repeat refine bu ?_); exact BK796.out⟩, ⟨by (with_reducible repeat refine bu ?_); exact BK797.out⟩, ⟨by (with_reducible repeat refine bu ?_); exact BK802.out⟩, ⟨by (with_reducible repeat refine bu ?_); exact BK807.out⟩, ⟨by repeat (first | (with_reducible first | exact HB.out | apply below_alloc | apply pw_below_drewN | apply below_drew1 | refine below_set ?_ GE796.out | refine below_set ?_ GE797.out | refine below_set ?_ GE802.out | refine below_set ?_ GE807.out) | exact HB.out)⟩⟩
                case rest =>
                  clear HC70
                  try clear c2
                  try clear p2
                  try clear c3
                  try clear c4
                  try clear c5
                  try clear c6
                  try clear c7
                  try clear c8
                  try clear c25
                  try clear c30
                  try clear c31
                  try clear c31b0
                  try clear c31b1
                  try clear c34
                  try clear c35
                  try clear c42
                  try clear c45
                  try clear c47
                  try clear c48
                  try clear c49
                  try clear c52
                  try clear c53
                  try clear c56
                  try clear c57
                  try clear c58
                  try clear c61
                  try clear c62
                  try clear c62b0
                  try clear c62b1
                  try clear c63
                  try clear c63b0
                  try clear c63b1
                  try clear c63b2
                  try clear c65
                  try clear c66
                  try clear c67
                  try clear c72
                  try clear c74
                  try clear c75
                  try clear c76
                  try clear c80
                  try clear c81
                  try clear c83
                  try clear c84
                  try clear c85
                  try clear hcz50_0
                  try clear hcz54_0
                  try clear hcz54_1
                  try clear hcz59_0
                  try clear hcz68_0
                  try clear hcz77_0
                  try clear hcz79_0
                  try clear hcz82_0
                  try clear hcz86_0
                  try clear hfz50_0
                  try clear hfz54_0
                  try clear hfz54_1
                  try clear hfz59_0
                  try clear hfz68_0
                  try clear hfz77_0
                  try clear hfz79_0
                  try clear hfz82_0
                  try clear hfz86_0
                  try clear p2
                  obtain ⟨kq, x80_69, rfl, HA, HJ69, HO_797000, HO_803000, HO_808000, BK796, BK797, BK802, BK807, HB⟩ := hcut
                  cases kq with
                  | zero => exact absurd HA.out (by simp [laws_FnMapPut.j2])
                  | succ kj69 =>
                    have H := HA.out
                    clear HA
                    simp only [laws_FnMapPut.j2] at H
                    by_cases c88 : x80_69 = true
                    · subst c88
                      have H1 : (some false) = some r := by rw [if_pos rfl] at H; exact H
                      clear H
                      have H := H1
                      clear H1
                      exact absurd ((Option.some.inj H).trans hrt.out) (by decide)
                    · replace c88 := Bool.eq_false_iff.mpr c88
                      subst c88
                      have H1 : ((impl_MapPort.f t791 t794 t795).bind fun t816 => (if t801 = 0 then (if t816 = 0 then (if (t791.length : Int) = 6 then ((laws_haEnds.f kj69 t798 t791).bind fun t817 => (some t817)) else (some false)) else (some false)) else ((impl_MapEnd.f t798 t801).bind fun bt818 => (if bt818.2.2 = true then (if (!(bt818.1 == t794) || (!(bt818.2.1 == t795))) = true then (laws_FnMapPut.j3 kj69 true t791 t798) else ((impl_MapPort.f t798 t794 t795).bind fun t822 => (if t822 = t801 then (if t816 = 0 then (laws_FnMapPut.j3 kj69 false t791 t798) else (laws_FnMapPut.j3 kj69 (t816 != t801) t791 t798)) else (laws_FnMapPut.j3 kj69 true t791 t798)))) else (laws_FnMapPut.j3 kj69 true t791 t798))))) = some r := by rw [if_neg (show ¬ (false = true) by decide)] at H; exact H
                      clear H
                      have H := H1
                      clear H1
                      replace H := Option.bind_eq_some_iff.mp H
                      obtain ⟨t816, A890, H⟩ := H
                      replace H : (if t801 = 0 then (if t816 = 0 then (if (t791.length : Int) = 6 then ((laws_haEnds.f kj69 t798 t791).bind fun t817 => (some t817)) else (some false)) else (some false)) else ((impl_MapEnd.f t798 t801).bind fun bt818 => (if bt818.2.2 = true then (if (!(bt818.1 == t794) || (!(bt818.2.1 == t795))) = true then (laws_FnMapPut.j3 kj69 true t791 t798) else ((impl_MapPort.f t798 t794 t795).bind fun t822 => (if t822 = t801 then (if t816 = 0 then (laws_FnMapPut.j3 kj69 false t791 t798) else (laws_FnMapPut.j3 kj69 (t816 != t801) t791 t798)) else (laws_FnMapPut.j3 kj69 true t791 t798)))) else (laws_FnMapPut.j3 kj69 true t791 t798)))) = some r := H
                      have A89 := Aside0.mk A890
                      clear A890
                      by_cases c90 : t801 = 0
                      · rw [if_pos c90] at H
                        have c90b0 : (t801 == 0) = true := beq_iff_eq.mpr c90
                        have c90b1 : (t801 != 0) = false := bne_eq_false_iff_eq.mpr c90
                        clear c90
                        by_cases c91 : t816 = 0
                        · rw [if_pos c91] at H
                          have c91b0 : (t816 == 0) = true := beq_iff_eq.mpr c91
                          have c91b1 : (t816 != 0) = false := bne_eq_false_iff_eq.mpr c91
                          clear c91
                          by_cases c92 : (t791.length : Int) = 6
                          · rw [if_pos c92] at H
                            have c92b0 : ((t791.length : Int) == 6) = true := beq_iff_eq.mpr c92
                            have c92b1 : ((t791.length : Int) != 6) = false := bne_eq_false_iff_eq.mpr c92
                            clear c92
                            replace H := Option.bind_eq_some_iff.mp H
                            obtain ⟨t817, A930, H⟩ := H
                            replace H : (some t817) = some r := H
                            have A93 := Aside0.mk A930
                            clear A930
                            obtain rfl := Option.some.inj H
                            have hnb94 := NB796_797.out
                            have hnc94 := NB797_796.out
                            have hnb95 := NB796_802.out
                            have hnc95 := NB802_796.out
                            have hnb96 := NB796_807.out
                            have hnc96 := NB807_796.out
                            have hcz97_0 : wc.cell? ⟨gb796, 0, none⟩ = some (.slice Ao10 t791.length co10) := (blk_cell BK796.out 0).trans rfl
                            have hfz97_0 := blk_frozen BK796.out 0
                            have hnb98 := NB797_802.out
                            have hnc98 := NB802_797.out
                            have hnb99 := NB797_807.out
                            have hnc99 := NB807_797.out
                            have hcz100_0 : wc.cell? ⟨gb797, 0, none⟩ = some (.int .i64 t794) := (blk_cell BK797.out 0).trans rfl
                            have hcz100_1 : wc.cell? ⟨gb797, 1, none⟩ = some (.int .i64 t795) := (blk_cell BK797.out 1).trans rfl
                            have hfz100_0 := blk_frozen BK797.out 0
                            have hfz100_1 := blk_frozen BK797.out 1
                            go_wp2_with (first | ((with_reducible refine gate_callee (f := 27) rfl ?_); refine goesL_ (some 83) rfl rfl Try.func27 (by kernel_rfl) rfl #[.agg #[.slice Ao10 t791.length co10], .agg #[.int .i64 t794, .int .i64 t795]] rfl (by (try simp only [List.map_toArray, List.map_cons, List.map_nil]); first | done | rfl | (simp only [List.length_drop, List.length_take]; rfl)) ?_; (with_reducible refine (impl_MapPort.calls _ _ t791 t794 t795 t816 _ ?side1 ?side2 A89.out).mono ?_); (case side1 => repeat (first | exact (Kd.R_reads' HO_797000.out).2.2 | (with_reducible refine Kd.C_alloc ?_ _) | (with_reducible refine Kd.C_drewN ?_ _) | (with_reducible refine Kd.C_drew ?_))); (case side2 => exact (Kd.R_reads' HO_797000.out).2.1); rintro e w101 ⟨rfl, hb⟩; refine ⟨_, rfl, ?_⟩; have n0_ := Aside0.mk (Kd.R_below (rs HO_797000) hb); have n1_ := Aside0.mk (Kd.R_below (rs HO_803000) hb); have n2_ := Aside0.mk (Kd.R_below (rs HO_808000) hb); have n3_ := bkB BK796 hb; have n4_ := bkB BK797 hb; have n5_ := bkB BK802 hb; have n6_ := bkB BK807 hb; have n7_ := Aside0.mk (below_step (bl HB) hb); clear HO_797000; clear HO_803000; clear HO_808000; clear BK796; clear BK797; clear BK802; clear BK807; clear HB; have HO_797000 := n0_; have HO_803000 := n1_; have HO_808000 := n2_; have BK796 := n3_; have BK797 := n4_; have BK802 := n5_; have BK807 := n6_; have HB := n7_; clear n0_ n1_ n2_ n3_ n4_ n5_ n6_ n7_; (try clear hb); (try clear hb2); (try clear hk); (try clear hi); have hcz102_0 : w101.cell? ⟨gb796, 0, none⟩ = some (.slice Ao10 t791.length co10) := (blk_cell BK796.out 0).trans rfl; have hfz102_0 := blk_frozen BK796.out 0; have hnb103 := NB802_807.out; have hnc103 := NB807_802.out; have hcz104_0 : w101.cell? ⟨gb802, 0, none⟩ = some (.slice Ao16 t798.length co16) := (blk_cell BK802.out 0).trans rfl; have hfz104_0 := blk_frozen BK802.out 0) | (go_at_call 34; (with_reducible refine (laws_haEnds.calls kj69 _ _ t798 _ _ t791 t817 _ ?side1 ?side2 ?side3 ?side4 A93.out).mono ?_); (case side1 => repeat (first | exact (Kd.R_reads' HO_803000.out).2.2 | (with_reducible refine Kd.C_alloc ?_ _) | (with_reducible refine Kd.C_drewN ?_ _) | (with_reducible refine Kd.C_drew ?_))); (case side2 => exact (Kd.R_reads' HO_803000.out).2.1); (case side3 => repeat (first | exact (Kd.R_reads' HO_797000.out).2.2 | (with_reducible refine Kd.C_alloc ?_ _) | (with_reducible refine Kd.C_drewN ?_ _) | (with_reducible refine Kd.C_drew ?_))); (case side4 => exact (Kd.R_reads' HO_797000.out).2.1); rintro e w' ⟨rfl, ⟨nd, rfl⟩⟩))
                            go_ret
                            exact ⟨by first | rfl | (simp [errW_none, errW_some] <;> rfl) | (simp [*, errW_none, errW_some] <;> rfl), by repeat (first | (with_reducible first | exact HB.out | apply below_alloc | apply pw_below_drewN | apply below_drew1 | refine below_set ?_ GE796.out | refine below_set ?_ GE797.out | refine below_set ?_ GE802.out | refine below_set ?_ GE807.out) | exact HB.out)⟩
                          · rw [if_neg c92] at H
                            have c92b0 : ((t791.length : Int) == 6) = false := beq_eq_false_iff_ne.mpr c92
                            have c92b1 : ((t791.length : Int) != 6) = true := bne_iff_ne.mpr c92
                            exact absurd ((Option.some.inj H).trans hrt.out) (by decide)
                        · rw [if_neg c91] at H
                          have c91b0 : (t816 == 0) = false := beq_eq_false_iff_ne.mpr c91
                          have c91b1 : (t816 != 0) = true := bne_iff_ne.mpr c91
                          exact absurd ((Option.some.inj H).trans hrt.out) (by decide)
                      · rw [if_neg c90] at H
                        have c90b0 : (t801 == 0) = false := beq_eq_false_iff_ne.mpr c90
                        have c90b1 : (t801 != 0) = true := bne_iff_ne.mpr c90
                        replace H := Option.bind_eq_some_iff.mp H
                        obtain ⟨⟨t818, t819, t820⟩, A1050, H⟩ := H
                        replace H : (if t820 = true then (if (!(t818 == t794) || (!(t819 == t795))) = true then (laws_FnMapPut.j3 kj69 true t791 t798) else ((impl_MapPort.f t798 t794 t795).bind fun t822 => (if t822 = t801 then (if t816 = 0 then (laws_FnMapPut.j3 kj69 false t791 t798) else (laws_FnMapPut.j3 kj69 (t816 != t801) t791 t798)) else (laws_FnMapPut.j3 kj69 true t791 t798)))) else (laws_FnMapPut.j3 kj69 true t791 t798)) = some r := H
                        have A105 := Aside0.mk A1050
                        clear A1050
                        have HC106 := Aside0.mk H
                        clear H
                        have hnb107 := NB796_797.out
                        have hnc107 := NB797_796.out
                        have hnb108 := NB796_802.out
                        have hnc108 := NB802_796.out
                        have hnb109 := NB796_807.out
                        have hnc109 := NB807_796.out
                        have hcz110_0 : wc.cell? ⟨gb796, 0, none⟩ = some (.slice Ao10 t791.length co10) := (blk_cell BK796.out 0).trans rfl
                        have hfz110_0 := blk_frozen BK796.out 0
                        have hnb111 := NB797_802.out
                        have hnc111 := NB802_797.out
                        have hnb112 := NB797_807.out
                        have hnc112 := NB807_797.out
                        have hcz113_0 : wc.cell? ⟨gb797, 0, none⟩ = some (.int .i64 t794) := (blk_cell BK797.out 0).trans rfl
                        have hcz113_1 : wc.cell? ⟨gb797, 1, none⟩ = some (.int .i64 t795) := (blk_cell BK797.out 1).trans rfl
                        have hfz113_0 := blk_frozen BK797.out 0
                        have hfz113_1 := blk_frozen BK797.out 1
                        go_upto_region 16 with (first | ((with_reducible refine gate_callee (f := 27) rfl ?_); refine goesL_ (some 83) rfl rfl Try.func27 (by kernel_rfl) rfl #[.agg #[.slice Ao10 t791.length co10], .agg #[.int .i64 t794, .int .i64 t795]] rfl (by (try simp only [List.map_toArray, List.map_cons, List.map_nil]); first | done | rfl | (simp only [List.length_drop, List.length_take]; rfl)) ?_; (with_reducible refine (impl_MapPort.calls _ _ t791 t794 t795 t816 _ ?side1 ?side2 A89.out).mono ?_); (case side1 => repeat (first | exact (Kd.R_reads' HO_797000.out).2.2 | (with_reducible refine Kd.C_alloc ?_ _) | (with_reducible refine Kd.C_drewN ?_ _) | (with_reducible refine Kd.C_drew ?_))); (case side2 => exact (Kd.R_reads' HO_797000.out).2.1); rintro e w114 ⟨rfl, hb⟩; refine ⟨_, rfl, ?_⟩; have n0_ := Aside0.mk (Kd.R_below (rs HO_797000) hb); have n1_ := Aside0.mk (Kd.R_below (rs HO_803000) hb); have n2_ := Aside0.mk (Kd.R_below (rs HO_808000) hb); have n3_ := bkB BK796 hb; have n4_ := bkB BK797 hb; have n5_ := bkB BK802 hb; have n6_ := bkB BK807 hb; have n7_ := Aside0.mk (below_step (bl HB) hb); clear HO_797000; clear HO_803000; clear HO_808000; clear BK796; clear BK797; clear BK802; clear BK807; clear HB; have HO_797000 := n0_; have HO_803000 := n1_; have HO_808000 := n2_; have BK796 := n3_; have BK797 := n4_; have BK802 := n5_; have BK807 := n6_; have HB := n7_; clear n0_ n1_ n2_ n3_ n4_ n5_ n6_ n7_; (try clear hb); (try clear hb2); (try clear hk); (try clear hi); have hnb115 := NB802_807.out; have hnc115 := NB807_802.out; have hcz116_0 : w114.cell? ⟨gb802, 0, none⟩ = some (.slice Ao16 t798.length co16) := (blk_cell BK802.out 0).trans rfl; have hfz116_0 := blk_frozen BK802.out 0) | ((with_reducible refine gate_callee (f := 37) rfl ?_); refine goesL_ (some 104) rfl rfl Try.func37 (by kernel_rfl) rfl #[.agg #[.slice Ao16 t798.length co16], .int .i64 t801] rfl (by (try simp only [List.map_toArray, List.map_cons, List.map_nil]); first | done | rfl | (simp only [List.length_drop, List.length_take]; rfl)) ?_; (with_reducible refine (impl_MapEnd.calls _ _ t798 t801 t818 t819 t820 _ ?side1 ?side2 A105.out).mono ?_); (case side1 => repeat (first | exact (Kd.R_reads' HO_803000.out).2.2 | (with_reducible refine Kd.C_alloc ?_ _) | (with_reducible refine Kd.C_drewN ?_ _) | (with_reducible refine Kd.C_drew ?_))); (case side2 => exact (Kd.R_reads' HO_803000.out).2.1); rintro e w117 ⟨rfl, hb⟩; refine ⟨_, rfl, ?_⟩; have n0_ := Aside0.mk (Kd.R_below (rs HO_797000) hb); have n1_ := Aside0.mk (Kd.R_below (rs HO_803000) hb); have n2_ := Aside0.mk (Kd.R_below (rs HO_808000) hb); have n3_ := bkB BK796 hb; have n4_ := bkB BK797 hb; have n5_ := bkB BK802 hb; have n6_ := bkB BK807 hb; have n7_ := Aside0.mk (below_step (bl HB) hb); clear HO_797000; clear HO_803000; clear HO_808000; clear BK796; clear BK797; clear BK802; clear BK807; clear HB; have HO_797000 := n0_; have HO_803000 := n1_; have HO_808000 := n2_; have BK796 := n3_; have BK797 := n4_; have BK802 := n5_; have BK807 := n6_; have HB := n7_; clear n0_ n1_ n2_ n3_ n4_ n5_ n6_ n7_; (try clear hb); (try clear hb2); (try clear hk); (try clear hi)) | ((with_reducible refine gate_dst (N := 10) rfl ?_); refine box_event ?hg (N := 10) ?hd (cs := #[.int .i64 0, .int .i64 0]) (t := 29) ?hr ?_; (case hd => rfl); (case hg => rfl); (case hr => first | (go_simp; done) | (go_simp; rfl)); intro gb821 hg w118 hbox hb; have n0_ := Aside0.mk (Kd.R_below (Kd.R_elderB (rs HO_797000) gb821 (Nat.le_of_eq hg.symm)) hb); have n1_ := Aside0.mk (Kd.R_below (Kd.R_elderB (rs HO_803000) gb821 (Nat.le_of_eq hg.symm)) hb); have n2_ := Aside0.mk (Kd.R_below (Kd.R_elderB (rs HO_808000) gb821 (Nat.le_of_eq hg.symm)) hb); have n3_ := bkB BK796 hb; have n4_ := bkB BK797 hb; have n5_ := bkB BK802 hb; have n6_ := bkB BK807 hb; have n7_ := Aside0.mk (below_step (bl HB) hb); have n8_ := Aside0.mk (hbox); have n9_ := Aside0.mk ((by rw [hg]; exact (below_size (bl HB)) : w.heap.size ≤ gb821)); have n10_ := Aside0.mk ((by rw [hg]; exact (below_size (bl HB)) : w.heap.size ≤ gb821)); have n11_ := Aside0.mk ((by rw [hg]; exact Nat.ne_of_lt (bkL BK796) : gb796 ≠ gb821)); have n12_ := Aside0.mk ((by rw [hg]; exact Nat.ne_of_gt (bkL BK796) : gb821 ≠ gb796)); have n13_ := Aside0.mk ((by rw [hg]; exact Nat.ne_of_lt (bkL BK797) : gb797 ≠ gb821)); have n14_ := Aside0.mk ((by rw [hg]; exact Nat.ne_of_gt (bkL BK797) : gb821 ≠ gb797)); have n15_ := Aside0.mk ((by rw [hg]; exact Nat.ne_of_lt (bkL BK802) : gb802 ≠ gb821)); have n16_ := Aside0.mk ((by rw [hg]; exact Nat.ne_of_gt (bkL BK802) : gb821 ≠ gb802)); have n17_ := Aside0.mk ((by rw [hg]; exact Nat.ne_of_lt (bkL BK807) : gb807 ≠ gb821)); have n18_ := Aside0.mk ((by rw [hg]; exact Nat.ne_of_gt (bkL BK807) : gb821 ≠ gb807)); clear HO_797000; clear HO_803000; clear HO_808000; clear BK796; clear BK797; clear BK802; clear BK807; clear HB; have HO_797000 := n0_; have HO_803000 := n1_; have HO_808000 := n2_; have BK796 := n3_; have BK797 := n4_; have BK802 := n5_; have BK807 := n6_; have HB := n7_; have BK821 := n8_; have GW821 := n9_; have GE821 := n10_; have NB796_821 := n11_; have NB821_796 := n12_; have NB797_821 := n13_; have NB821_797 := n14_; have NB802_821 := n15_; have NB821_802 := n16_; have NB807_821 := n17_; have NB821_807 := n18_; clear n0_ n1_ n2_ n3_ n4_ n5_ n6_ n7_ n8_ n9_ n10_ n11_ n12_ n13_ n14_ n15_ n16_ n17_ n18_; clear hb hbox hg; have hnb119 := NB821_796.out; have hnc119 := NB796_821.out; have hnb120 := NB821_797.out; have hnc120 := NB797_821.out; have hnb121 := NB821_802.out; have hnc121 := NB802_821.out; have hnb122 := NB821_807.out; have hnc122 := NB807_821.out; have hcz123_0 : w118.cell? ⟨gb821, 0, none⟩ = some (.int .i64 0) := (blk_cell BK821.out 0).trans rfl; have hcz123_1 : w118.cell? ⟨gb821, 1, none⟩ = some (.int .i64 0) := (blk_cell BK821.out 1).trans rfl; have hfz123_0 := blk_frozen BK821.out 0; have hfz123_1 := blk_frozen BK821.out 1))
                        (try simp only [Act.put, List.setIfInBounds_toArray, List.set_cons_zero, List.set_cons_succ])
                        go_cut [129] (fun v129 wc => ∃ (kq : Nat) (x129_105 : Bool), v129 = .bool x129_105 ∧ Aside0 (laws_FnMapPut.j3 kq x129_105 t791 t798 = some r) ∧ Aside0 (kq ≤ kj69) ∧ Aside0 (Kd.R k29 29 wc w.heap.size (fun k_ => some k_ ≠ ((.slice Ao16 t798.length co16) : Value).ownBlock ∧ some k_ ≠ ((.slice Ao24 t803.length co24) : Value).ownBlock ∧ k_ ≠ gb797 ∧ k_ ≠ gb821) (.slice Ao10 t791.length co10) t791) ∧ Aside0 (Kd.R k29 29 wc w.heap.size (fun k_ => some k_ ≠ ((.slice Ao10 t791.length co10) : Value).ownBlock ∧ some k_ ≠ ((.slice Ao24 t803.length co24) : Value).ownBlock ∧ k_ ≠ gb797 ∧ k_ ≠ gb821) (.slice Ao16 t798.length co16) t798) ∧ Aside0 (Kd.R k29 29 wc w.heap.size (fun k_ => some k_ ≠ ((.slice Ao10 t791.length co10) : Value).ownBlock ∧ some k_ ≠ ((.slice Ao16 t798.length co16) : Value).ownBlock ∧ k_ ≠ gb797 ∧ k_ ≠ gb821) (.slice Ao24 t803.length co24) t803) ∧ Aside0 (wc.heap[gb796]? = some (.cells #[(.slice Ao10 t791.length co10)] 45 (0, 0))) ∧ Aside0 (wc.heap[gb797]? = some (.cells #[.int .i64 t794, .int .i64 t795] 29 (0, 0))) ∧ Aside0 (wc.heap[gb802]? = some (.cells #[(.slice Ao16 t798.length co16)] 45 (0, 0))) ∧ Aside0 (wc.heap[gb807]? = some (.cells #[(.slice Ao24 t803.length co24)] 45 (0, 0))) ∧ Aside0 (wc.heap[gb821]? = some (.cells #[.int .i64 t818, .int .i64 t819] 29 (0, 0))) ∧ Aside0 (Below w.heap.size w wc))
                        case first =>
                          have H := HC106.out
                          clear HC106
                          by_cases c124 : t820 = true
                          · subst c124
                            have H1 : (if (!(t818 == t794) || (!(t819 == t795))) = true then (laws_FnMapPut.j3 kj69 true t791 t798) else ((impl_MapPort.f t798 t794 t795).bind fun t822 => (if t822 = t801 then (if t816 = 0 then (laws_FnMapPut.j3 kj69 false t791 t798) else (laws_FnMapPut.j3 kj69 (t816 != t801) t791 t798)) else (laws_FnMapPut.j3 kj69 true t791 t798)))) = some r := by rw [if_pos rfl] at H; exact H
                            clear H
                            have H := H1
                            clear H1
                            by_cases c125 : (!(t818 == t794) || (!(t819 == t795))) = true
                            · rw [if_pos c125] at H
                              have c125b0 : (!(t818 == t794) || (!(t819 == t795))) = true := c125
                              clear c125
                              (first | rw [c125b0] | (simp only [i64_w, i32_w]; rw [c125b0]) | skip)
                              have H' := Aside0.mk H
                              clear H
                              have hnb126 := NB821_796.out
                              have hnc126 := NB796_821.out
                              have hnb127 := NB821_797.out
                              have hnc127 := NB797_821.out
                              have hnb128 := NB821_802.out
                              have hnc128 := NB802_821.out
                              have hnb129 := NB821_807.out
                              have hnc129 := NB807_821.out
                              have hcz130_0 : w118.cell? ⟨gb821, 0, none⟩ = some (.int .i64 0) := (blk_cell BK821.out 0).trans rfl
                              have hcz130_1 : w118.cell? ⟨gb821, 1, none⟩ = some (.int .i64 0) := (blk_cell BK821.out 1).trans rfl
                              have hfz130_0 := blk_frozen BK821.out 0
                              have hfz130_1 := blk_frozen BK821.out 1
                              have hnb131 := NB797_796.out
                              have hnc131 := NB796_797.out
                              have hnb132 := NB797_802.out
                              have hnc132 := NB802_797.out
                              have hnb133 := NB797_807.out
                              have hnc133 := NB807_797.out
                              have hcz134_0 : w118.cell? ⟨gb797, 0, none⟩ = some (.int .i64 t794) := (blk_cell BK797.out 0).trans rfl
                              have hcz134_1 : w118.cell? ⟨gb797, 1, none⟩ = some (.int .i64 t795) := (blk_cell BK797.out 1).trans rfl
                              have hfz134_0 := blk_frozen BK797.out 0
                              have hfz134_1 := blk_frozen BK797.out 1
                              go_wp2
                              go_meet
                              case rel => exact ⟨_, (true), (by first | rfl | (simp; done) | (simp [*]; done)), H', ⟨by have := HJ5.out; have := HJ42.out; have := HJ69.out; first | omega | exact Nat.le_refl _⟩, ⟨by (with_reducible repeat apply ru); exact Kd.R_mono (Kd.R_far (p := ⟨gb821, 1, none⟩) (Kd.R_far (p := ⟨gb821, 0, none⟩) (Kd.R_mono HO_797000.out (fun k_ hk => (⟨hk, hk.2⟩ : _ ∧ k_ ≠ gb821))) (fun _ hk => hk.2) (.int .i64 t818)) (fun _ hk => hk.2) (.int .i64 t819)) (fun _ hk => ⟨hk.1.1.1, ⟨hk.1.1.2.1, ⟨hk.1.1.2.2, hk.1.2⟩⟩⟩)⟩, ⟨by (with_reducible repeat apply ru); exact Kd.R_mono (Kd.R_far (p := ⟨gb821, 1, none⟩) (Kd.R_far (p := ⟨gb821, 0, none⟩) (Kd.R_mono HO_803000.out (fun k_ hk => (⟨hk, hk.2⟩ : _ ∧ k_ ≠ gb821))) (fun _ hk => hk.2) (.int .i64 t818)) (fun _ hk => hk.2) (.int .i64 t819)) (fun _ hk => ⟨hk.1.1.1, ⟨hk.1.1.2.1, ⟨hk.1.1.2.2, hk.1.2⟩⟩⟩)⟩, ⟨by (with_reducible repeat apply ru); exact Kd.R_mono (Kd.R_far (p := ⟨gb821, 1, none⟩) (Kd.R_far (p := ⟨gb821, 0, none⟩) (Kd.R_mono HO_808000.out (fun k_ hk => (⟨hk, hk.2⟩ : _ ∧ k_ ≠ gb821))) (fun _ hk => hk.2) (.int .i64 t818)) (fun _ hk => hk.2) (.int .i64 t819)) (fun _ hk => ⟨hk.1.1.1, ⟨hk.1.1.2.1, ⟨hk.1.1.2.2, hk.1.2⟩⟩⟩)⟩, ⟨by (with_reducible repeat refine bu ?_); refine blk_far ?_ NB796_821.out _; (with_reducible repeat refine bu ?_); refine blk_far ?_ NB796_821.out _; (with_reducible repeat refine bu ?_); exact BK796.out⟩, ⟨by (with_reducible repeat refine bu ?_); refine blk_far ?_ NB797_821.out _; (with_reducible repeat refine bu ?_); refine blk_far ?_ NB797_821.out _; (with_reducible repeat refine bu ?_); exact BK797.out⟩, ⟨by (with_reducible repeat refine bu ?_); refine blk_far ?_ NB802_821.out _; (with_reducible repeat refine bu ?_); refine blk_far ?_ NB802_821.out _; (with_reducible repeat refine bu ?_); exact BK802.out⟩, ⟨by (with_reducible repeat refine bu ?_); refine blk_far ?_ NB807_821.out _; (with_reducible repeat refine bu ?_); refine blk_far ?_ NB807_821.out _; (with_reducible repeat refine bu ?_); exact BK807.out⟩, ⟨by (with_reducible repeat refine bu ?_); refine blk_put (cs := #[.int .i64 t818, .int .i64 0]) ?_ 1 _ rfl; (with_reducible repeat refine bu ?_); refine blk_put (cs := #[.int .i64 0, .int .i64 0]) ?_ 0 _ rfl; (with_reducible repeat refine bu ?_); exact BK821.out⟩, ⟨by repeat (first | (with_reducible first | exact HB.out | apply below_alloc | apply pw_below_drewN | apply below_drew1 | refine below_set ?_ GE796.out | refine below_set ?_ GE797.out | refine below_set ?_ GE802.out | refine below_set ?_ GE807.out | refine below_set ?_ GE821.out) | exact HB.out)⟩⟩
                            · rw [if_neg c125] at H
                              have c125b0 : (!(t818 == t794) || (!(t819 == t795))) = false := by simpa using c125
                              clear c125
                              (first | rw [c125b0] | (simp only [i64_w, i32_w]; rw [c125b0]) | skip)
                              replace H := Option.bind_eq_some_iff.mp H
                              obtain ⟨t822, A1350, H⟩ := H
                              replace H : (if t822 = t801 then (if t816 = 0 then (laws_FnMapPut.j3 kj69 false t791 t798) else (laws_FnMapPut.j3 kj69 (t816 != t801) t791 t798)) else (laws_FnMapPut.j3 kj69 true t791 t798)) = some r := H
                              have A135 := Aside0.mk A1350
                              clear A1350
                              by_cases c136 : t822 = t801
                              · rw [if_pos c136] at H
                                have c136b0 : (t822 == t801) = true := beq_iff_eq.mpr c136
                                have c136b1 : (t822 != t801) = false := bne_eq_false_iff_eq.mpr c136
                                clear c136
                                by_cases c137 : t816 = 0
                                · rw [if_pos c137] at H
                                  have c137b0 : (t816 == 0) = true := beq_iff_eq.mpr c137
                                  have c137b1 : (t816 != 0) = false := bne_eq_false_iff_eq.mpr c137
                                  clear c137
                                  have H' := Aside0.mk H
                                  clear H
                                  have hnb138 := NB821_796.out
                                  have hnc138 := NB796_821.out
                                  have hnb139 := NB821_797.out
                                  have hnc139 := NB797_821.out
                                  have hnb140 := NB821_802.out
                                  have hnc140 := NB802_821.out
                                  have hnb141 := NB821_807.out
                                  have hnc141 := NB807_821.out
                                  have hcz142_0 : w118.cell? ⟨gb821, 0, none⟩ = some (.int .i64 0) := (blk_cell BK821.out 0).trans rfl
                                  have hcz142_1 : w118.cell? ⟨gb821, 1, none⟩ = some (.int .i64 0) := (blk_cell BK821.out 1).trans rfl
                                  have hfz142_0 := blk_frozen BK821.out 0
                                  have hfz142_1 := blk_frozen BK821.out 1
                                  have hnb143 := NB797_796.out
                                  have hnc143 := NB796_797.out
                                  have hnb144 := NB797_802.out
                                  have hnc144 := NB802_797.out
                                  have hnb145 := NB797_807.out
                                  have hnc145 := NB807_797.out
                                  have hcz146_0 : w118.cell? ⟨gb797, 0, none⟩ = some (.int .i64 t794) := (blk_cell BK797.out 0).trans rfl
                                  have hcz146_1 : w118.cell? ⟨gb797, 1, none⟩ = some (.int .i64 t795) := (blk_cell BK797.out 1).trans rfl
                                  have hfz146_0 := blk_frozen BK797.out 0
                                  have hfz146_1 := blk_frozen BK797.out 1
                                  have hnb147 := NB802_796.out
                                  have hnc147 := NB796_802.out
                                  have hnb148 := NB802_807.out
                                  have hnc148 := NB807_802.out
                                  have hcz149_0 : w118.cell? ⟨gb802, 0, none⟩ = some (.slice Ao16 t798.length co16) := (blk_cell BK802.out 0).trans rfl
                                  have hfz149_0 := blk_frozen BK802.out 0
                                  go_wp2_with (first | (go_at_call 27; (with_reducible refine (impl_MapPort.calls _ _ t798 t794 t795 t822 _ ?side1 ?side2 A135.out).mono ?_); (case side1 => refine (Kd.R_reads' (e := 29) (base := w.heap.size) (ok := fun k_ => ((some k_ ≠ (.slice Ao10 t791.length co10 : Value).ownBlock ∧ (some k_ ≠ (.slice Ao24 t803.length co24 : Value).ownBlock ∧ k_ ≠ gb797)) ∧ k_ ≠ gb821)) (n := t798.length) (c := co16) ?_).2.2; exact (by (with_reducible repeat apply ru); exact (Kd.R_mono (Kd.R_far (p := ⟨gb821, 1, none⟩) (Kd.R_far (p := ⟨gb821, 0, none⟩) (Kd.R_mono HO_803000.out (fun k_ hk => (⟨hk, hk.2⟩ : _ ∧ k_ ≠ gb821))) (fun _ hk => hk.2) (.int .i64 t818)) (fun _ hk => hk.2) (.int .i64 t819)) (fun _ h_ => h_.1)))); (case side2 => exact (Kd.R_reads' HO_803000.out).2.1); rintro e w150 ⟨rfl, hb⟩; have n0_ := Aside0.mk (Kd.R_below (by (with_reducible repeat apply ru); exact (Kd.R_mono (Kd.R_far (p := ⟨gb821, 1, none⟩) (Kd.R_far (p := ⟨gb821, 0, none⟩) (Kd.R_mono HO_797000.out (fun k_ hk => (⟨hk, hk.2⟩ : _ ∧ k_ ≠ gb821))) (fun _ hk => hk.2) (.int .i64 t818)) (fun _ hk => hk.2) (.int .i64 t819)) (fun _ h_ => h_.1))) hb); have n1_ := Aside0.mk (Kd.R_below (by (with_reducible repeat apply ru); exact (Kd.R_mono (Kd.R_far (p := ⟨gb821, 1, none⟩) (Kd.R_far (p := ⟨gb821, 0, none⟩) (Kd.R_mono HO_803000.out (fun k_ hk => (⟨hk, hk.2⟩ : _ ∧ k_ ≠ gb821))) (fun _ hk => hk.2) (.int .i64 t818)) (fun _ hk => hk.2) (.int .i64 t819)) (fun _ h_ => h_.1))) hb); have n2_ := Aside0.mk (Kd.R_below (by (with_reducible repeat apply ru); exact (Kd.R_mono (Kd.R_far (p := ⟨gb821, 1, none⟩) (Kd.R_far (p := ⟨gb821, 0, none⟩) (Kd.R_mono HO_808000.out (fun k_ hk => (⟨hk, hk.2⟩ : _ ∧ k_ ≠ gb821))) (fun _ hk => hk.2) (.int .i64 t818)) (fun _ hk => hk.2) (.int .i64 t819)) (fun _ h_ => h_.1))) hb); have n3_ := Aside0.mk (blk_below (g := gb796) (o := .cells #[.slice Ao10 t791.length co10] 45 (0, 0)) (by (with_reducible repeat refine bu ?_); refine blk_far ?_ NB796_821.out _; (with_reducible repeat refine bu ?_); refine blk_far ?_ NB796_821.out _; (with_reducible repeat refine bu ?_); exact BK796.out) hb); have n4_ := Aside0.mk (blk_below (g := gb797) (o := .cells #[.int .i64 t794, .int .i64 t795] 29 (0, 0)) (by (with_reducible repeat refine bu ?_); refine blk_far ?_ NB797_821.out _; (with_reducible repeat refine bu ?_); refine blk_far ?_ NB797_821.out _; (with_reducible repeat refine bu ?_); exact BK797.out) hb); have n5_ := Aside0.mk (blk_below (g := gb802) (o := .cells #[.slice Ao16 t798.length co16] 45 (0, 0)) (by (with_reducible repeat refine bu ?_); refine blk_far ?_ NB802_821.out _; (with_reducible repeat refine bu ?_); refine blk_far ?_ NB802_821.out _; (with_reducible repeat refine bu ?_); exact BK802.out) hb); have n6_ := Aside0.mk (blk_below (g := gb807) (o := .cells #[.slice Ao24 t803.length co24] 45 (0, 0)) (by (with_reducible repeat refine bu ?_); refine blk_far ?_ NB807_821.out _; (with_reducible repeat refine bu ?_); refine blk_far ?_ NB807_821.out _; (with_reducible repeat refine bu ?_); exact BK807.out) hb); have n7_ := Aside0.mk (blk_below (g := gb821) (o := .cells #[.int .i64 t818, .int .i64 t819] 29 (0, 0)) (by (with_reducible repeat refine bu ?_); refine blk_put (cs := #[.int .i64 t818, .int .i64 0]) ?_ 1 _ rfl; (with_reducible repeat refine bu ?_); refine blk_put (cs := #[.int .i64 0, .int .i64 0]) ?_ 0 _ rfl; (with_reducible repeat refine bu ?_); exact BK821.out) hb); have n8_ := Aside0.mk (below_step (bl HB) hb); clear HO_797000; clear HO_803000; clear HO_808000; clear BK796; clear BK797; clear BK802; clear BK807; clear BK821; clear HB; have HO_797000 := n0_; have HO_803000 := n1_; have HO_808000 := n2_; have BK796 := n3_; have BK797 := n4_; have BK802 := n5_; have BK807 := n6_; have BK821 := n7_; have HB := n8_; clear n0_ n1_ n2_ n3_ n4_ n5_ n6_ n7_ n8_; (try clear hb); (try clear hb2); (try clear hk); (try clear hi)))
                                  go_meet
                                  case rel => exact ⟨_, (false), (by first | rfl | (simp; done) | (simp [*]; done)), H', ⟨by have := HJ5.out; have := HJ42.out; have := HJ69.out; first | omega | exact Nat.le_refl _⟩, ⟨by (with_reducible repeat apply ru); exact Kd.R_mono HO_797000.out (fun _ hk => ⟨hk.1.1, ⟨hk.1.2.1, ⟨hk.1.2.2, hk.2⟩⟩⟩)⟩, ⟨by (with_reducible repeat apply ru); exact Kd.R_mono HO_803000.out (fun _ hk => ⟨hk.1.1, ⟨hk.1.2.1, ⟨hk.1.2.2, hk.2⟩⟩⟩)⟩, ⟨by (with_reducible repeat apply ru); exact Kd.R_mono HO_808000.out (fun _ hk => ⟨hk.1.1, ⟨hk.1.2.1, ⟨hk.1.2.2, hk.2⟩⟩⟩)⟩, ⟨by (with_reducible repeat refine bu ?_); exact BK796.out⟩, ⟨by (with_reducible repeat refine bu ?_); exact BK797.out⟩, ⟨by (with_reducible repeat refine bu ?_); exact BK802.out⟩, ⟨by (with_reducible repeat refine bu ?_); exact BK807.out⟩, ⟨by (with_reducible repeat refine bu ?_); exact BK821.out⟩, ⟨by repeat (first | (with_reducible first | exact HB.out | apply below_alloc | apply pw_below_drewN | apply below_drew1 | refine below_set ?_ GE796.out | refine below_set ?_ GE797.out | refine below_set ?_ GE802.out | refine below_set ?_ GE807.out | refine below_set ?_ GE821.out) | exact HB.out)⟩⟩
                                · rw [if_neg c137] at H
                                  have c137b0 : (t816 == 0) = false := beq_eq_false_iff_ne.mpr c137
                                  have c137b1 : (t816 != 0) = true := bne_iff_ne.mpr c137
                                  have H' := Aside0.mk H
                                  clear H
                                  have hnb151 := NB821_796.out
                                  have hnc151 := NB796_821.out
                                  have hnb152 := NB821_797.out
                                  have hnc152 := NB797_821.out
                                  have hnb153 := NB821_802.out
                                  have hnc153 := NB802_821.out
                                  have hnb154 := NB821_807.out
                                  have hnc154 := NB807_821.out
                                  have hcz155_0 : w118.cell? ⟨gb821, 0, none⟩ = some (.int .i64 0) := (blk_cell BK821.out 0).trans rfl
                                  have hcz155_1 : w118.cell? ⟨gb821, 1, none⟩ = some (.int .i64 0) := (blk_cell BK821.out 1).trans rfl
                                  have hfz155_0 := blk_frozen BK821.out 0
                                  have hfz155_1 := blk_frozen BK821.out 1
                                  have hnb156 := NB797_796.out
                                  have hnc156 := NB796_797.out
                                  have hnb157 := NB797_802.out
                                  have hnc157 := NB802_797.out
                                  have hnb158 := NB797_807.out
                                  have hnc158 := NB807_797.out
                                  have hcz159_0 : w118.cell? ⟨gb797, 0, none⟩ = some (.int .i64 t794) := (blk_cell BK797.out 0).trans rfl
                                  have hcz159_1 : w118.cell? ⟨gb797, 1, none⟩ = some (.int .i64 t795) := (blk_cell BK797.out 1).trans rfl
                                  have hfz159_0 := blk_frozen BK797.out 0
                                  have hfz159_1 := blk_frozen BK797.out 1
                                  have hnb160 := NB802_796.out
                                  have hnc160 := NB796_802.out
                                  have hnb161 := NB802_807.out
                                  have hnc161 := NB807_802.out
                                  have hcz162_0 : w118.cell? ⟨gb802, 0, none⟩ = some (.slice Ao16 t798.length co16) := (blk_cell BK802.out 0).trans rfl
                                  have hfz162_0 := blk_frozen BK802.out 0
                                  go_wp2_with (first | (go_at_call 27; (with_reducible refine (impl_MapPort.calls _ _ t798 t794 t795 t822 _ ?side1 ?side2 A135.out).mono ?_); (case side1 => refine (Kd.R_reads' (e := 29) (base := w.heap.size) (ok := fun k_ => ((some k_ ≠ (.slice Ao10 t791.length co10 : Value).ownBlock ∧ (some k_ ≠ (.slice Ao24 t803.length co24 : Value).ownBlock ∧ k_ ≠ gb797)) ∧ k_ ≠ gb821)) (n := t798.length) (c := co16) ?_).2.2; exact (by (with_reducible repeat apply ru); exact (Kd.R_mono (Kd.R_far (p := ⟨gb821, 1, none⟩) (Kd.R_far (p := ⟨gb821, 0, none⟩) (Kd.R_mono HO_803000.out (fun k_ hk => (⟨hk, hk.2⟩ : _ ∧ k_ ≠ gb821))) (fun _ hk => hk.2) (.int .i64 t818)) (fun _ hk => hk.2) (.int .i64 t819)) (fun _ h_ => h_.1)))); (case side2 => exact (Kd.R_reads' HO_803000.out).2.1); rintro e w163 ⟨rfl, hb⟩; have n0_ := Aside0.mk (Kd.R_below (by (with_reducible repeat apply ru); exact (Kd.R_mono (Kd.R_far (p := ⟨gb821, 1, none⟩) (Kd.R_far (p := ⟨gb821, 0, none⟩) (Kd.R_mono HO_797000.out (fun k_ hk => (⟨hk, hk.2⟩ : _ ∧ k_ ≠ gb821))) (fun _ hk => hk.2) (.int .i64 t818)) (fun _ hk => hk.2) (.int .i64 t819)) (fun _ h_ => h_.1))) hb); have n1_ := Aside0.mk (Kd.R_below (by (with_reducible repeat apply ru); exact (Kd.R_mono (Kd.R_far (p := ⟨gb821, 1, none⟩) (Kd.R_far (p := ⟨gb821, 0, none⟩) (Kd.R_mono HO_803000.out (fun k_ hk => (⟨hk, hk.2⟩ : _ ∧ k_ ≠ gb821))) (fun _ hk => hk.2) (.int .i64 t818)) (fun _ hk => hk.2) (.int .i64 t819)) (fun _ h_ => h_.1))) hb); have n2_ := Aside0.mk (Kd.R_below (by (with_reducible repeat apply ru); exact (Kd.R_mono (Kd.R_far (p := ⟨gb821, 1, none⟩) (Kd.R_far (p := ⟨gb821, 0, none⟩) (Kd.R_mono HO_808000.out (fun k_ hk => (⟨hk, hk.2⟩ : _ ∧ k_ ≠ gb821))) (fun _ hk => hk.2) (.int .i64 t818)) (fun _ hk => hk.2) (.int .i64 t819)) (fun _ h_ => h_.1))) hb); have n3_ := Aside0.mk (blk_below (g := gb796) (o := .cells #[.slice Ao10 t791.length co10] 45 (0, 0)) (by (with_reducible repeat refine bu ?_); refine blk_far ?_ NB796_821.out _; (with_reducible repeat refine bu ?_); refine blk_far ?_ NB796_821.out _; (with_reducible repeat refine bu ?_); exact BK796.out) hb); have n4_ := Aside0.mk (blk_below (g := gb797) (o := .cells #[.int .i64 t794, .int .i64 t795] 29 (0, 0)) (by (with_reducible repeat refine bu ?_); refine blk_far ?_ NB797_821.out _; (with_reducible repeat refine bu ?_); refine blk_far ?_ NB797_821.out _; (with_reducible repeat refine bu ?_); exact BK797.out) hb); have n5_ := Aside0.mk (blk_below (g := gb802) (o := .cells #[.slice Ao16 t798.length co16] 45 (0, 0)) (by (with_reducible repeat refine bu ?_); refine blk_far ?_ NB802_821.out _; (with_reducible repeat refine bu ?_); refine blk_far ?_ NB802_821.out _; (with_reducible repeat refine bu ?_); exact BK802.out) hb); have n6_ := Aside0.mk (blk_below (g := gb807) (o := .cells #[.slice Ao24 t803.length co24] 45 (0, 0)) (by (with_reducible repeat refine bu ?_); refine blk_far ?_ NB807_821.out _; (with_reducible repeat refine bu ?_); refine blk_far ?_ NB807_821.out _; (with_reducible repeat refine bu ?_); exact BK807.out) hb); have n7_ := Aside0.mk (blk_below (g := gb821) (o := .cells #[.int .i64 t818, .int .i64 t819] 29 (0, 0)) (by (with_reducible repeat refine bu ?_); refine blk_put (cs := #[.int .i64 t818, .int .i64 0]) ?_ 1 _ rfl; (with_reducible repeat refine bu ?_); refine blk_put (cs := #[.int .i64 0, .int .i64 0]) ?_ 0 _ rfl; (with_reducible repeat refine bu ?_); exact BK821.out) hb); have n8_ := Aside0.mk (below_step (bl HB) hb); clear HO_797000; clear HO_803000; clear HO_808000; clear BK796; clear BK797; clear BK802; clear BK807; clear BK821; clear HB; have HO_797000 := n0_; have HO_803000 := n1_; have HO_808000 := n2_; have BK796 := n3_; have BK797 := n4_; have BK802 := n5_; have BK807 := n6_; have BK821 := n7_; have HB := n8_; clear n0_ n1_ n2_ n3_ n4_ n5_ n6_ n7_ n8_; (try clear hb); (try clear hb2); (try clear hk); (try clear hi)))
                                  go_meet
                                  case rel => exact ⟨_, ((t816 != t801)), (by first | rfl | (simp; done) | (simp [*]; done)), H', ⟨by have := HJ5.out; have := HJ42.out; have := HJ69.out; first | omega | exact Nat.le_refl _⟩, ⟨by (with_reducible repeat apply ru); exact Kd.R_mono HO_797000.out (fun _ hk => ⟨hk.1.1, ⟨hk.1.2.1, ⟨hk.1.2.2, hk.2⟩⟩⟩)⟩, ⟨by (with_reducible repeat apply ru); exact Kd.R_mono HO_803000.out (fun _ hk => ⟨hk.1.1, ⟨hk.1.2.1, ⟨hk.1.2.2, hk.2⟩⟩⟩)⟩, ⟨by (with_reducible repeat apply ru); exact Kd.R_mono HO_808000.out (fun _ hk => ⟨hk.1.1, ⟨hk.1.2.1, ⟨hk.1.2.2, hk.2⟩⟩⟩)⟩, ⟨by (with_reducible repeat refine bu ?_); exact BK796.out⟩, ⟨by (with_reducible repeat refine bu ?_); exact BK797.out⟩, ⟨by (with_reducible repeat refine bu ?_); exact BK802.out⟩, ⟨by (with_reducible repeat refine bu ?_); exact BK807.out⟩, ⟨by (with_reducible repeat refine bu ?_); exact BK821.out⟩, ⟨by repeat (first | (with_reducible first | exact HB.out | apply below_alloc | apply pw_below_drewN | apply below_drew1 | refine below_set ?_ GE796.out | refine below_set ?_ GE797.out | refine below_set ?_ GE802.out | refine below_set ?_ GE807.out | refine below_set ?_ GE821.out) | exact HB.out)⟩⟩
                              · rw [if_neg c136] at H
                                have c136b0 : (t822 == t801) = false := beq_eq_false_iff_ne.mpr c136
                                have c136b1 : (t822 != t801) = true := bne_iff_ne.mpr c136
                                have H' := Aside0.mk H
                                clear H
                                have hnb164 := NB821_796.out
                                have hnc164 := NB796_821.out
                                have hnb165 := NB821_797.out
                                have hnc165 := NB797_821.out
                                have hnb166 := NB821_802.out
                                have hnc166 := NB802_821.out
                                have hnb167 := NB821_807.out
                                have hnc167 := NB807_821.out
                                have hcz168_0 : w118.cell? ⟨gb821, 0, none⟩ = some (.int .i64 0) := (blk_cell BK821.out 0).trans rfl
                                have hcz168_1 : w118.cell? ⟨gb821, 1, none⟩ = some (.int .i64 0) := (blk_cell BK821.out 1).trans rfl
                                have hfz168_0 := blk_frozen BK821.out 0
                                have hfz168_1 := blk_frozen BK821.out 1
                                have hnb169 := NB797_796.out
                                have hnc169 := NB796_797.out
                                have hnb170 := NB797_802.out
                                have hnc170 := NB802_797.out
                                have hnb171 := NB797_807.out
                                have hnc171 := NB807_797.out
                                have hcz172_0 : w118.cell? ⟨gb797, 0, none⟩ = some (.int .i64 t794) := (blk_cell BK797.out 0).trans rfl
                                have hcz172_1 : w118.cell? ⟨gb797, 1, none⟩ = some (.int .i64 t795) := (blk_cell BK797.out 1).trans rfl
                                have hfz172_0 := blk_frozen BK797.out 0
                                have hfz172_1 := blk_frozen BK797.out 1
                                have hnb173 := NB802_796.out
                                have hnc173 := NB796_802.out
                                have hnb174 := NB802_807.out
                                have hnc174 := NB807_802.out
                                have hcz175_0 : w118.cell? ⟨gb802, 0, none⟩ = some (.slice Ao16 t798.length co16) := (blk_cell BK802.out 0).trans rfl
                                have hfz175_0 := blk_frozen BK802.out 0
                                go_wp2_with (first | (go_at_call 27; (with_reducible refine (impl_MapPort.calls _ _ t798 t794 t795 t822 _ ?side1 ?side2 A135.out).mono ?_); (case side1 => refine (Kd.R_reads' (e := 29) (base := w.heap.size) (ok := fun k_ => ((some k_ ≠ (.slice Ao10 t791.length co10 : Value).ownBlock ∧ (some k_ ≠ (.slice Ao24 t803.length co24 : Value).ownBlock ∧ k_ ≠ gb797)) ∧ k_ ≠ gb821)) (n := t798.length) (c := co16) ?_).2.2; exact (by (with_reducible repeat apply ru); exact (Kd.R_mono (Kd.R_far (p := ⟨gb821, 1, none⟩) (Kd.R_far (p := ⟨gb821, 0, none⟩) (Kd.R_mono HO_803000.out (fun k_ hk => (⟨hk, hk.2⟩ : _ ∧ k_ ≠ gb821))) (fun _ hk => hk.2) (.int .i64 t818)) (fun _ hk => hk.2) (.int .i64 t819)) (fun _ h_ => h_.1)))); (case side2 => exact (Kd.R_reads' HO_803000.out).2.1); rintro e w176 ⟨rfl, hb⟩; have n0_ := Aside0.mk (Kd.R_below (by (with_reducible repeat apply ru); exact (Kd.R_mono (Kd.R_far (p := ⟨gb821, 1, none⟩) (Kd.R_far (p := ⟨gb821, 0, none⟩) (Kd.R_mono HO_797000.out (fun k_ hk => (⟨hk, hk.2⟩ : _ ∧ k_ ≠ gb821))) (fun _ hk => hk.2) (.int .i64 t818)) (fun _ hk => hk.2) (.int .i64 t819)) (fun _ h_ => h_.1))) hb); have n1_ := Aside0.mk (Kd.R_below (by (with_reducible repeat apply ru); exact (Kd.R_mono (Kd.R_far (p := ⟨gb821, 1, none⟩) (Kd.R_far (p := ⟨gb821, 0, none⟩) (Kd.R_mono HO_803000.out (fun k_ hk => (⟨hk, hk.2⟩ : _ ∧ k_ ≠ gb821))) (fun _ hk => hk.2) (.int .i64 t818)) (fun _ hk => hk.2) (.int .i64 t819)) (fun _ h_ => h_.1))) hb); have n2_ := Aside0.mk (Kd.R_below (by (with_reducible repeat apply ru); exact (Kd.R_mono (Kd.R_far (p := ⟨gb821, 1, none⟩) (Kd.R_far (p := ⟨gb821, 0, none⟩) (Kd.R_mono HO_808000.out (fun k_ hk => (⟨hk, hk.2⟩ : _ ∧ k_ ≠ gb821))) (fun _ hk => hk.2) (.int .i64 t818)) (fun _ hk => hk.2) (.int .i64 t819)) (fun _ h_ => h_.1))) hb); have n3_ := Aside0.mk (blk_below (g := gb796) (o := .cells #[.slice Ao10 t791.length co10] 45 (0, 0)) (by (with_reducible repeat refine bu ?_); refine blk_far ?_ NB796_821.out _; (with_reducible repeat refine bu ?_); refine blk_far ?_ NB796_821.out _; (with_reducible repeat refine bu ?_); exact BK796.out) hb); have n4_ := Aside0.mk (blk_below (g := gb797) (o := .cells #[.int .i64 t794, .int .i64 t795] 29 (0, 0)) (by (with_reducible repeat refine bu ?_); refine blk_far ?_ NB797_821.out _; (with_reducible repeat refine bu ?_); refine blk_far ?_ NB797_821.out _; (with_reducible repeat refine bu ?_); exact BK797.out) hb); have n5_ := Aside0.mk (blk_below (g := gb802) (o := .cells #[.slice Ao16 t798.length co16] 45 (0, 0)) (by (with_reducible repeat refine bu ?_); refine blk_far ?_ NB802_821.out _; (with_reducible repeat refine bu ?_); refine blk_far ?_ NB802_821.out _; (with_reducible repeat refine bu ?_); exact BK802.out) hb); have n6_ := Aside0.mk (blk_below (g := gb807) (o := .cells #[.slice Ao24 t803.length co24] 45 (0, 0)) (by (with_reducible repeat refine bu ?_); refine blk_far ?_ NB807_821.out _; (with_reducible repeat refine bu ?_); refine blk_far ?_ NB807_821.out _; (with_reducible repeat refine bu ?_); exact BK807.out) hb); have n7_ := Aside0.mk (blk_below (g := gb821) (o := .cells #[.int .i64 t818, .int .i64 t819] 29 (0, 0)) (by (with_reducible repeat refine bu ?_); refine blk_put (cs := #[.int .i64 t818, .int .i64 0]) ?_ 1 _ rfl; (with_reducible repeat refine bu ?_); refine blk_put (cs := #[.int .i64 0, .int .i64 0]) ?_ 0 _ rfl; (with_reducible repeat refine bu ?_); exact BK821.out) hb); have n8_ := Aside0.mk (below_step (bl HB) hb); clear HO_797000; clear HO_803000; clear HO_808000; clear BK796; clear BK797; clear BK802; clear BK807; clear BK821; clear HB; have HO_797000 := n0_; have HO_803000 := n1_; have HO_808000 := n2_; have BK796 := n3_; have BK797 := n4_; have BK802 := n5_; have BK807 := n6_; have BK821 := n7_; have HB := n8_; clear n0_ n1_ n2_ n3_ n4_ n5_ n6_ n7_ n8_; (try clear hb); (try clear hb2); (try clear hk); (try clear hi)))
                                go_meet
                                case rel => exact ⟨_, (true), (by first | rfl | (simp; done) | (simp [*]; done)), H', ⟨by have := HJ5.out; have := HJ42.out; have := HJ69.out; first | omega | exact Nat.le_refl _⟩, ⟨by (with_reducible repeat apply ru); exact Kd.R_mono HO_797000.out (fun _ hk => ⟨hk.1.1, ⟨hk.1.2.1, ⟨hk.1.2.2, hk.2⟩⟩⟩)⟩, ⟨by (with_reducible repeat apply ru); exact Kd.R_mono HO_803000.out (fun _ hk => ⟨hk.1.1, ⟨hk.1.2.1, ⟨hk.1.2.2, hk.2⟩⟩⟩)⟩, ⟨by (with_reducible repeat apply ru); exact Kd.R_mono HO_808000.out (fun _ hk => ⟨hk.1.1, ⟨hk.1.2.1, ⟨hk.1.2.2, hk.2⟩⟩⟩)⟩, ⟨by (with_reducible repeat refine bu ?_); exact BK796.out⟩, ⟨by (with_reducible repeat refine bu ?_); exact BK797.out⟩, ⟨by (with_reducible repeat refine bu ?_); exact BK802.out⟩, ⟨by (with_reducible repeat refine bu ?_); exact BK807.out⟩, ⟨by (with_reducible repeat refine bu ?_); exact BK821.out⟩, ⟨by repeat (first | (with_reducible first | exact HB.out | apply below_alloc | apply pw_below_drewN | apply below_drew1 | refine below_set ?_ GE796.out | refine below_set ?_ GE797.out | refine below_set ?_ GE802.out | refine below_set ?_ GE807.out | refine below_set ?_ GE821.out) | exact HB.out)⟩⟩
                          · replace c124 := Bool.eq_false_iff.mpr c124
                            subst c124
                            have H1 : (laws_FnMapPut.j3 kj69 true t791 t798) = some r := by rw [if_neg (show ¬ (false = true) by decide)] at H; exact H
                            clear H
                            have H := H1
                            clear H1
                            have H' := Aside0.mk H
                            clear H
                            go_wp2
                            go_meet
                            case rel => exact ⟨_, (true), (by first | rfl | (simp; done) | (simp [*]; done)), H', ⟨by have := HJ5.out; have := HJ42.out; have := HJ69.out; first | omega | exact Nat.le_refl _⟩, ⟨by (with_reducible repeat apply ru); exact Kd.R_mono (Kd.R_far (p := ⟨gb821, 1, none⟩) (Kd.R_far (p := ⟨gb821, 0, none⟩) (Kd.R_mono HO_797000.out (fun k_ hk => (⟨hk, hk.2⟩ : _ ∧ k_ ≠ gb821))) (fun _ hk => hk.2) (.int .i64 t818)) (fun _ hk => hk.2) (.int .i64 t819)) (fun _ hk => ⟨hk.1.1.1, ⟨hk.1.1.2.1, ⟨hk.1.1.2.2, hk.1.2⟩⟩⟩)⟩, ⟨by (with_reducible repeat apply ru); exact Kd.R_mono (Kd.R_far (p := ⟨gb821, 1, none⟩) (Kd.R_far (p := ⟨gb821, 0, none⟩) (Kd.R_mono HO_803000.out (fun k_ hk => (⟨hk, hk.2⟩ : _ ∧ k_ ≠ gb821))) (fun _ hk => hk.2) (.int .i64 t818)) (fun _ hk => hk.2) (.int .i64 t819)) (fun _ hk => ⟨hk.1.1.1, ⟨hk.1.1.2.1, ⟨hk.1.1.2.2, hk.1.2⟩⟩⟩)⟩, ⟨by (with_reducible repeat apply ru); exact Kd.R_mono (Kd.R_far (p := ⟨gb821, 1, none⟩) (Kd.R_far (p := ⟨gb821, 0, none⟩) (Kd.R_mono HO_808000.out (fun k_ hk => (⟨hk, hk.2⟩ : _ ∧ k_ ≠ gb821))) (fun _ hk => hk.2) (.int .i64 t818)) (fun _ hk => hk.2) (.int .i64 t819)) (fun _ hk => ⟨hk.1.1.1, ⟨hk.1.1.2.1, ⟨hk.1.1.2.2, hk.1.2⟩⟩⟩)⟩, ⟨by (with_reducible repeat refine bu ?_); refine blk_far ?_ NB796_821.out _; (with_reducible repeat refine bu ?_); refine blk_far ?_ NB796_821.out _; (with_reducible repeat refine bu ?_); exact BK796.out⟩, ⟨by (with_reducible repeat refine bu ?_); refine blk_far ?_ NB797_821.out _; (with_reducible repeat refine bu ?_); refine blk_far ?_ NB797_821.out _; (with_reducible repeat refine bu ?_); exact BK797.out⟩, ⟨by (with_reducible repeat refine bu ?_); refine blk_far ?_ NB802_821.out _; (with_reducible repeat refine bu ?_); refine blk_far ?_ NB802_821.out _; (with_reducible repeat refine bu ?_); exact BK802.out⟩, ⟨by (with_reducible repeat refine bu ?_); refine blk_far ?_ NB807_821.out _; (with_reducible repeat refine bu ?_); refine blk_far ?_ NB807_821.out _; (with_reducible repeat refine bu ?_); exact BK807.out⟩, ⟨by (with_reducible repeat refine bu ?_); refine blk_put (cs := #[.int .i64 t818, .int .i64 0]) ?_ 1 _ rfl; (with_reducible repeat refine bu ?_); refine blk_put (cs := #[.int .i64 0, .int .i64 0]) ?_ 0 _ rfl; (with_reducible repeat refine bu ?_); exact BK821.out⟩, ⟨by repeat (first | (with_reducible first | exact HB.out | apply below_alloc | apply pw_below_drewN | apply below_drew1 | refine below_set ?_ GE796.out | refine below_set ?_ GE797.out | refine below_set ?_ GE802.out | refine below_set ?_ GE807.out | refine below_set ?_ GE821.out) | exact HB.out)⟩⟩
                        case rest =>
                          clear HC106
                          try clear c1
                          try clear c2
                          try clear p2
                          try clear c3
                          try clear c4
                          try clear c5
                          try clear c6
                          try clear c7
                          try clear c8
                          try clear c9
                          try clear c10
                          try clear c11
                          try clear c12
                          try clear c13
                          try clear c14
                          try clear c15
                          try clear c16
                          try clear c17
                          try clear c25
                          try clear c27
                          try clear c30
                          try clear c31
                          try clear c31b0
                          try clear c31b1
                          try clear c34
                          try clear c35
                          try clear c37
                          try clear c42
                          try clear c45
                          try clear c47
                          try clear c48
                          try clear c49
                          try clear c52
                          try clear c53
                          try clear c56
                          try clear c57
                          try clear c58
                          try clear c61
                          try clear c62
                          try clear c62b0
                          try clear c62b1
                          try clear c63
                          try clear c63b0
                          try clear c63b1
                          try clear c63b2
                          try clear c65
                          try clear c66
                          try clear c67
                          try clear c72
                          try clear c74
                          try clear c75
                          try clear c76
                          try clear c80
                          try clear c81
                          try clear c83
                          try clear c84
                          try clear c85
                          try clear c88
                          try clear c90
                          try clear c90b0
                          try clear c90b1
                          try clear c91
                          try clear c91b0
                          try clear c91b1
                          try clear c92
                          try clear c92b0
                          try clear c92b1
                          try clear c94
                          try clear c95
                          try clear c96
                          try clear c98
                          try clear c99
                          try clear c103
                          try clear c107
                          try clear c108
                          try clear c109
                          try clear c111
                          try clear c112
                          try clear c115
                          try clear c119
                          try clear c120
                          try clear c121
                          try clear c122
                          try clear c124
                          try clear c125
                          try clear c125b0
                          try clear c126
                          try clear c127
                          try clear c128
                          try clear c129
                          try clear c131
                          try clear c132
                          try clear c133
                          try clear c136
                          try clear c136b0
                          try clear c136b1
                          try clear c137
                          try clear c137b0
                          try clear c137b1
                          try clear c138
                          try clear c139
                          try clear c140
                          try clear c141
                          try clear c143
                          try clear c144
                          try clear c145
                          try clear c147
                          try clear c148
                          try clear c151
                          try clear c152
                          try clear c153
                          try clear c154
                          try clear c156
                          try clear c157
                          try clear c158
                          try clear c160
                          try clear c161
                          try clear c164
                          try clear c165
                          try clear c166
                          try clear c167
                          try clear c169
                          try clear c170
                          try clear c171
                          try clear c173
                          try clear c174
                          try clear hcz100_0
                          try clear hcz100_1
                          try clear hcz102_0
                          try clear hcz104_0
                          try clear hcz110_0
                          try clear hcz113_0
                          try clear hcz113_1
                          try clear hcz116_0
                          try clear hcz123_0
                          try clear hcz123_1
                          try clear hcz130_0
                          try clear hcz130_1
                          try clear hcz134_0
                          try clear hcz134_1
                          try clear hcz142_0
                          try clear hcz142_1
                          try clear hcz146_0
                          try clear hcz146_1
                          try clear hcz149_0
                          try clear hcz155_0
                          try clear hcz155_1
                          try clear hcz159_0
                          try clear hcz159_1
                          try clear hcz162_0
                          try clear hcz168_0
                          try clear hcz168_1
                          try clear hcz172_0
                          try clear hcz172_1
                          try clear hcz175_0
                          try clear hcz50_0
                          try clear hcz54_0
                          try clear hcz54_1
                          try clear hcz59_0
                          try clear hcz68_0
                          try clear hcz77_0
                          try clear hcz79_0
                          try clear hcz82_0
                          try clear hcz86_0
                          try clear hcz97_0
                          try clear hfz100_0
                          try clear hfz100_1
                          try clear hfz102_0
                          try clear hfz104_0
                          try clear hfz110_0
                          try clear hfz113_0
                          try clear hfz113_1
                          try clear hfz116_0
                          try clear hfz123_0
                          try clear hfz123_1
                          try clear hfz130_0
                          try clear hfz130_1
                          try clear hfz134_0
                          try clear hfz134_1
                          try clear hfz142_0
                          try clear hfz142_1
                          try clear hfz146_0
                          try clear hfz146_1
                          try clear hfz149_0
                          try clear hfz155_0
                          try clear hfz155_1
                          try clear hfz159_0
                          try clear hfz159_1
                          try clear hfz162_0
                          try clear hfz168_0
                          try clear hfz168_1
                          try clear hfz172_0
                          try clear hfz172_1
                          try clear hfz175_0
                          try clear hfz50_0
                          try clear hfz54_0
                          try clear hfz54_1
                          try clear hfz59_0
                          try clear hfz68_0
                          try clear hfz77_0
                          try clear hfz79_0
                          try clear hfz82_0
                          try clear hfz86_0
                          try clear hfz97_0
                          try clear p2
                          obtain ⟨kq, x129_105, rfl, HA, HJ105, HO_797000, HO_803000, HO_808000, BK796, BK797, BK802, BK807, BK821, HB⟩ := hcut
                          cases kq with
                          | zero => exact absurd HA.out (by simp [laws_FnMapPut.j3])
                          | succ kj105 =>
                            have H := HA.out
                            clear HA
                            simp only [laws_FnMapPut.j3] at H
                            by_cases c177 : x129_105 = true
                            · subst c177
                              have H1 : (some false) = some r := by rw [if_pos rfl] at H; exact H
                              clear H
                              have H := H1
                              clear H1
                              exact absurd ((Option.some.inj H).trans hrt.out) (by decide)
                            · replace c177 := Bool.eq_false_iff.mpr c177
                              subst c177
                              have H1 : (laws_FnMapPut.l0 kj105 0 t791 t798) = some r := by rw [if_neg (show ¬ (false = true) by decide)] at H; exact H
                              clear H
                              have H := H1
                              clear H1
                              have H' := Aside0.mk H
                              clear H
                              go_wp2
                              go_loopg [12] kj105 (fun kq v12 w' => ∃ (x12_5 : Int), v12 = .int .i64 x12_5 ∧ Aside0 (laws_FnMapPut.l0 kq x12_5 t791 t798 = some r) ∧ Aside0 (kq ≤ kj105) ∧ Aside0 (Kd.R k29 29 w' w.heap.size (fun k_ => some k_ ≠ ((.slice Ao16 t798.length co16) : Value).ownBlock ∧ some k_ ≠ ((.slice Ao24 t803.length co24) : Value).ownBlock ∧ k_ ≠ gb797 ∧ k_ ≠ gb821) (.slice Ao10 t791.length co10) t791) ∧ Aside0 (Kd.R k29 29 w' w.heap.size (fun k_ => some k_ ≠ ((.slice Ao10 t791.length co10) : Value).ownBlock ∧ some k_ ≠ ((.slice Ao24 t803.length co24) : Value).ownBlock ∧ k_ ≠ gb797 ∧ k_ ≠ gb821) (.slice Ao16 t798.length co16) t798) ∧ Aside0 (Kd.R k29 29 w' w.heap.size (fun k_ => some k_ ≠ ((.slice Ao10 t791.length co10) : Value).ownBlock ∧ some k_ ≠ ((.slice Ao16 t798.length co16) : Value).ownBlock ∧ k_ ≠ gb797 ∧ k_ ≠ gb821) (.slice Ao24 t803.length co24) t803) ∧ Aside0 (w'.heap[gb796]? = some (.cells #[(.slice Ao10 t791.length co10)] 45 (0, 0))) ∧ Aside0 (w'.heap[gb797]? = some (.cells #[.int .i64 t794, .int .i64 t795] 29 (0, 0))) ∧ Aside0 (w'.heap[gb802]? = some (.cells #[(.slice Ao16 t798.length co16)] 45 (0, 0))) ∧ Aside0 (w'.heap[gb807]? = some (.cells #[(.slice Ao24 t803.length co24)] 45 (0, 0))) ∧ Aside0 (w'.heap[gb821]? = some (.cells #[.int .i64 t818, .int .i64 t819] 29 (0, 0))) ∧ Aside0 (Below w.heap.size w w'))
                              case atStart => exact ⟨(0), (by first | rfl | (simp; done) | (simp [*]; done)), H', ⟨Nat.le_refl _⟩, ⟨by (with_reducible repeat apply ru); exact HO_797000.out⟩, ⟨by (with_reducible repeat apply ru); exact HO_803000.out⟩, ⟨by (with_reducible repeat apply ru); exact HO_808000.out⟩, ⟨by (with_reducible repeat refine bu ?_); exact BK796.out⟩, ⟨by (with_reducible repeat refine bu ?_); exact BK797.out⟩, ⟨by (with_reducible repeat refine bu ?_); exact BK802.out⟩, ⟨by (with_reducible repeat refine bu ?_); exact BK807.out⟩, ⟨by (with_reducible repeat refine bu ?_); exact BK821.out⟩, ⟨by repeat (first | (with_reducible first | exact HB.out | apply below_alloc | apply pw_below_drewN | apply below_drew1 | refine below_set ?_ GE796.out | refine below_set ?_ GE797.out | refine below_set ?_ GE802.out | refine below_set ?_ GE807.out | refine below_set ?_ GE821.out) | exact HB.out)⟩⟩
                              case round =>
                                clear H'
                                try clear c1
                                try clear c2
                                try clear p2
                                try clear c3
                                try clear c4
                                try clear c5
                                try clear c6
                                try clear c7
                                try clear c8
                                try clear c9
                                try clear c10
                                try clear c11
                                try clear c12
                                try clear c13
                                try clear c14
                                try clear c15
                                try clear c16
                                try clear c17
                                try clear c25
                                try clear c27
                                try clear c30
                                try clear c31
                                try clear c31b0
                                try clear c31b1
                                try clear c34
                                try clear c35
                                try clear c37
                                try clear c42
                                try clear c45
                                try clear c47
                                try clear c48
                                try clear c49
                                try clear c52
                                try clear c53
                                try clear c56
                                try clear c57
                                try clear c58
                                try clear c61
                                try clear c62
                                try clear c62b0
                                try clear c62b1
                                try clear c63
                                try clear c63b0
                                try clear c63b1
                                try clear c63b2
                                try clear c65
                                try clear c66
                                try clear c67
                                try clear c72
                                try clear c74
                                try clear c75
                                try clear c76
                                try clear c80
                                try clear c81
                                try clear c83
                                try clear c84
                                try clear c85
                                try clear c88
                                try clear c90
                                try clear c90b0
                                try clear c90b1
                                try clear c91
                                try clear c91b0
                                try clear c91b1
                                try clear c92
                                try clear c92b0
                                try clear c92b1
                                try clear c94
                                try clear c95
                                try clear c96
                                try clear c98
                                try clear c99
                                try clear c103
                                try clear c107
                                try clear c108
                                try clear c109
                                try clear c111
                                try clear c112
                                try clear c115
                                try clear c119
                                try clear c120
                                try clear c121
                                try clear c122
                                try clear c124
                                try clear c125
                                try clear c125b0
                                try clear c126
                                try clear c127
                                try clear c128
                                try clear c129
                                try clear c131
                                try clear c132
                                try clear c133
                                try clear c136
                                try clear c136b0
                                try clear c136b1
                                try clear c137
                                try clear c137b0
                                try clear c137b1
                                try clear c138
                                try clear c139
                                try clear c140
                                try clear c141
                                try clear c143
                                try clear c144
                                try clear c145
                                try clear c147
                                try clear c148
                                try clear c151
                                try clear c152
                                try clear c153
                                try clear c154
                                try clear c156
                                try clear c157
                                try clear c158
                                try clear c160
                                try clear c161
                                try clear c164
                                try clear c165
                                try clear c166
                                try clear c167
                                try clear c169
                                try clear c170
                                try clear c171
                                try clear c173
                                try clear c174
                                try clear c177
                                try clear hcz100_0
                                try clear hcz100_1
                                try clear hcz102_0
                                try clear hcz104_0
                                try clear hcz110_0
                                try clear hcz113_0
                                try clear hcz113_1
                                try clear hcz116_0
                                try clear hcz123_0
                                try clear hcz123_1
                                try clear hcz130_0
                                try clear hcz130_1
                                try clear hcz134_0
                                try clear hcz134_1
                                try clear hcz142_0
                                try clear hcz142_1
                                try clear hcz146_0
                                try clear hcz146_1
                                try clear hcz149_0
                                try clear hcz155_0
                                try clear hcz155_1
                                try clear hcz159_0
                                try clear hcz159_1
                                try clear hcz162_0
                                try clear hcz168_0
                                try clear hcz168_1
                                try clear hcz172_0
                                try clear hcz172_1
                                try clear hcz175_0
                                try clear hcz50_0
                                try clear hcz54_0
                                try clear hcz54_1
                                try clear hcz59_0
                                try clear hcz68_0
                                try clear hcz77_0
                                try clear hcz79_0
                                try clear hcz82_0
                                try clear hcz86_0
                                try clear hcz97_0
                                try clear hfz100_0
                                try clear hfz100_1
                                try clear hfz102_0
                                try clear hfz104_0
                                try clear hfz110_0
                                try clear hfz113_0
                                try clear hfz113_1
                                try clear hfz116_0
                                try clear hfz123_0
                                try clear hfz123_1
                                try clear hfz130_0
                                try clear hfz130_1
                                try clear hfz134_0
                                try clear hfz134_1
                                try clear hfz142_0
                                try clear hfz142_1
                                try clear hfz146_0
                                try clear hfz146_1
                                try clear hfz149_0
                                try clear hfz155_0
                                try clear hfz155_1
                                try clear hfz159_0
                                try clear hfz159_1
                                try clear hfz162_0
                                try clear hfz168_0
                                try clear hfz168_1
                                try clear hfz172_0
                                try clear hfz172_1
                                try clear hfz175_0
                                try clear hfz50_0
                                try clear hfz54_0
                                try clear hfz54_1
                                try clear hfz59_0
                                try clear hfz68_0
                                try clear hfz77_0
                                try clear hfz79_0
                                try clear hfz82_0
                                try clear hfz86_0
                                try clear hfz97_0
                                try clear p2
                                obtain ⟨x12_5, rfl, HA, HK5, HO_797000, HO_803000, HO_808000, BK796, BK797, BK802, BK807, BK821, HB⟩ := hrel
                                cases gk with
                                | zero => exact absurd HA.out (by simp [laws_FnMapPut.l0])
                                | succ k5 =>
                                  have H := HA.out
                                  clear HA
                                  simp only [laws_FnMapPut.l0] at H
                                  by_cases c178 : x12_5 < (t791.length : Int)
                                  · rw [if_pos c178] at H
                                    have c178b0 : decide (x12_5 < (t791.length : Int)) = true := decide_eq_true c178
                                    clear c178
                                    by_cases c179 : 0 ≤ x12_5
                                    · rw [if_pos c179] at H
                                      have c179b0 : decide (0 ≤ x12_5) = true := decide_eq_true c179
                                      clear c179
                                      replace H := Option.bind_eq_some_iff.mp H
                                      obtain ⟨t824, A1800, H⟩ := H
                                      replace H : ((impl_MapPort.f t791 ((rd_T29 t791 x12_5).f0) ((rd_T29 t791 x12_5).f1)).bind fun t826 => (if t824 = t826 then (laws_FnMapPut.l0 k5 (wrap64 (x12_5 + 1)) t791 t798) else (some false))) = some r := H
                                      have A180 := Aside0.mk A1800
                                      clear A1800
                                      replace H := Option.bind_eq_some_iff.mp H
                                      obtain ⟨t826, A1810, H⟩ := H
                                      replace H : (if t824 = t826 then (laws_FnMapPut.l0 k5 (wrap64 (x12_5 + 1)) t791 t798) else (some false)) = some r := H
                                      have A181 := Aside0.mk A1810
                                      clear A1810
                                      by_cases c182 : t824 = t826
                                      · rw [if_pos c182] at H
                                        have c182b0 : (t824 == t826) = true := beq_iff_eq.mpr c182
                                        have c182b1 : (t824 != t826) = false := bne_eq_false_iff_eq.mpr c182
                                        clear c182
                                        have H' := Aside0.mk H
                                        clear H
                                        have hnb183 := NB796_797.out
                                        have hnc183 := NB797_796.out
                                        have hnb184 := NB796_802.out
                                        have hnc184 := NB802_796.out
                                        have hnb185 := NB796_807.out
                                        have hnc185 := NB807_796.out
                                        have hnb186 := NB796_821.out
                                        have hnc186 := NB821_796.out
                                        have hcz187_0 : wr.cell? ⟨gb796, 0, none⟩ = some (.slice Ao10 t791.length co10) := (blk_cell BK796.out 0).trans rfl
                                        have hfz187_0 := blk_frozen BK796.out 0
                                        try go_wp2
                                        have n0_ := Aside0.mk (Kd.R_drew HO_797000.out)
                                        have n1_ := Aside0.mk (Kd.R_drew HO_803000.out)
                                        have n2_ := Aside0.mk (Kd.R_drew HO_808000.out)
                                        have n3_ := Aside0.mk (blk_drew BK796.out)
                                        have n4_ := Aside0.mk (blk_drew BK797.out)
                                        have n5_ := Aside0.mk (blk_drew BK802.out)
                                        have n6_ := Aside0.mk (blk_drew BK807.out)
                                        have n7_ := Aside0.mk (blk_drew BK821.out)
                                        have n8_ := Aside0.mk (below_drew1 HB.out)
                                        clear HO_797000
                                        clear HO_803000
                                        clear HO_808000
                                        clear BK796
                                        clear BK797
                                        clear BK802
                                        clear BK807
                                        clear BK821
                                        clear HB
                                        have HO_797000 := n0_
                                        have HO_803000 := n1_
                                        have HO_808000 := n2_
                                        have BK796 := n3_
                                        have BK797 := n4_
                                        have BK802 := n5_
                                        have BK807 := n6_
                                        have BK821 := n7_
                                        have HB := n8_
                                        clear n0_ n1_ n2_ n3_ n4_ n5_ n6_ n7_ n8_
                                        have p823 : 0 ≤ (x12_5 : Int) := of_decide_eq_true (by first | (with_reducible assumption) | assumption)
                                        have q823 : x12_5 < (t791.length : Int) := of_decide_eq_true (by first | (with_reducible assumption) | assumption)
                                        obtain ⟨ad823, e823, hx823_0, hx823_1⟩ := at_T29 (Kd.R_reads' HO_797000.out).2.2 x12_5 p823 q823
                                        cases e823
                                        replace p823 := eq_true p823
                                        replace q823 := eq_true q823
                                        have p825 : 0 ≤ (x12_5 : Int) := of_decide_eq_true (by first | (with_reducible assumption) | assumption)
                                        have q825 : x12_5 < (t791.length : Int) := of_decide_eq_true (by first | (with_reducible assumption) | assumption)
                                        obtain ⟨ad825, e825, hx825_0, hx825_1⟩ := at_T29 (Kd.R_reads' HO_797000.out).2.2 x12_5 p825 q825
                                        obtain rfl : ad823 = ad825 := (by injection e825)
                                        replace p825 := eq_true p825
                                        replace q825 := eq_true q825
                                        refine start_ (n := 15) (S := fun w' => w'.cell? ⟨gb802, 0, none⟩ = some (.slice Ao16 t798.length co16) ∧ w'.cell? ⟨gb796, 0, none⟩ = some (.slice (some ad823) t791.length co10) ∧ w'.cell? (ad823.add ((x12_5).toNat * 2)) = some (.int .i64 ((rd_T29 t791 x12_5).f0)) ∧ w'.cell? ⟨(ad823.add ((x12_5).toNat * 2)).block, (ad823.add ((x12_5).toNat * 2)).off + 1, none⟩ = some (.int .i64 ((rd_T29 t791 x12_5).f1)) ∧ w'.cell? (ad823.add ((x12_5).toNat * 2)) = some (.int .i64 ((rd_T29 t791 x12_5).f0)) ∧ w'.cell? ⟨(ad823.add ((x12_5).toNat * 2)).block, (ad823.add ((x12_5).toNat * 2)).off + 1, none⟩ = some (.int .i64 ((rd_T29 t791 x12_5).f1))) (ds := []) #[false, false, false, false, false, false, false, false, false, false, false, false, false, false, false] (by kernel_rfl) rfl rfl ⟨(blk_cell BK802.out 0).trans rfl, (blk_cell BK796.out 0).trans rfl, hx823_0, hx823_1, hx825_0, hx825_1⟩ (fun hHeld => ?_); refine with_tabW laws_FnMapPut.tab21 laws_FnMapPut.bits21 (fun HT_ HW_ => ?_)
                                        generalize wr.drew = w188 at HO_797000 HO_803000 HO_808000 BK796 BK797 BK802 BK807 BK821 HB hx823_0 hx823_1 hx825_0 hx825_1 hHeld ⊢
                                        refine pure_ (i := 1) (N := some 138) (v := ?_) (a' := ?_) #[false, true, false, false, false, false, false, false, false, false, false, false, false, false, false] rfl rfl (any_of HT_.out (by kernel_rfl)) (fun _ _ _ h => h) (Or.inl ⟨by rfl, ?_⟩) ?_ ?_
                                        rotate_left
                                        · intro w'
                                          go_simp
                                          with_reducible rfl
                                        rotate_left
                                        · simp only [Act.put, List.setIfInBounds_toArray, List.set_cons_zero, List.set_cons_succ, i64_w, i32_w]
                                          rfl
                                        refine pure_ (i := 3) (N := some 140) (v := ?_) (a' := ?_) #[false, true, false, true, false, false, false, false, false, false, false, false, false, false, false] rfl rfl (any_of HT_.out (by kernel_rfl)) (fun _ _ _ h => h) (Or.inl ⟨by rfl, ?_⟩) ?_ ?_
                                        rotate_left
                                        · intro w'
                                          go_simp
                                          with_reducible rfl
                                        rotate_left
                                        · simp only [Act.put, List.setIfInBounds_toArray, List.set_cons_zero, List.set_cons_succ, i64_w, i32_w]
                                          rfl
                                        refine pure_ (i := 8) (N := some 145) (v := ?_) (a' := ?_) #[false, true, false, true, false, false, false, false, true, false, false, false, false, false, false] rfl rfl (any_of HT_.out (by kernel_rfl)) (fun _ _ _ h => h) (Or.inl ⟨by rfl, ?_⟩) ?_ ?_
                                        rotate_left
                                        · intro w'
                                          go_simp
                                          with_reducible rfl
                                        rotate_left
                                        · simp only [Act.put, List.setIfInBounds_toArray, List.set_cons_zero, List.set_cons_succ, i64_w, i32_w]
                                          rfl
                                        refine pure_ (i := 10) (N := some 147) (v := ?_) (a' := ?_) #[false, true, false, true, false, false, false, false, true, false, true, false, false, false, false] rfl rfl (any_of HT_.out (by kernel_rfl)) (fun _ _ _ h => h) (Or.inl ⟨by rfl, ?_⟩) ?_ ?_
                                        rotate_left
                                        · intro w'
                                          go_simp
                                          with_reducible rfl
                                        rotate_left
                                        · simp only [Act.put, List.setIfInBounds_toArray, List.set_cons_zero, List.set_cons_succ, i64_w, i32_w]
                                          rfl
                                        refine take_ (i := 0) (N := some 137) (v := ?_) (a' := ?_) #[true, true, false, true, false, false, false, false, true, false, true, false, false, false, false] rfl rfl (take_ofW HT_.out HW_.out (by kernel_rfl)) (fun _ _ _ h => h) (Or.inl ⟨by rfl, ?_⟩) hHeld ?_ ?_
                                        rotate_left
                                        · rintro w' ⟨s0, s1, s2, s3, s4, s5⟩
                                          go_simp
                                          with_reducible rfl
                                        rotate_left
                                        · simp only [Act.put, List.setIfInBounds_toArray, List.set_cons_zero, List.set_cons_succ, i64_w, i32_w]
                                          rfl
                                        refine take_ (i := 2) (N := some 139) (v := ?_) (a' := ?_) #[true, true, true, true, false, false, false, false, true, false, true, false, false, false, false] rfl rfl (take_ofW HT_.out HW_.out (by kernel_rfl)) (fun _ _ _ h => h) (Or.inl ⟨by rfl, ?_⟩) hHeld ?_ ?_
                                        rotate_left
                                        · rintro w' ⟨s0, s1, s2, s3, s4, s5⟩
                                          go_simp
                                          with_reducible rfl
                                        rotate_left
                                        · simp only [Act.put, List.setIfInBounds_toArray, List.set_cons_zero, List.set_cons_succ, i64_w, i32_w]
                                          rfl
                                        refine pure_ (i := 4) (N := some 141) (v := ?_) (a' := ?_) #[true, true, true, true, true, false, false, false, true, false, true, false, false, false, false] rfl rfl (any_of HT_.out (by kernel_rfl)) (fun _ _ _ h => h) (Or.inl ⟨by rfl, ?_⟩) ?_ ?_
                                        rotate_left
                                        · intro w'
                                          go_simp
                                          with_reducible rfl
                                        rotate_left
                                        · simp only [Act.put, List.setIfInBounds_toArray, List.set_cons_zero, List.set_cons_succ, i64_w, i32_w]
                                          rfl
                                        refine take_ (i := 5) (N := some 142) (v := ?_) (a' := ?_) #[true, true, true, true, true, true, false, false, true, false, true, false, false, false, false] rfl rfl (take_ofW HT_.out HW_.out (by kernel_rfl)) (fun _ _ _ h => h) (Or.inl ⟨by rfl, ?_⟩) hHeld ?_ ?_
                                        rotate_left
                                        · rintro w' ⟨s0, s1, s2, s3, s4, s5⟩
                                          go_simp
                                          with_reducible rfl
                                        rotate_left
                                        · simp only [Act.put, List.setIfInBounds_toArray, List.set_cons_zero, List.set_cons_succ, i64_w, i32_w]
                                          rfl
                                        refine take_ (i := 7) (N := some 144) (v := ?_) (a' := ?_) #[true, true, true, true, true, true, false, true, true, false, true, false, false, false, false] rfl rfl (take_ofW HT_.out HW_.out (by kernel_rfl)) (fun _ _ _ h => h) (Or.inl ⟨by rfl, ?_⟩) hHeld ?_ ?_
                                        rotate_left
                                        · rintro w' ⟨s0, s1, s2, s3, s4, s5⟩
                                          go_simp
                                          with_reducible rfl
                                        rotate_left
                                        · simp only [Act.put, List.setIfInBounds_toArray, List.set_cons_zero, List.set_cons_succ, i64_w, i32_w]
                                          rfl
                                        refine take_ (i := 9) (N := some 146) (v := ?_) (a' := ?_) #[true, true, true, true, true, true, false, true, true, true, true, false, false, false, false] rfl rfl (take_ofW HT_.out HW_.out (by kernel_rfl)) (fun _ _ _ h => h) (Or.inl ⟨by rfl, ?_⟩) hHeld ?_ ?_
                                        rotate_left
                                        · rintro w' ⟨s0, s1, s2, s3, s4, s5⟩
                                          go_simp
                                          with_reducible rfl
                                        rotate_left
                                        · simp only [Act.put, List.setIfInBounds_toArray, List.set_cons_zero, List.set_cons_succ, i64_w, i32_w]
                                          rfl
                                        refine pure_ (i := 11) (N := some 148) (v := ?_) (a' := ?_) #[true, true, true, true, true, true, false, true, true, true, true, true, false, false, false] rfl rfl (any_of HT_.out (by kernel_rfl)) (fun _ _ _ h => h) (Or.inl ⟨by rfl, ?_⟩) ?_ ?_
                                        rotate_left
                                        · intro w'
                                          go_simp
                                          with_reducible rfl
                                        rotate_left
                                        · simp only [Act.put, List.setIfInBounds_toArray, List.set_cons_zero, List.set_cons_succ, i64_w, i32_w]
                                          rfl
                                        refine take_ (i := 12) (N := some 149) (v := ?_) (a' := ?_) #[true, true, true, true, true, true, false, true, true, true, true, true, true, false, false] rfl rfl (take_ofW HT_.out HW_.out (by kernel_rfl)) (fun _ _ _ h => h) (Or.inl ⟨by rfl, ?_⟩) hHeld ?_ ?_
                                        rotate_left
                                        · rintro w' ⟨s0, s1, s2, s3, s4, s5⟩
                                          go_simp
                                          with_reducible rfl
                                        rotate_left
                                        · simp only [Act.put, List.setIfInBounds_toArray, List.set_cons_zero, List.set_cons_succ, i64_w, i32_w]
                                          rfl
                                        refine one_ (i := 6) (N := some 143) #[true, true, true, true, true, true, true, true, true, true, true, true, true, false, false] rfl rfl (one_of HT_.out (by kernel_rfl)) (by decide) (fun K hK => ?_)
                                        refine goes_ Try.func27 (by kernel_rfl) rfl #[.agg #[.slice Ao16 t798.length co16], .agg #[.int .i64 ((rd_T29 t791 x12_5).f0), .int .i64 ((rd_T29 t791 x12_5).f1)]] (by rfl) rfl rfl (by (try simp only [List.map_toArray, List.map_cons, List.map_nil]); first | done | rfl | (simp only [List.length_drop, List.length_take]; rfl)) ?_
                                        with_reducible refine (impl_MapPort.calls _ _ t798 ((rd_T29 t791 x12_5).f0) ((rd_T29 t791 x12_5).f1) t824 _ ?side1 ?side2 A180.out).mono ?_
                                        (case side1 => repeat (first | exact (Kd.R_reads' HO_803000.out).2.2 | (with_reducible refine Kd.C_alloc ?_ _) | (with_reducible refine Kd.C_drewN ?_ _) | (with_reducible refine Kd.C_drew ?_)))
                                        (case side2 => exact (Kd.R_reads' HO_803000.out).2.1)
                                        rintro e w189 ⟨rfl, hb⟩
                                        have HS2_ := (hb.cell (World.block_lt_of_cell? _ _ (hHeld.2.2.1))).trans (hHeld.2.2.1)
                                        have HS3_ := (hb.cell (World.block_lt_of_cell? _ _ (hHeld.2.2.2.1))).trans (hHeld.2.2.2.1)
                                        have HS4_ := (hb.cell (World.block_lt_of_cell? _ _ (hHeld.2.2.2.2.1))).trans (hHeld.2.2.2.2.1)
                                        have HS5_ := (hb.cell (World.block_lt_of_cell? _ _ (hHeld.2.2.2.2.2))).trans (hHeld.2.2.2.2.2)
                                        refine ⟨_, rfl, ?_⟩
                                        have n0_ := Aside0.mk (Kd.R_below (rs HO_797000) hb)
                                        have n1_ := Aside0.mk (Kd.R_below (rs HO_803000) hb)
                                        have n2_ := Aside0.mk (Kd.R_below (rs HO_808000) hb)
                                        have n3_ := bkB BK796 hb
                                        have n4_ := bkB BK797 hb
                                        have n5_ := bkB BK802 hb
                                        have n6_ := bkB BK807 hb
                                        have n7_ := bkB BK821 hb
                                        have n8_ := Aside0.mk (below_step (bl HB) hb)
                                        clear HO_797000
                                        clear HO_803000
                                        clear HO_808000
                                        clear BK796
                                        clear BK797
                                        clear BK802
                                        clear BK807
                                        clear BK821
                                        clear HB
                                        have HO_797000 := n0_
                                        have HO_803000 := n1_
                                        have HO_808000 := n2_
                                        have BK796 := n3_
                                        have BK797 := n4_
                                        have BK802 := n5_
                                        have BK807 := n6_
                                        have BK821 := n7_
                                        have HB := n8_
                                        clear n0_ n1_ n2_ n3_ n4_ n5_ n6_ n7_ n8_
                                        (try clear hb)
                                        (try clear hb2)
                                        (try clear hk)
                                        (try clear hi)
                                        refine hK.out _ _ ⟨(blk_cell BK802.out 0).trans rfl, (blk_cell BK796.out 0).trans rfl, HS2_, HS3_, HS4_, HS5_⟩ (fun hHeld => ?_)
                                        clear hK K
                                        refine norm_ (a' := ?_) ?_ ?_
                                        rotate_left
                                        · show Act.put _ (some 143) _ = _
                                          simp only [Act.put, List.setIfInBounds_toArray, List.set_cons_zero, List.set_cons_succ, i64_w, i32_w]
                                          rfl
                                        refine one_ (i := 13) (N := some 150) #[true, true, true, true, true, true, true, true, true, true, true, true, true, true, false] rfl rfl (one_of HT_.out (by kernel_rfl)) (by decide) (fun K hK => ?_)
                                        refine goes_ Try.func27 (by kernel_rfl) rfl #[.agg #[.slice (some ad823) t791.length co10], .agg #[.int .i64 ((rd_T29 t791 x12_5).f0), .int .i64 ((rd_T29 t791 x12_5).f1)]] (by rfl) rfl rfl (by (try simp only [List.map_toArray, List.map_cons, List.map_nil]); first | done | rfl | (simp only [List.length_drop, List.length_take]; rfl)) ?_
                                        with_reducible refine (impl_MapPort.calls _ _ t791 ((rd_T29 t791 x12_5).f0) ((rd_T29 t791 x12_5).f1) t826 _ ?side1 ?side2 A181.out).mono ?_
                                        (case side1 => repeat (first | exact (Kd.R_reads' HO_797000.out).2.2 | (with_reducible refine Kd.C_alloc ?_ _) | (with_reducible refine Kd.C_drewN ?_ _) | (with_reducible refine Kd.C_drew ?_)))
                                        (case side2 => exact (Kd.R_reads' HO_797000.out).2.1)
                                        rintro e w190 ⟨rfl, hb⟩
                                        have HS2_ := (hb.cell (World.block_lt_of_cell? _ _ (hHeld.2.2.1))).trans (hHeld.2.2.1)
                                        have HS3_ := (hb.cell (World.block_lt_of_cell? _ _ (hHeld.2.2.2.1))).trans (hHeld.2.2.2.1)
                                        have HS4_ := (hb.cell (World.block_lt_of_cell? _ _ (hHeld.2.2.2.2.1))).trans (hHeld.2.2.2.2.1)
                                        have HS5_ := (hb.cell (World.block_lt_of_cell? _ _ (hHeld.2.2.2.2.2))).trans (hHeld.2.2.2.2.2)
                                        refine ⟨_, rfl, ?_⟩
                                        have n0_ := Aside0.mk (Kd.R_below (rs HO_797000) hb)
                                        have n1_ := Aside0.mk (Kd.R_below (rs HO_803000) hb)
                                        have n2_ := Aside0.mk (Kd.R_below (rs HO_808000) hb)
                                        have n3_ := bkB BK796 hb
                                        have n4_ := bkB BK797 hb
                                        have n5_ := bkB BK802 hb
                                        have n6_ := bkB BK807 hb
                                        have n7_ := bkB BK821 hb
                                        have n8_ := Aside0.mk (below_step (bl HB) hb)
                                        clear HO_797000
                                        clear HO_803000
                                        clear HO_808000
                                        clear BK796
                                        clear BK797
                                        clear BK802
                                        clear BK807
                                        clear BK821
                                        clear HB
                                        have HO_797000 := n0_
                                        have HO_803000 := n1_
                                        have HO_808000 := n2_
                                        have BK796 := n3_
                                        have BK797 := n4_
                                        have BK802 := n5_
                                        have BK807 := n6_
                                        have BK821 := n7_
                                        have HB := n8_
                                        clear n0_ n1_ n2_ n3_ n4_ n5_ n6_ n7_ n8_
                                        (try clear hb)
                                        (try clear hb2)
                                        (try clear hk)
                                        (try clear hi)
                                        refine hK.out _ _ ⟨(blk_cell BK802.out 0).trans rfl, (blk_cell BK796.out 0).trans rfl, HS2_, HS3_, HS4_, HS5_⟩ (fun hHeld => ?_)
                                        clear hK K
                                        refine norm_ (a' := ?_) ?_ ?_
                                        rotate_left
                                        · show Act.put _ (some 150) _ = _
                                          simp only [Act.put, List.setIfInBounds_toArray, List.set_cons_zero, List.set_cons_succ, i64_w, i32_w]
                                          rfl
                                        refine pure_ (i := 14) (N := some 151) (v := ?_) (a' := ?_) #[true, true, true, true, true, true, true, true, true, true, true, true, true, true, true] rfl rfl (any_of HT_.out (by kernel_rfl)) (fun _ _ _ h => h) (Or.inl ⟨by rfl, ?_⟩) ?_ ?_
                                        rotate_left
                                        · intro w'
                                          go_simp
                                          with_reducible rfl
                                        rotate_left
                                        · simp only [Act.put, List.setIfInBounds_toArray, List.set_cons_zero, List.set_cons_succ, i64_w, i32_w]
                                          rfl
                                        refine done_ (done_of HT_.out (by kernel_rfl)) ?_
                                        try go_wp2
                                        go_roundg k5
                                        case measure => have := HJ5.out; have := HJ42.out; have := HJ69.out; have := HJ105.out; have := HK5.out; omega
                                        case rel => exact ⟨(wrap64 (x12_5 + 1)), (by first | rfl | (simp; done) | (simp [*]; done)), H', ⟨by have := HJ5.out; have := HJ42.out; have := HJ69.out; have := HJ105.out; have := HK5.out; omega⟩, ⟨by (with_reducible repeat apply ru); exact HO_797000.out⟩, ⟨by (with_reducible repeat apply ru); exact HO_803000.out⟩, ⟨by (with_reducible repeat apply ru); exact HO_808000.out⟩, ⟨by (with_reducible repeat refine bu ?_); exact BK796.out⟩, ⟨by (with_reducible repeat refine bu ?_); exact BK797.out⟩, ⟨by (with_reducible repeat refine bu ?_); exact BK802.out⟩, ⟨by (with_reducible repeat refine bu ?_); exact BK807.out⟩, ⟨by (with_reducible repeat refine bu ?_); exact BK821.out⟩, ⟨by repeat (first | (with_reducible first | exact HB.out | apply below_alloc | apply pw_below_drewN | apply below_drew1 | refine below_set ?_ GE796.out | refine below_set ?_ GE797.out | refine below_set ?_ GE802.out | refine below_set ?_ GE807.out | refine below_set ?_ GE821.out) | exact HB.out)⟩⟩
                                      · rw [if_neg c182] at H
                                        have c182b0 : (t824 == t826) = false := beq_eq_false_iff_ne.mpr c182
                                        have c182b1 : (t824 != t826) = true := bne_iff_ne.mpr c182
                                        exact absurd ((Option.some.inj H).trans hrt.out) (by decide)
                                    · rw [if_neg c179] at H
                                      exact absurd H (by simp)
                                  · rw [if_neg c178] at H
                                    have c178b0 : decide (x12_5 < (t791.length : Int)) = false := decide_eq_false c178
                                    clear c178
                                    obtain rfl := Option.some.inj H
                                    have hnb191 := NB796_797.out
                                    have hnc191 := NB797_796.out
                                    have hnb192 := NB796_802.out
                                    have hnc192 := NB802_796.out
                                    have hnb193 := NB796_807.out
                                    have hnc193 := NB807_796.out
                                    have hnb194 := NB796_821.out
                                    have hnc194 := NB821_796.out
                                    have hcz195_0 : wr.cell? ⟨gb796, 0, none⟩ = some (.slice Ao10 t791.length co10) := (blk_cell BK796.out 0).trans rfl
                                    have hfz195_0 := blk_frozen BK796.out 0
                                    have hnb196 := NB802_797.out
                                    have hnc196 := NB797_802.out
                                    have hnb197 := NB802_807.out
                                    have hnc197 := NB807_802.out
                                    have hnb198 := NB802_821.out
                                    have hnc198 := NB821_802.out
                                    have hcz199_0 : wr.cell? ⟨gb802, 0, none⟩ = some (.slice Ao16 t798.length co16) := (blk_cell BK802.out 0).trans rfl
                                    have hfz199_0 := blk_frozen BK802.out 0
                                    go_wp2
                                    go_ret
                                    exact ⟨by first | rfl | (simp [errW_none, errW_some] <;> rfl) | (simp [*, errW_none, errW_some] <;> rfl), by repeat (first | (with_reducible first | exact HB.out | apply below_alloc | apply pw_below_drewN | apply below_drew1 | refine below_set ?_ GE796.out | refine below_set ?_ GE797.out | refine below_set ?_ GE802.out | refine below_set ?_ GE807.out | refine below_set ?_ GE821.out) | exact HB.out)⟩

/-- THE ONE PURE STATEMENT of laws_FnMapPut: yours. -/
def laws_FnMapPut.Pure : Prop := ∀ (l0 : List Int), l0.length ≤ maxLen → l0.length * 1 ≤ 140737488351232 → (∀ x ∈ l0, (Lit.int .u8 x).wf = true) → ∃ k, laws_FnMapPut.f k l0 = some true
theorem laws_FnMapPut.walk (P : laws_FnMapPut.Pure) (a0 : Option Addr) (len0 cap0 : Nat) (z0 : List Int) (w : World) (w0 : (a0 = none ∧ len0 = 0 ∧ cap0 = 0 ∧ z0 = []) ∨ ∃ x, a0 = some x ∧ len0 ≤ cap0 ∧ cap0 ≤ maxLen ∧ z0.length = cap0 ∧ (∀ i, i < z0.length → w.cell? (x.add i) = some (.int .u8 (z0.getD i 0))) ∧ ∀ n ∈ z0, (Lit.int .u8 n).wf = true) (y0 : len0 * 1 ≤ 140737488351232) :
    Calls Try.prog 9 #[.slice a0 len0 cap0] w fun e w' => e = .returned (.bool true) ∧ Below w.heap.size w w' := by
  obtain ⟨l0, rfl, hr0, hm0, hw0, hc0⟩ := ReadsInt.ofRowC w0
  obtain ⟨k, h⟩ := P l0 hm0 y0 hw0
  refine (laws_FnMapPut.calls k _ _ l0 true w (Kd.C_of_reads (d := (0 : Int)) (h1 := fun _ => rfl) hr0) hc0 h ⟨rfl⟩).mono ?_
  rintro e w' ⟨rfl, hd⟩
  exact ⟨rfl, hd⟩

end Go.Proofs.Ytiocgkggegahhaa.P
