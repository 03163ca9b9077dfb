import Derived.Test.YtiocgkggegahhaaGLawFnRulLessx3
-- written by hw.py for this claim
namespace Go.Proofs.Ytiocgkggegahhaa.P
open Go.RowKit Go.Proofs.YtiocgkggegahhaaW.PrintWords Go.Proofs.YtiocgkggegahhaaW.PrintLast Go.Proofs.YtiocgkggegahhaaW.PrintMore
attribute [local go_sem] max2_int min2_int max_two min_two max_three min_three max_four min_four
set_option linter.unusedVariables false
set_option linter.unusedSimpArgs false

/-! ### laws_FnRulLess: function 5 -/
mutual
def laws_FnRulLess.l0 : Nat → List (S24) → Bool → Int → Int → Int → Int → Int → Option (Bool)
  | 0, _, _, _, _, _, _, _ => none
  | k + 1, x3, x6, x7, x419000, x419001, x420000, x420001 => if x7 < (x3.length : Int) then (if 0 ≤ x7 then ((spec_RulOk.f ((rd_T24 x3 x7).f0) ((rd_T24 x3 x7).f1) ((rd_T24 x3 x7).f2) ((rd_T24 x3 x7).f3) ((rd_T24 x3 x7).f4) ((rd_T24 x3 x7).f5) ((rd_T24 x3 x7).f6)).bind fun t423 => (if t423 = true then (if (x3.length : Int) > 5 then ((laws_haOk.f).bind fun t424 => (some t424)) else (laws_FnRulLess.l0 k x3 x6 (wrap64 (x7 + 1)) x419000 x419001 x420000 x420001)) else ((laws_haOk.f).bind fun t425 => (some t425)))) else (none)) else ((spec_EndInside.f x419000 x419001).bind fun t426 => (if t426 = true then ((spec_EndOutside.f x420000 x420001).bind fun t427 => (laws_FnRulLess.j1 k x3 x6 (!t427) x419000 x419001 x420000 x420001)) else (laws_FnRulLess.j1 k x3 x6 true x419000 x419001 x420000 x420001)))
def laws_FnRulLess.j1 : Nat → List (S24) → Bool → Bool → Int → Int → Int → Int → Option (Bool)
  | 0, _, _, _, _, _, _, _ => none
  | k + 1, x3, x6, x56, x419000, x419001, x420000, x420001 => if x56 = true then ((laws_haOk.f).bind fun t428 => (some t428)) else (laws_FnRulLess.l1 k x3 x6 0 x419000 x419001 x420000 x420001)
def laws_FnRulLess.l1 : Nat → List (S24) → Bool → Int → Int → Int → Int → Int → Option (Bool)
  | 0, _, _, _, _, _, _, _ => none
  | k + 1, x3, x6, x8, x419000, x419001, x420000, x420001 => if x8 < (x3.length : Int) then (if 0 ≤ x8 then (if x419000 ≥ ((rd_T24 x3 x8).f1) then (if x419000 ≤ ((rd_T24 x3 x8).f2) then (if x420000 ≥ ((rd_T24 x3 x8).f3) then (if x420000 ≤ ((rd_T24 x3 x8).f4) then (if x420001 ≥ ((rd_T24 x3 x8).f5) then (laws_FnRulLess.j3 k x3 x6 x8 (decide (x420001 ≤ ((rd_T24 x3 x8).f6))) x419000 x419001 x420000 x420001 ((rd_T24 x3 x8).f0) ((rd_T24 x3 x8).f1) ((rd_T24 x3 x8).f2) ((rd_T24 x3 x8).f3) ((rd_T24 x3 x8).f4) ((rd_T24 x3 x8).f5) ((rd_T24 x3 x8).f6)) else (laws_FnRulLess.j3 k x3 x6 x8 false x419000 x419001 x420000 x420001 ((rd_T24 x3 x8).f0) ((rd_T24 x3 x8).f1) ((rd_T24 x3 x8).f2) ((rd_T24 x3 x8).f3) ((rd_T24 x3 x8).f4) ((rd_T24 x3 x8).f5) ((rd_T24 x3 x8).f6))) else (laws_FnRulLess.j3 k x3 x6 x8 false x419000 x419001 x420000 x420001 ((rd_T24 x3 x8).f0) ((rd_T24 x3 x8).f1) ((rd_T24 x3 x8).f2) ((rd_T24 x3 x8).f3) ((rd_T24 x3 x8).f4) ((rd_T24 x3 x8).f5) ((rd_T24 x3 x8).f6))) else (laws_FnRulLess.j3 k x3 x6 x8 false x419000 x419001 x420000 x420001 ((rd_T24 x3 x8).f0) ((rd_T24 x3 x8).f1) ((rd_T24 x3 x8).f2) ((rd_T24 x3 x8).f3) ((rd_T24 x3 x8).f4) ((rd_T24 x3 x8).f5) ((rd_T24 x3 x8).f6))) else (laws_FnRulLess.j3 k x3 x6 x8 false x419000 x419001 x420000 x420001 ((rd_T24 x3 x8).f0) ((rd_T24 x3 x8).f1) ((rd_T24 x3 x8).f2) ((rd_T24 x3 x8).f3) ((rd_T24 x3 x8).f4) ((rd_T24 x3 x8).f5) ((rd_T24 x3 x8).f6))) else (laws_FnRulLess.j3 k x3 x6 x8 false x419000 x419001 x420000 x420001 ((rd_T24 x3 x8).f0) ((rd_T24 x3 x8).f1) ((rd_T24 x3 x8).f2) ((rd_T24 x3 x8).f3) ((rd_T24 x3 x8).f4) ((rd_T24 x3 x8).f5) ((rd_T24 x3 x8).f6))) else (none)) else (some x6)
def laws_FnRulLess.j3 : Nat → List (S24) → Bool → Int → Bool → Int → Int → Int → Int → Bool → Int → Int → Int → Int → Int → Int → Option (Bool)
  | 0, _, _, _, _, _, _, _, _, _, _, _, _, _, _, _ => none
  | k + 1, x3, x6, x8, x10, x419000, x419001, x420000, x420001, x431000, x431001, x431002, x431003, x431004, x431005, x431006 => (some (([] : List (S24)) : List (S24))).bind fun y431 => (if 0 ≤ x8 then (if x8 ≤ (x3.length : Int) then ((some (x3.take (x8 : Int).toNat : List (S24))).bind fun y434 => (if y431.length + y434.length < 2513169434916 then ((some (y431 ++ y434 : List (S24))).bind fun y438 => (if 0 ≤ (wrap64 (x8 + 1)) then (if (wrap64 (x8 + 1)) ≤ (x3.length : Int) then ((some (x3.drop ((wrap64 (x8 + 1)) : Int).toNat : List (S24))).bind fun y441 => (if y438.length + y441.length < 2513169434916 then (if x10 = true then (laws_FnRulLess.j4 k x3 x6 x8 x10 false x419000 x419001 x420000 x420001 x431000 x431001 x431002 x431003 x431004 x431005 x431006) else ((impl_RulMay.f (y438 ++ y441) x419000 x419001 x420000 x420001).bind fun t448 => (laws_FnRulLess.j4 k x3 x6 x8 x10 (t448 != x6) x419000 x419001 x420000 x420001 x431000 x431001 x431002 x431003 x431004 x431005 x431006))) else (none))) else (none)) else (none))) else (none))) else (none)) else (none))
def laws_FnRulLess.j4 : Nat → List (S24) → Bool → Int → Bool → Bool → Int → Int → Int → Int → Bool → Int → Int → Int → Int → Int → Int → Option (Bool)
  | 0, _, _, _, _, _, _, _, _, _, _, _, _, _, _, _, _ => none
  | k + 1, x3, x6, x8, x10, x127, x419000, x419001, x420000, x420001, x431000, x431001, x431002, x431003, x431004, x431005, x431006 => if x127 = true then (some false) else (if x10 = true then (if 0 ≤ (wrap64 (x8 + 1)) then (if (wrap64 (x8 + 1)) ≤ (x3.length : Int) then ((impl_RulMay.f (x3.take ((wrap64 (x8 + 1)) : Int).toNat) x419000 x419001 x420000 x420001).bind fun t453 => (if (t453 == x6) = true then (some (x6 == x431000)) else (some false))) else (none)) else (none)) else (laws_FnRulLess.l1 k x3 x6 (wrap64 (x8 + 1)) x419000 x419001 x420000 x420001))
end
def laws_FnRulLess.f (k : Nat) (l0 : List Int) : Option (Bool) := if (l0.length : Int) > 1048576 then (some true) else ((spec_DrawRulMay.f k l0).bind fun bt411 => ((impl_RulMay.f bt411.1 bt411.2.1 bt411.2.2.1 bt411.2.2.2.1 bt411.2.2.2.2).bind fun t420 => ((spec_RulMay.f k bt411.1 bt411.2.1 bt411.2.2.1 bt411.2.2.2.1 bt411.2.2.2.2).bind fun t421 => (if (t420 != t421) = true then (some false) else (laws_FnRulLess.l0 k bt411.1 t420 0 bt411.2.1 bt411.2.2.1 bt411.2.2.2.1 bt411.2.2.2.2)))))
theorem laws_FnRulLess.mono_l : ∀ k, (∀ y0 y1 y2 y3 y4 y5 y6, LeO (laws_FnRulLess.l0 k y0 y1 y2 y3 y4 y5 y6) (laws_FnRulLess.l0 (k + 1) y0 y1 y2 y3 y4 y5 y6)) ∧ (∀ y0 y1 y2 y3 y4 y5 y6, LeO (laws_FnRulLess.j1 k y0 y1 y2 y3 y4 y5 y6) (laws_FnRulLess.j1 (k + 1) y0 y1 y2 y3 y4 y5 y6)) ∧ (∀ y0 y1 y2 y3 y4 y5 y6, LeO (laws_FnRulLess.l1 k y0 y1 y2 y3 y4 y5 y6) (laws_FnRulLess.l1 (k + 1) y0 y1 y2 y3 y4 y5 y6)) ∧ (∀ y0 y1 y2 y3 y4 y5 y6 y7 y8 y9 y10 y11 y12 y13 y14, LeO (laws_FnRulLess.j3 k y0 y1 y2 y3 y4 y5 y6 y7 y8 y9 y10 y11 y12 y13 y14) (laws_FnRulLess.j3 (k + 1) y0 y1 y2 y3 y4 y5 y6 y7 y8 y9 y10 y11 y12 y13 y14)) ∧ (∀ y0 y1 y2 y3 y4 y5 y6 y7 y8 y9 y10 y11 y12 y13 y14 y15, LeO (laws_FnRulLess.j4 k y0 y1 y2 y3 y4 y5 y6 y7 y8 y9 y10 y11 y12 y13 y14 y15) (laws_FnRulLess.j4 (k + 1) y0 y1 y2 y3 y4 y5 y6 y7 y8 y9 y10 y11 y12 y13 y14 y15))
  | 0 => ⟨fun _ _ _ _ _ _ _ r h => by simp [laws_FnRulLess.l0] at h, fun _ _ _ _ _ _ _ r h => by simp [laws_FnRulLess.j1] at h, fun _ _ _ _ _ _ _ r h => by simp [laws_FnRulLess.l1] at h, fun _ _ _ _ _ _ _ _ _ _ _ _ _ _ _ r h => by simp [laws_FnRulLess.j3] at h, fun _ _ _ _ _ _ _ _ _ _ _ _ _ _ _ _ r h => by simp [laws_FnRulLess.j4] at h⟩
  | k + 1 => by
    obtain ⟨ih0, ih1, ih2, ih3, ih4⟩ := laws_FnRulLess.mono_l k
    refine ⟨?_, ?_, ?_, ?_, ?_⟩
    · intro y0 y1 y2 y3 y4 y5 y6
      unfold laws_FnRulLess.l0
      repeat' first
      | (with_reducible exact ih0 _ _ _ _ _ _ _)
      | (with_reducible exact ih1 _ _ _ _ _ _ _)
      | (with_reducible exact ih2 _ _ _ _ _ _ _)
      | (with_reducible exact ih3 _ _ _ _ _ _ _ _ _ _ _ _ _ _ _)
      | (with_reducible exact ih4 _ _ _ _ _ _ _ _ _ _ _ _ _ _ _ _)
      | (with_reducible exact spec_DrawRulMay.mono _ _)
      | (with_reducible exact spec_RulMay.mono _ _ _ _ _ _)
      | (with_reducible exact LeO.refl _)
      | (with_reducible exact LeO.none _)
      | (with_reducible refine LeO.ite ?_ ?_)
      | (with_reducible refine LeO.bind ?_ (fun _ => ?_))
      | exact ih0 _ _ _ _ _ _ _
      | exact ih1 _ _ _ _ _ _ _
      | exact ih2 _ _ _ _ _ _ _
      | exact ih3 _ _ _ _ _ _ _ _ _ _ _ _ _ _ _
      | exact ih4 _ _ _ _ _ _ _ _ _ _ _ _ _ _ _ _
      | exact spec_DrawRulMay.mono _ _
      | exact spec_RulMay.mono _ _ _ _ _ _
      | exact LeO.none _
      | refine LeO.ite ?_ ?_
      | refine LeO.bind ?_ (fun _ => ?_)
    · intro y0 y1 y2 y3 y4 y5 y6
      unfold laws_FnRulLess.j1
      repeat' first
      | (with_reducible exact ih0 _ _ _ _ _ _ _)
      | (with_reducible exact ih1 _ _ _ _ _ _ _)
      | (with_reducible exact ih2 _ _ _ _ _ _ _)
      | (with_reducible exact ih3 _ _ _ _ _ _ _ _ _ _ _ _ _ _ _)
      | (with_reducible exact ih4 _ _ _ _ _ _ _ _ _ _ _ _ _ _ _ _)
      | (with_reducible exact spec_DrawRulMay.mono _ _)
      | (with_reducible exact spec_RulMay.mono _ _ _ _ _ _)
      | (with_reducible exact LeO.refl _)
      | (with_reducible exact LeO.none _)
      | (with_reducible refine LeO.ite ?_ ?_)
      | (with_reducible refine LeO.bind ?_ (fun _ => ?_))
      | exact ih0 _ _ _ _ _ _ _
      | exact ih1 _ _ _ _ _ _ _
      | exact ih2 _ _ _ _ _ _ _
      | exact ih3 _ _ _ _ _ _ _ _ _ _ _ _ _ _ _
      | exact ih4 _ _ _ _ _ _ _ _ _ _ _ _ _ _ _ _
      | exact spec_DrawRulMay.mono _ _
      | exact spec_RulMay.mono _ _ _ _ _ _
      | exact LeO.none _
      | refine LeO.ite ?_ ?_
      | refine LeO.bind ?_ (fun _ => ?_)
    · intro y0 y1 y2 y3 y4 y5 y6
      unfold laws_FnRulLess.l1
      repeat' first
      | (with_reducible exact ih0 _ _ _ _ _ _ _)
      | (with_reducible exact ih1 _ _ _ _ _ _ _)
      | (with_reducible exact ih2 _ _ _ _ _ _ _)
      | (with_reducible exact ih3 _ _ _ _ _ _ _ _ _ _ _ _ _ _ _)
      | (with_reducible exact ih4 _ _ _ _ _ _ _ _ _ _ _ _ _ _ _ _)
      | (with_reducible exact spec_DrawRulMay.mono _ _)
      | (with_reducible exact spec_RulMay.mono _ _ _ _ _ _)
      | (with_reducible exact LeO.refl _)
      | (with_reducible exact LeO.none _)
      | (with_reducible refine LeO.ite ?_ ?_)
      | (with_reducible refine LeO.bind ?_ (fun _ => ?_))
      | exact ih0 _ _ _ _ _ _ _
      | exact ih1 _ _ _ _ _ _ _
      | exact ih2 _ _ _ _ _ _ _
      | exact ih3 _ _ _ _ _ _ _ _ _ _ _ _ _ _ _
      | exact ih4 _ _ _ _ _ _ _ _ _ _ _ _ _ _ _ _
      | exact spec_DrawRulMay.mono _ _
      | exact spec_RulMay.mono _ _ _ _ _ _
      | exact LeO.none _
      | refine LeO.ite ?_ ?_
      | refine LeO.bind ?_ (fun _ => ?_)
    · intro y0 y1 y2 y3 y4 y5 y6 y7 y8 y9 y10 y11 y12 y13 y14
      unfold laws_FnRulLess.j3
      repeat' first
      | (with_reducible exact ih0 _ _ _ _ _ _ _)
      | (with_reducible exact ih1 _ _ _ _ _ _ _)
      | (with_reducible exact ih2 _ _ _ _ _ _ _)
      | (with_reducible exact ih3 _ _ _ _ _ _ _ _ _ _ _ _ _ _ _)
      | (with_reducible exact ih4 _ _ _ _ _ _ _ _ _ _ _ _ _ _ _ _)
      | (with_reducible exact spec_DrawRulMay.mono _ _)
      | (with_reducible exact spec_RulMay.mono _ _ _ _ _ _)
      | (with_reducible exact LeO.refl _)
      | (with_reducible exact LeO.none _)
      | (with_reducible refine LeO.ite ?_ ?_)
      | (with_reducible refine LeO.bind ?_ (fun _ => ?_))
      | exact ih0 _ _ _ _ _ _ _
      | exact ih1 _ _ _ _ _ _ _
      | exact ih2 _ _ _ _ _ _ _
      | exact ih3 _ _ _ _ _ _ _ _ _ _ _ _ _ _ _
      | exact ih4 _ _ _ _ _ _ _ _ _ _ _ _ _ _ _ _
      | exact spec_DrawRulMay.mono _ _
      | exact spec_RulMay.mono _ _ _ _ _ _
      | exact LeO.none _
      | refine LeO.ite ?_ ?_
      | refine LeO.bind ?_ (fun _ => ?_)
    · intro y0 y1 y2 y3 y4 y5 y6 y7 y8 y9 y10 y11 y12 y13 y14 y15
      unfold laws_FnRulLess.j4
      repeat' first
      | (with_reducible exact ih0 _ _ _ _ _ _ _)
      | (with_reducible exact ih1 _ _ _ _ _ _ _)
      | (with_reducible exact ih2 _ _ _ _ _ _ _)
      | (with_reducible exact ih3 _ _ _ _ _ _ _ _ _ _ _ _ _ _ _)
      | (with_reducible exact ih4 _ _ _ _ _ _ _ _ _ _ _ _ _ _ _ _)
      | (with_reducible exact spec_DrawRulMay.mono _ _)
      | (with_reducible exact spec_RulMay.mono _ _ _ _ _ _)
      | (with_reducible exact LeO.refl _)
      | (with_reducible exact LeO.none _)
      | (with_reducible refine LeO.ite ?_ ?_)
      | (with_reducible refine LeO.bind ?_ (fun _ => ?_))
      | exact ih0 _ _ _ _ _ _ _
      | exact ih1 _ _ _ _ _ _ _
      | exact ih2 _ _ _ _ _ _ _
      | exact ih3 _ _ _ _ _ _ _ _ _ _ _ _ _ _ _
      | exact ih4 _ _ _ _ _ _ _ _ _ _ _ _ _ _ _ _
      | exact spec_DrawRulMay.mono _ _
      | exact spec_RulMay.mono _ _ _ _ _ _
      | exact LeO.none _
      | refine LeO.ite ?_ ?_
      | refine LeO.bind ?_ (fun _ => ?_)
theorem laws_FnRulLess.mono : ∀ a0 k, LeO (laws_FnRulLess.f k a0) (laws_FnRulLess.f (k + 1) a0) := by
  intro a0 k
  obtain ⟨ih0, ih1, ih2, ih3, ih4⟩ := laws_FnRulLess.mono_l k
  unfold laws_FnRulLess.f
  repeat' first
      | (with_reducible exact ih0 _ _ _ _ _ _ _)
      | (with_reducible exact ih1 _ _ _ _ _ _ _)
      | (with_reducible exact ih2 _ _ _ _ _ _ _)
      | (with_reducible exact ih3 _ _ _ _ _ _ _ _ _ _ _ _ _ _ _)
      | (with_reducible exact ih4 _ _ _ _ _ _ _ _ _ _ _ _ _ _ _ _)
      | (with_reducible exact spec_DrawRulMay.mono _ _)
      | (with_reducible exact spec_RulMay.mono _ _ _ _ _ _)
      | (with_reducible exact LeO.refl _)
      | (with_reducible exact LeO.none _)
      | (with_reducible refine LeO.ite ?_ ?_)
      | (with_reducible refine LeO.bind ?_ (fun _ => ?_))
      | exact ih0 _ _ _ _ _ _ _
      | exact ih1 _ _ _ _ _ _ _
      | exact ih2 _ _ _ _ _ _ _
      | exact ih3 _ _ _ _ _ _ _ _ _ _ _ _ _ _ _
      | exact ih4 _ _ _ _ _ _ _ _ _ _ _ _ _ _ _ _
      | exact spec_DrawRulMay.mono _ _
      | exact spec_RulMay.mono _ _ _ _ _ _
      | exact LeO.none _
      | refine LeO.ite ?_ ?_
      | refine LeO.bind ?_ (fun _ => ?_)
def laws_FnRulLess.T19 : Bool × List (List Nat × List Nat) := (true, [([], []), ([], []), ([], []), ([1, 2], [1, 2]), ([0, 3], [0, 3]), ([], []), ([], []), ([6], [6]), ([5, 7], [5, 7]), ([4, 8, 4], [4, 8]), ([9, 9, 0, 1, 2, 3, 4, 5, 6, 7, 8, 9], [9])])
def laws_FnRulLess.B19 : List Nat := [0, 0, 0, 6, 15, 0, 0, 64, 224, 511, 1023]
theorem laws_FnRulLess.tab19 : rtab .any (opsOf Try.f5 19) = laws_FnRulLess.T19 := by kernel_rfl
theorem laws_FnRulLess.bits19 : waitsOk laws_FnRulLess.T19.2 laws_FnRulLess.B19 = true := by kernel_rfl
def laws_FnRulLess.T23 : Bool × List (List Nat × List Nat) := (true, [([], []), ([], []), ([1], [1]), ([0, 2], [0, 2]), ([], []), ([], []), ([3, 4, 5], [3, 4, 5]), ([], []), ([6, 7], [6, 7]), ([8, 6], [8]), ([9], [9]), ([9], [9]), ([11, 9], [9, 11]), ([10, 12, 9], [9, 10, 12]), ([9, 13], [9, 13]), ([14, 9, 0, 1, 2, 3, 4, 5, 6, 7, 8, 9, 10, 11, 12, 13, 14], [14])])
def laws_FnRulLess.B23 : List Nat := [0, 0, 2, 7, 0, 0, 63, 0, 255, 511, 1023, 1023, 3071, 8191, 16383, 32767]
theorem laws_FnRulLess.tab23 : rtab .any (opsOf Try.f5 23) = laws_FnRulLess.T23 := by kernel_rfl
theorem laws_FnRulLess.bits23 : waitsOk laws_FnRulLess.T23.2 laws_FnRulLess.B23 = true := by kernel_rfl
set_option maxHeartbeats 8000000 in
set_option maxRecDepth 100000 in
theorem laws_FnRulLess.calls (k : Nat) (A0 : Option Addr) (c0 : Nat) (l0 : List Int) (r : Bool) (w : World) (hr0 : Kd.C (Kd.int .u8) w A0 l0.length l0) (hc0 : l0.length ≤ c0) (h : laws_FnRulLess.f k l0 = some r) (hrt : Aside0 (r = true)) :
    Calls Try.prog 5 #[.slice A0 l0.length c0] w fun e w' => e = .returned (.bool r) ∧ Below w.heap.size w w' := by
  have hu29 := Try.underlying29
  have hu24 := Try.underlying24
  have HR0 := Aside0.mk hr0
  have HC0 := Aside0.mk hc0
  clear hr0 hc0
  have HB := Aside0.mk (Below.refl w.heap.size w)
  have H : (if (l0.length : Int) > 1048576 then (some true) else ((spec_DrawRulMay.f k l0).bind fun bt411 => ((impl_RulMay.f bt411.1 bt411.2.1 bt411.2.2.1 bt411.2.2.2.1 bt411.2.2.2.2).bind fun t420 => ((spec_RulMay.f k bt411.1 bt411.2.1 bt411.2.2.1 bt411.2.2.2.1 bt411.2.2.2.2).bind fun t421 => (if (t420 != t421) = true then (some false) else (laws_FnRulLess.l0 k bt411.1 t420 0 bt411.2.1 bt411.2.2.1 bt411.2.2.2.1 bt411.2.2.2.2)))))) = some r := h
  clear h
  by_cases c2 : (l0.length : Int) > 1048576
  · rw [if_pos c2] at H
    have c2b0 : decide (1048576 < (l0.length : Int)) = true := decide_eq_true c2
    have c2b1 : decide (1048576 < l0.length) = true := decide_eq_true (by omega)
    clear c2
    obtain rfl := Option.some.inj H
    go_enter Try.func5, Try.ntmps5
    go_wp2
    go_ret
    exact ⟨by first | rfl | (simp [errW_none, errW_some] <;> rfl) | (simp [*, errW_none, errW_some] <;> rfl), by repeat (first | (with_reducible first | exact HB.out | apply below_alloc | apply pw_below_drewN | apply below_drew1) | exact HB.out)⟩
  · rw [if_neg c2] at H
    have c2b0 : decide (1048576 < (l0.length : Int)) = false := decide_eq_false c2
    have c2b1 : decide (1048576 < l0.length) = false := decide_eq_false (by omega)
    clear c2
    replace H := Option.bind_eq_some_iff.mp H
    obtain ⟨⟨t411, t414, t415, t416, t417⟩, A30, H⟩ := H
    replace H : ((impl_RulMay.f t411 t414 t415 t416 t417).bind fun t420 => ((spec_RulMay.f k t411 t414 t415 t416 t417).bind fun t421 => (if (t420 != t421) = true then (some false) else (laws_FnRulLess.l0 k t411 t420 0 t414 t415 t416 t417)))) = some r := H
    have A3 := Aside0.mk A30
    clear A30
    replace H := Option.bind_eq_some_iff.mp H
    obtain ⟨t420, A40, H⟩ := H
    replace H : ((spec_RulMay.f k t411 t414 t415 t416 t417).bind fun t421 => (if (t420 != t421) = true then (some false) else (laws_FnRulLess.l0 k t411 t420 0 t414 t415 t416 t417))) = some r := H
    have A4 := Aside0.mk A40
    clear A40
    replace H := Option.bind_eq_some_iff.mp H
    obtain ⟨t421, A50, H⟩ := H
    replace H : (if (t420 != t421) = true then (some false) else (laws_FnRulLess.l0 k t411 t420 0 t414 t415 t416 t417)) = some r := H
    have A5 := Aside0.mk A50
    clear A50
    by_cases c6 : (t420 != t421) = true
    · rw [if_pos c6] at H
      have c6b0 : (t420 != t421) = true := c6
      (try (have c6b1 : decide (t420 = t421) = false := by simpa using c6))
      (try (have c6b2 : (t420 == t421) = false := by simpa using c6))
      (try (have c6b3 : ¬ (t420 = t421) := by simpa using c6))
      clear c6
      exact absurd ((Option.some.inj H).trans hrt.out) (by decide)
    · rw [if_neg c6] at H
      have c6b0 : (t420 != t421) = false := by simpa using c6
      (try (have c6b1 : decide (t420 = t421) = true := by simpa using c6))
      (try (have c6b2 : (t420 == t421) = true := by simpa using c6))
      clear c6
      have H' := Aside0.mk H
      clear H
      go_enter Try.func5, Try.ntmps5
      go_wp2_with (first | ((with_reducible refine gate_callee (f := 21) rfl ?_); refine goesL_ (some 17) rfl rfl Try.func21 (by kernel_rfl) rfl #[.slice A0 l0.length c0] rfl (by (try simp only [List.map_toArray, List.map_cons, List.map_nil]); first | done | rfl | (simp only [List.length_drop, List.length_take]; rfl)) ?_; (with_reducible refine (spec_DrawRulMay.calls k _ _ l0 t411 t414 t415 t416 t417 _ ?side1 ?side2 A3.out).mono ?_); (case side1 => repeat (first | exact HR0.out | (with_reducible refine Kd.C_alloc ?_ _) | (with_reducible refine Kd.C_drewN ?_ _) | (with_reducible refine Kd.C_drew ?_))); (case side2 => exact HC0.out); rintro e w7 ⟨v412, rfl, ho0, hb⟩; refine ⟨_, rfl, ?_⟩; have n0_ := Aside0.mk (Kd.R_lower ho0 (below_size (bl HB))); have n1_ := Aside0.mk (below_step (bl HB) hb); clear HB; have HO413 := n0_; have HB := n1_; clear n0_ n1_; (try clear hb); (try clear hb2); (try clear hk); (try clear hi); (try clear ho0)) | ((with_reducible refine gate_dst (N := 4) rfl ?_); (try (refine gate_guard (by rfl) ?_; dsimp only)); refine box_event ?hg (N := 4) ?hd (cs := #[.int .i64 0, .int .i64 0]) (t := 29) ?hr ?_; (case hd => rfl); (case hg => rfl); (case hr => first | (go_simp; done) | (go_simp; rfl)); intro gb418 hg w8 hbox hb; have n0_ := Aside0.mk (Kd.R_below (rs HO413) hb); have n1_ := Aside0.mk (below_step (bl HB) hb); have n2_ := Aside0.mk (hbox); have n3_ := Aside0.mk ((by rw [hg]; exact (below_size (bl HB)) : w.heap.size ≤ gb418)); have n4_ := Aside0.mk ((by rw [hg]; exact (below_size (bl HB)) : w.heap.size ≤ gb418)); clear HO413; clear HB; have HO413 := n0_; have HB := n1_; have BK418 := n2_; have GW418 := n3_; have GE418 := n4_; clear n0_ n1_ n2_ n3_ n4_; clear hb hbox hg) | ((with_reducible refine gate_dst (N := 5) rfl ?_); (try (refine gate_guard (by rfl) ?_; dsimp only)); refine box_event ?hg (N := 5) ?hd (cs := #[.int .i64 0, .int .i64 0]) (t := 29) ?hr ?_; (case hd => rfl); (case hg => rfl); (case hr => first | (go_simp; done) | (go_simp; rfl)); intro gb419 hg w9 hbox hb; have n0_ := Aside0.mk (Kd.R_below (rs HO413) hb); have n1_ := bkB BK418 hb; have n2_ := Aside0.mk (below_step (bl HB) hb); have n3_ := Aside0.mk (hbox); have n4_ := Aside0.mk ((by rw [hg]; exact (below_size (bl HB)) : w.heap.size ≤ gb419)); have n5_ := Aside0.mk ((by rw [hg]; exact (below_size (bl HB)) : w.heap.size ≤ gb419)); have n6_ := Aside0.mk ((by rw [hg]; exact Nat.ne_of_lt (bkL BK418) : gb418 ≠ gb419)); have n7_ := Aside0.mk ((by rw [hg]; exact Nat.ne_of_gt (bkL BK418) : gb419 ≠ gb418)); clear HO413; clear BK418; clear HB; have HO413 := n0_; have BK418 := n1_; have HB := n2_; have BK419 := n3_; have GW419 := n4_; have GE419 := n5_; have NB418_419 := n6_; have NB419_418 := n7_; clear n0_ n1_ n2_ n3_ n4_ n5_ n6_ n7_; clear hb hbox hg; have hnb10 := NB418_419.out; have hnc10 := NB419_418.out; have hcz11_0 : w9.cell? ⟨gb418, 0, none⟩ = some (.int .i64 0) := (blk_cell BK418.out 0).trans rfl; have hcz11_1 : w9.cell? ⟨gb418, 1, none⟩ = some (.int .i64 0) := (blk_cell BK418.out 1).trans rfl; have hfz11_0 := blk_frozen BK418.out 0; have hfz11_1 := blk_frozen BK418.out 1; have hcz12_0 : w9.cell? ⟨gb419, 0, none⟩ = some (.int .i64 0) := (blk_cell BK419.out 0).trans rfl; have hcz12_1 : w9.cell? ⟨gb419, 1, none⟩ = some (.int .i64 0) := (blk_cell BK419.out 1).trans rfl; have hfz12_0 := blk_frozen BK419.out 0; have hfz12_1 := blk_frozen BK419.out 1; obtain ⟨Ao13, co13, eo13⟩ := Kd.R_slice HO413.out; subst eo13) | ((with_reducible refine gate_callee (f := 15) rfl ?_); refine goesL_ (some 24) rfl rfl Try.func15 (by kernel_rfl) rfl #[.slice Ao13 t411.length co13, .agg #[.int .i64 t414, .int .i64 t415], .agg #[.int .i64 t416, .int .i64 t417]] rfl (by (try simp only [List.map_toArray, List.map_cons, List.map_nil]); first | done | rfl | (simp only [List.length_drop, List.length_take]; rfl)) ?_; (with_reducible refine (impl_RulMay.calls _ _ t411 t414 t415 t416 t417 t420 _ ?side1 ?side2 A4.out).mono ?_); (case side1 => refine (Kd.R_reads' (e := 24) (base := w.heap.size) (ok := fun k_ => True) (n := t411.length) (c := co13) ?_).2.2; exact (by (with_reducible repeat apply ru); exact (Kd.R_mono (Kd.R_mono (Kd.R_far (p := ⟨gb419, 1, none⟩) (Kd.R_far (p := ⟨gb419, 0, none⟩) (Kd.R_far (p := ⟨gb418, 1, none⟩) (Kd.R_far (p := ⟨gb418, 0, none⟩) (Kd.R_types (Kd.R_types HO413.out BK418.out (by decide)) BK419.out (by decide)) (fun _ hk => hk.1.2) (.int .i64 t414)) (fun _ hk => hk.1.2) (.int .i64 t415)) (fun _ hk => hk.2) (.int .i64 t416)) (fun _ hk => hk.2) (.int .i64 t417)) (fun _ h_ => h_.1)) (fun _ h_ => h_.1)))); (case side2 => exact (Kd.R_reads' HO413.out).2.1); rintro e w14 ⟨rfl, hb⟩; refine ⟨_, rfl, ?_⟩; have n0_ := Aside0.mk (Kd.R_below (by (with_reducible repeat apply ru); exact (Kd.R_mono (Kd.R_mono (Kd.R_far (p := ⟨gb419, 1, none⟩) (Kd.R_far (p := ⟨gb419, 0, none⟩) (Kd.R_far (p := ⟨gb418, 1, none⟩) (Kd.R_far (p := ⟨gb418, 0, none⟩) (Kd.R_types (Kd.R_types HO413.out BK418.out (by decide)) BK419.out (by decide)) (fun _ hk => hk.1.2) (.int .i64 t414)) (fun _ hk => hk.1.2) (.int .i64 t415)) (fun _ hk => hk.2) (.int .i64 t416)) (fun _ hk => hk.2) (.int .i64 t417)) (fun _ h_ => h_.1)) (fun _ h_ => h_.1))) hb); have n1_ := Aside0.mk (blk_below (g := gb418) (o := .cells #[.int .i64 t414, .int .i64 t415] 29 (0, 0)) (by (with_reducible repeat refine bu ?_); refine blk_far ?_ NB418_419.out _; (with_reducible repeat refine bu ?_); refine blk_far ?_ NB418_419.out _; (with_reducible repeat refine bu ?_); refine blk_put (cs := #[.int .i64 t414, .int .i64 0]) ?_ 1 _ rfl; (with_reducible repeat refine bu ?_); refine blk_put (cs := #[.int .i64 0, .int .i64 0]) ?_ 0 _ rfl; (with_reducible repeat refine bu ?_); exact BK418.out) hb); have n2_ := Aside0.mk (blk_below (g := gb419) (o := .cells #[.int .i64 t416, .int .i64 t417] 29 (0, 0)) (by (with_reducible repeat refine bu ?_); refine blk_put (cs := #[.int .i64 t416, .int .i64 0]) ?_ 1 _ rfl; (with_reducible repeat refine bu ?_); refine blk_put (cs := #[.int .i64 0, .int .i64 0]) ?_ 0 _ rfl; (with_reducible repeat refine bu ?_); refine blk_far ?_ NB419_418.out _; (with_reducible repeat refine bu ?_); refine blk_far ?_ NB419_418.out _; (with_reducible repeat refine bu ?_); exact BK419.out) hb); have n3_ := Aside0.mk (below_step (bl HB) hb); clear HO413; clear BK418; clear BK419; clear HB; have HO413 := n0_; have BK418 := n1_; have BK419 := n2_; have HB := n3_; clear n0_ n1_ n2_ n3_; (try clear hb); (try clear hb2); (try clear hk); (try clear hi); have hcz15_0 : w14.cell? ⟨gb418, 0, none⟩ = some (.int .i64 t414) := (blk_cell BK418.out 0).trans rfl; have hcz15_1 : w14.cell? ⟨gb418, 1, none⟩ = some (.int .i64 t415) := (blk_cell BK418.out 1).trans rfl; have hfz15_0 := blk_frozen BK418.out 0; have hfz15_1 := blk_frozen BK418.out 1; have hcz16_0 : w14.cell? ⟨gb419, 0, none⟩ = some (.int .i64 t416) := (blk_cell BK419.out 0).trans rfl; have hcz16_1 : w14.cell? ⟨gb419, 1, none⟩ = some (.int .i64 t417) := (blk_cell BK419.out 1).trans rfl; have hfz16_0 := blk_frozen BK419.out 0; have hfz16_1 := blk_frozen BK419.out 1) | ((with_reducible refine gate_callee (f := 17) rfl ?_); refine goesL_ (some 29) rfl rfl Try.func17 (by kernel_rfl) rfl #[.slice Ao13 t411.length co13, .agg #[.int .i64 t414, .int .i64 t415], .agg #[.int .i64 t416, .int .i64 t417]] rfl (by (try simp only [List.map_toArray, List.map_cons, List.map_nil]); first | done | rfl | (simp only [List.length_drop, List.length_take]; rfl)) ?_; (with_reducible refine (spec_RulMay.calls k _ _ t411 t414 t415 t416 t417 t421 _ ?side1 ?side2 A5.out).mono ?_); (case side1 => repeat (first | exact (Kd.R_reads' HO413.out).2.2 | (with_reducible refine Kd.C_alloc ?_ _) | (with_reducible refine Kd.C_drewN ?_ _) | (with_reducible refine Kd.C_drew ?_))); (case side2 => exact (Kd.R_reads' HO413.out).2.1); rintro e w17 ⟨rfl, hb⟩; refine ⟨_, rfl, ?_⟩; have n0_ := Aside0.mk (Kd.R_below (rs HO413) hb); have n1_ := bkB BK418 hb; have n2_ := bkB BK419 hb; have n3_ := Aside0.mk (below_step (bl HB) hb); clear HO413; clear BK418; clear BK419; clear HB; have HO413 := n0_; have BK418 := n1_; have BK419 := n2_; have HB := n3_; clear n0_ n1_ n2_ n3_; (try clear hb); (try clear hb2); (try clear hk); (try clear hi)))
      go_loopg [7] k (fun kq v7 w' => ∃ (x7_1 : Int), v7 = .int .i64 x7_1 ∧ Aside0 (laws_FnRulLess.l0 kq t411 t420 x7_1 t414 t415 t416 t417 = some r) ∧ Aside0 (kq ≤ k) ∧ Aside0 (Kd.R k24 24 w' w.heap.size (fun _ => True) (.slice Ao13 t411.length co13) t411) ∧ Aside0 (w'.heap[gb418]? = some (.cells #[.int .i64 t414, .int .i64 t415] 29 (0, 0))) ∧ Aside0 (w'.heap[gb419]? = some (.cells #[.int .i64 t416, .int .i64 t417] 29 (0, 0))) ∧ Aside0 (Below w.heap.size w w'))
      case atStart => exact ⟨(0), (by first | rfl | (simp; done) | (simp [*]; done)), H', ⟨Nat.le_refl _⟩, ⟨by (with_reducible repeat apply ru); exact HO413.out⟩, ⟨by (with_reducible repeat refine bu ?_); exact BK418.out⟩, ⟨by (with_reducible repeat refine bu ?_); exact BK419.out⟩, ⟨by repeat (first | (with_reducible first | exact HB.out | apply below_alloc | apply pw_below_drewN | apply below_drew1 | refine below_set ?_ GE418.out | refine below_set ?_ GE419.out) | exact HB.out)⟩⟩
      case round =>
        clear H'
        try clear c1
        try clear c2
        try clear c2b0
        try clear c2b1
        try clear p2
        try clear c5
        try clear c6
        try clear c6b0
        try clear c6b1
        try clear c6b2
        try clear c10
        try clear c15
        try clear c17
        try clear hcz11_0
        try clear hcz11_1
        try clear hcz12_0
        try clear hcz12_1
        try clear hcz15_0
        try clear hcz15_1
        try clear hcz16_0
        try clear hcz16_1
        try clear hfz11_0
        try clear hfz11_1
        try clear hfz12_0
        try clear hfz12_1
        try clear hfz15_0
        try clear hfz15_1
        try clear hfz16_0
        try clear hfz16_1
        obtain ⟨x7_1, rfl, HA, HK1, HO_3, BK418, BK419, HB⟩ := hrel
        cases gk with
        | zero => exact absurd HA.out (by simp [laws_FnRulLess.l0])
        | succ k1 =>
          have H := HA.out
          clear HA
          simp only [laws_FnRulLess.l0] at H
          by_cases c18 : x7_1 < (t411.length : Int)
          · rw [if_pos c18] at H
            have c18b0 : decide (x7_1 < (t411.length : Int)) = true := decide_eq_true c18
            clear c18
            by_cases c19 : 0 ≤ x7_1
            · rw [if_pos c19] at H
              have c19b0 : decide (0 ≤ x7_1) = true := decide_eq_true c19
              clear c19
              replace H := Option.bind_eq_some_iff.mp H
              obtain ⟨t423, A200, H⟩ := H
              replace H : (if t423 = true then (if (t411.length : Int) > 5 then ((laws_haOk.f).bind fun t424 => (some t424)) else (laws_FnRulLess.l0 k1 t411 t420 (wrap64 (x7_1 + 1)) t414 t415 t416 t417)) else ((laws_haOk.f).bind fun t425 => (some t425))) = some r := H
              have A20 := Aside0.mk A200
              clear A200
              by_cases c21 : t423 = true
              · subst c21
                have H1 : (if (t411.length : Int) > 5 then ((laws_haOk.f).bind fun t424 => (some t424)) else (laws_FnRulLess.l0 k1 t411 t420 (wrap64 (x7_1 + 1)) t414 t415 t416 t417)) = some r := by rw [if_pos rfl] at H; exact H
                clear H
                have H := H1
                clear H1
                by_cases c22 : (t411.length : Int) > 5
                · rw [if_pos c22] at H
                  have c22b0 : decide (5 < (t411.length : Int)) = true := decide_eq_true c22
                  have c22b1 : decide (5 < t411.length) = true := decide_eq_true (by omega)
                  clear c22
                  replace H := Option.bind_eq_some_iff.mp H
                  obtain ⟨t424, A230, H⟩ := H
                  replace H : (some t424) = some r := H
                  have A23 := Aside0.mk A230
                  clear A230
                  obtain rfl := Option.some.inj H
                  have p422 : 0 ≤ (x7_1 : Int) := of_decide_eq_true (by first | (with_reducible assumption) | assumption)
                  have q422 : x7_1 < (t411.length : Int) := of_decide_eq_true (by first | (with_reducible assumption) | assumption)
                  obtain ⟨ad422, e422, hx422_0, hx422_1, hx422_2, hx422_3, hx422_4, hx422_5, hx422_6⟩ := at_T24 (Kd.R_reads' HO_3.out).2.2 x7_1 p422 q422
                  cases e422
                  replace p422 := eq_true p422
                  replace q422 := eq_true q422
                  go_wp2_with (first | ((with_reducible refine gate_callee (f := 13) rfl ?_); refine goesL_ (some 41) rfl rfl Try.func13 (by kernel_rfl) rfl #[.agg #[.bool ((rd_T24 t411 x7_1).f0), .int .i64 ((rd_T24 t411 x7_1).f1), .int .i64 ((rd_T24 t411 x7_1).f2), .int .i64 ((rd_T24 t411 x7_1).f3), .int .i64 ((rd_T24 t411 x7_1).f4), .int .i64 ((rd_T24 t411 x7_1).f5), .int .i64 ((rd_T24 t411 x7_1).f6)]] rfl (by (try simp only [List.map_toArray, List.map_cons, List.map_nil]); first | done | rfl | (simp only [List.length_drop, List.length_take]; rfl)) ?_; (with_reducible refine (spec_RulOk.calls ((rd_T24 t411 x7_1).f0) ((rd_T24 t411 x7_1).f1) ((rd_T24 t411 x7_1).f2) ((rd_T24 t411 x7_1).f3) ((rd_T24 t411 x7_1).f4) ((rd_T24 t411 x7_1).f5) ((rd_T24 t411 x7_1).f6) true _ A20.out).mono ?_); rintro e w24 ⟨rfl, hb⟩; refine ⟨_, rfl, ?_⟩; have n0_ := Aside0.mk (Kd.R_below (rs HO_3) hb); have n1_ := bkB BK418 hb; have n2_ := bkB BK419 hb; have n3_ := Aside0.mk (below_step (bl HB) hb); clear HO_3; clear BK418; clear BK419; clear HB; have HO_3 := n0_; have BK418 := n1_; have BK419 := n2_; have HB := n3_; clear n0_ n1_ n2_ n3_; (try clear hb); (try clear hb2); (try clear hk); (try clear hi)) | ((with_reducible refine gate_callee (f := 14) rfl ?_); refine goesL_ (some 48) rfl rfl Try.func14 (by kernel_rfl) rfl #[] rfl (by (try simp only [List.map_toArray, List.map_cons, List.map_nil]); first | done | rfl | (simp only [List.length_drop, List.length_take]; rfl)) ?_; (with_reducible refine (laws_haOk.calls  t424 _ A23.out).mono ?_); rintro e w25 ⟨rfl, hb⟩; refine ⟨_, rfl, ?_⟩; have n0_ := Aside0.mk (Kd.R_below (rs HO_3) hb); have n1_ := bkB BK418 hb; have n2_ := bkB BK419 hb; have n3_ := Aside0.mk (below_step (bl HB) hb); clear HO_3; clear BK418; clear BK419; clear HB; have HO_3 := n0_; have BK418 := n1_; have BK419 := n2_; have HB := n3_; clear n0_ n1_ n2_ n3_; (try clear hb); (try clear hb2); (try clear hk); (try clear hi)))
                  go_ret
                  exact ⟨by first | rfl | (simp [errW_none, errW_some] <;> rfl) | (simp [*, errW_none, errW_some] <;> rfl), by repeat (first | (with_reducible first | exact HB.out | apply below_alloc | apply pw_below_drewN | apply below_drew1 | refine below_set ?_ GE418.out | refine below_set ?_ GE419.out) | exact HB.out)⟩
                · rw [if_neg c22] at H
                  have c22b0 : decide (5 < (t411.length : Int)) = false := decide_eq_false c22
                  have c22b1 : decide (5 < t411.length) = false := decide_eq_false (by omega)
                  clear c22
                  have H' := Aside0.mk H
                  clear H
                  have p422 : 0 ≤ (x7_1 : Int) := of_decide_eq_true (by first | (with_reducible assumption) | assumption)
                  have q422 : x7_1 < (t411.length : Int) := of_decide_eq_true (by first | (with_reducible assumption) | assumption)
                  obtain ⟨ad422, e422, hx422_0, hx422_1, hx422_2, hx422_3, hx422_4, hx422_5, hx422_6⟩ := at_T24 (Kd.R_reads' HO_3.out).2.2 x7_1 p422 q422
                  cases e422
                  replace p422 := eq_true p422
                  replace q422 := eq_true q422
                  go_wp2_with (first | ((with_reducible refine gate_callee (f := 13) rfl ?_); refine goesL_ (some 41) rfl rfl Try.func13 (by kernel_rfl) rfl #[.agg #[.bool ((rd_T24 t411 x7_1).f0), .int .i64 ((rd_T24 t411 x7_1).f1), .int .i64 ((rd_T24 t411 x7_1).f2), .int .i64 ((rd_T24 t411 x7_1).f3), .int .i64 ((rd_T24 t411 x7_1).f4), .int .i64 ((rd_T24 t411 x7_1).f5), .int .i64 ((rd_T24 t411 x7_1).f6)]] rfl (by (try simp only [List.map_toArray, List.map_cons, List.map_nil]); first | done | rfl | (simp only [List.length_drop, List.length_take]; rfl)) ?_; (with_reducible refine (spec_RulOk.calls ((rd_T24 t411 x7_1).f0) ((rd_T24 t411 x7_1).f1) ((rd_T24 t411 x7_1).f2) ((rd_T24 t411 x7_1).f3) ((rd_T24 t411 x7_1).f4) ((rd_T24 t411 x7_1).f5) ((rd_T24 t411 x7_1).f6) true _ A20.out).mono ?_); rintro e w26 ⟨rfl, hb⟩; refine ⟨_, rfl, ?_⟩; have n0_ := Aside0.mk (Kd.R_below (rs HO_3) hb); have n1_ := bkB BK418 hb; have n2_ := bkB BK419 hb; have n3_ := Aside0.mk (below_step (bl HB) hb); clear HO_3; clear BK418; clear BK419; clear HB; have HO_3 := n0_; have BK418 := n1_; have BK419 := n2_; have HB := n3_; clear n0_ n1_ n2_ n3_; (try clear hb); (try clear hb2); (try clear hk); (try clear hi)))
                  go_roundg k1
                  case measure => have := HK1.out; omega
                  case rel => exact ⟨(wrap64 (x7_1 + 1)), (by first | rfl | (simp; done) | (simp [*]; done)), H', ⟨by have := HK1.out; omega⟩, ⟨by (with_reducible repeat apply ru); exact HO_3.out⟩, ⟨by (with_reducible repeat refine bu ?_); exact BK418.out⟩, ⟨by (with_reducible repeat refine bu ?_); exact BK419.out⟩, ⟨by repeat (first | (with_reducible first | exact HB.out | apply below_alloc | apply pw_below_drewN | apply below_drew1 | refine below_set ?_ GE418.out | refine below_set ?_ GE419.out) | exact HB.out)⟩⟩
              · replace c21 := Bool.eq_false_iff.mpr c21
                subst c21
                have H1 : ((laws_haOk.f).bind fun t425 => (some t425)) = some r := by rw [if_neg (show ¬ (false = true) by decide)] at H; exact H
                clear H
                have H := H1
                clear H1
                replace H := Option.bind_eq_some_iff.mp H
                obtain ⟨t425, A270, H⟩ := H
                replace H : (some t425) = some r := H
                have A27 := Aside0.mk A270
                clear A270
                obtain rfl := Option.some.inj H
                have p422 : 0 ≤ (x7_1 : Int) := of_decide_eq_true (by first | (with_reducible assumption) | assumption)
                have q422 : x7_1 < (t411.length : Int) := of_decide_eq_true (by first | (with_reducible assumption) | assumption)
                obtain ⟨ad422, e422, hx422_0, hx422_1, hx422_2, hx422_3, hx422_4, hx422_5, hx422_6⟩ := at_T24 (Kd.R_reads' HO_3.out).2.2 x7_1 p422 q422
                cases e422
                replace p422 := eq_true p422
                replace q422 := eq_true q422
                go_wp2_with (first | ((with_reducible refine gate_callee (f := 13) rfl ?_); refine goesL_ (some 41) rfl rfl Try.func13 (by kernel_rfl) rfl #[.agg #[.bool ((rd_T24 t411 x7_1).f0), .int .i64 ((rd_T24 t411 x7_1).f1), .int .i64 ((rd_T24 t411 x7_1).f2), .int .i64 ((rd_T24 t411 x7_1).f3), .int .i64 ((rd_T24 t411 x7_1).f4), .int .i64 ((rd_T24 t411 x7_1).f5), .int .i64 ((rd_T24 t411 x7_1).f6)]] rfl (by (try simp only [List.map_toArray, List.map_cons, List.map_nil]); first | done | rfl | (simp only [List.length_drop, List.length_take]; rfl)) ?_; (with_reducible refine (spec_RulOk.calls ((rd_T24 t411 x7_1).f0) ((rd_T24 t411 x7_1).f1) ((rd_T24 t411 x7_1).f2) ((rd_T24 t411 x7_1).f3) ((rd_T24 t411 x7_1).f4) ((rd_T24 t411 x7_1).f5) ((rd_T24 t411 x7_1).f6) false _ A20.out).mono ?_); rintro e w28 ⟨rfl, hb⟩; refine ⟨_, rfl, ?_⟩; have n0_ := Aside0.mk (Kd.R_below (rs HO_3) hb); have n1_ := bkB BK418 hb; have n2_ := bkB BK419 hb; have n3_ := Aside0.mk (below_step (bl HB) hb); clear HO_3; clear BK418; clear BK419; clear HB; have HO_3 := n0_; have BK418 := n1_; have BK419 := n2_; have HB := n3_; clear n0_ n1_ n2_ n3_; (try clear hb); (try clear hb2); (try clear hk); (try clear hi)) | ((with_reducible refine gate_callee (f := 14) rfl ?_); refine goesL_ (some 48) rfl rfl Try.func14 (by kernel_rfl) rfl #[] rfl (by (try simp only [List.map_toArray, List.map_cons, List.map_nil]); first | done | rfl | (simp only [List.length_drop, List.length_take]; rfl)) ?_; (with_reducible refine (laws_haOk.calls  t425 _ A27.out).mono ?_); rintro e w29 ⟨rfl, hb⟩; refine ⟨_, rfl, ?_⟩; have n0_ := Aside0.mk (Kd.R_below (rs HO_3) hb); have n1_ := bkB BK418 hb; have n2_ := bkB BK419 hb; have n3_ := Aside0.mk (below_step (bl HB) hb); clear HO_3; clear BK418; clear BK419; clear HB; have HO_3 := n0_; have BK418 := n1_; have BK419 := n2_; have HB := n3_; clear n0_ n1_ n2_ n3_; (try clear hb); (try clear hb2); (try clear hk); (try clear hi)))
                go_ret
                exact ⟨by first | rfl | (simp [errW_none, errW_some] <;> rfl) | (simp [*, errW_none, errW_some] <;> rfl), by repeat (first | (with_reducible first | exact HB.out | apply below_alloc | apply pw_below_drewN | apply below_drew1 | refine below_set ?_ GE418.out | refine below_set ?_ GE419.out) | exact HB.out)⟩
            · rw [if_neg c19] at H
              exact absurd H (by simp)
          · rw [if_neg c18] at H
            have c18b0 : decide (x7_1 < (t411.length : Int)) = false := decide_eq_false c18
            clear c18
            have HC30 := Aside0.mk H
            clear H
            go_upto_region 12 with (fail)
            go_cut [56] (fun v56 wc => ∃ (kq : Nat) (x56_29 : Bool), v56 = .bool x56_29 ∧ Aside0 (laws_FnRulLess.j1 kq t411 t420 x56_29 t414 t415 t416 t417 = some r) ∧ Aside0 (kq ≤ k1) ∧ Aside0 (Kd.R k24 24 wc w.heap.size (fun _ => True) (.slice Ao13 t411.length co13) t411) ∧ Aside0 (wc.heap[gb418]? = some (.cells #[.int .i64 t414, .int .i64 t415] 29 (0, 0))) ∧ Aside0 (wc.heap[gb419]? = some (.cells #[.int .i64 t416, .int .i64 t417] 29 (0, 0))) ∧ Aside0 (Below w.heap.size w wc))
            case first =>
              have H := HC30.out
              clear HC30
              replace H := Option.bind_eq_some_iff.mp H
              obtain ⟨t426, A310, H⟩ := H
              replace H : (if t426 = true then ((spec_EndOutside.f t416 t417).bind fun t427 => (laws_FnRulLess.j1 k1 t411 t420 (!t427) t414 t415 t416 t417)) else (laws_FnRulLess.j1 k1 t411 t420 true t414 t415 t416 t417)) = some r := H
              have A31 := Aside0.mk A310
              clear A310
              by_cases c32 : t426 = true
              · subst c32
                have H1 : ((spec_EndOutside.f t416 t417).bind fun t427 => (laws_FnRulLess.j1 k1 t411 t420 (!t427) t414 t415 t416 t417)) = some r := by rw [if_pos rfl] at H; exact H
                clear H
                have H := H1
                clear H1
                replace H := Option.bind_eq_some_iff.mp H
                obtain ⟨t427, A330, H⟩ := H
                replace H : (laws_FnRulLess.j1 k1 t411 t420 (!t427) t414 t415 t416 t417) = some r := H
                have A33 := Aside0.mk A330
                clear A330
                have H' := Aside0.mk H
                clear H
                have hnb34 := NB418_419.out
                have hnc34 := NB419_418.out
                have hcz35_0 : wr.cell? ⟨gb418, 0, none⟩ = some (.int .i64 t414) := (blk_cell BK418.out 0).trans rfl
                have hcz35_1 : wr.cell? ⟨gb418, 1, none⟩ = some (.int .i64 t415) := (blk_cell BK418.out 1).trans rfl
                have hfz35_0 := blk_frozen BK418.out 0
                have hfz35_1 := blk_frozen BK418.out 1
                go_wp2_with (first | ((with_reducible refine gate_callee (f := 22) rfl ?_); refine goesL_ (some 50) rfl rfl Try.func22 (by kernel_rfl) rfl #[.agg #[.int .i64 t414, .int .i64 t415]] rfl (by (try simp only [List.map_toArray, List.map_cons, List.map_nil]); first | done | rfl | (simp only [List.length_drop, List.length_take]; rfl)) ?_; (with_reducible refine (spec_EndInside.calls t414 t415 true _ A31.out).mono ?_); rintro e w36 ⟨rfl, hb⟩; refine ⟨_, rfl, ?_⟩; have n0_ := Aside0.mk (Kd.R_below (rs HO_3) hb); have n1_ := bkB BK418 hb; have n2_ := bkB BK419 hb; have n3_ := Aside0.mk (below_step (bl HB) hb); clear HO_3; clear BK418; clear BK419; clear HB; have HO_3 := n0_; have BK418 := n1_; have BK419 := n2_; have HB := n3_; clear n0_ n1_ n2_ n3_; (try clear hb); (try clear hb2); (try clear hk); (try clear hi); have hcz37_0 : w36.cell? ⟨gb419, 0, none⟩ = some (.int .i64 t416) := (blk_cell BK419.out 0).trans rfl; have hcz37_1 : w36.cell? ⟨gb419, 1, none⟩ = some (.int .i64 t417) := (blk_cell BK419.out 1).trans rfl; have hfz37_0 := blk_frozen BK419.out 0; have hfz37_1 := blk_frozen BK419.out 1) | (go_at_call 23; (with_reducible refine (spec_EndOutside.calls t416 t417 t427 _ A33.out).mono ?_); rintro e w38 ⟨rfl, hb⟩; have n0_ := Aside0.mk (Kd.R_below (rs HO_3) hb); have n1_ := bkB BK418 hb; have n2_ := bkB BK419 hb; have n3_ := Aside0.mk (below_step (bl HB) hb); clear HO_3; clear BK418; clear BK419; clear HB; have HO_3 := n0_; have BK418 := n1_; have BK419 := n2_; have HB := n3_; clear n0_ n1_ n2_ n3_; (try clear hb); (try clear hb2); (try clear hk); (try clear hi)))
                go_meet
                case rel => exact ⟨_, (!t427), (by first | rfl | (simp; done) | (simp [*]; done)), H', ⟨by have := HK1.out; first | omega | exact Nat.le_refl _⟩, ⟨by (with_reducible repeat apply ru); exact HO_3.out⟩, ⟨by (with_reducible repeat refine bu ?_); exact BK418.out⟩, ⟨by (with_reducible repeat refine bu ?_); exact BK419.out⟩, ⟨by repeat (first | (with_reducible first | exact HB.out | apply below_alloc | apply pw_below_drewN | apply below_drew1 | refine below_set ?_ GE418.out | refine below_set ?_ GE419.out) | exact HB.out)⟩⟩
              · replace c32 := Bool.eq_false_iff.mpr c32
                subst c32
                have H1 : (laws_FnRulLess.j1 k1 t411 t420 true t414 t415 t416 t417) = some r := by rw [if_neg (show ¬ (false = true) by decide)] at H; exact H
                clear H
                have H := H1
                clear H1
                have H' := Aside0.mk H
                clear H
                have hnb39 := NB418_419.out
                have hnc39 := NB419_418.out
                have hcz40_0 : wr.cell? ⟨gb418, 0, none⟩ = some (.int .i64 t414) := (blk_cell BK418.out 0).trans rfl
                have hcz40_1 : wr.cell? ⟨gb418, 1, none⟩ = some (.int .i64 t415) := (blk_cell BK418.out 1).trans rfl
                have hfz40_0 := blk_frozen BK418.out 0
                have hfz40_1 := blk_frozen BK418.out 1
                go_wp2_with (first | ((with_reducible refine gate_callee (f := 22) rfl ?_); refine goesL_ (some 50) rfl rfl Try.func22 (by kernel_rfl) rfl #[.agg #[.int .i64 t414, .int .i64 t415]] rfl (by (try simp only [List.map_toArray, List.map_cons, List.map_nil]); first | done | rfl | (simp only [List.length_drop, List.length_take]; rfl)) ?_; (with_reducible refine (spec_EndInside.calls t414 t415 false _ A31.out).mono ?_); rintro e w41 ⟨rfl, hb⟩; refine ⟨_, rfl, ?_⟩; have n0_ := Aside0.mk (Kd.R_below (rs HO_3) hb); have n1_ := bkB BK418 hb; have n2_ := bkB BK419 hb; have n3_ := Aside0.mk (below_step (bl HB) hb); clear HO_3; clear BK418; clear BK419; clear HB; have HO_3 := n0_; have BK418 := n1_; have BK419 := n2_; have HB := n3_; clear n0_ n1_ n2_ n3_; (try clear hb); (try clear hb2); (try clear hk); (try clear hi)))
                go_meet
                case rel => exact ⟨_, (true), (by first | rfl | (simp; done) | (simp [*]; done)), H', ⟨by have := HK1.out; first | omega | exact Nat.le_refl _⟩, ⟨by (with_reducible repeat apply ru); exact HO_3.out⟩, ⟨by (with_reducible repeat refine bu ?_); exact BK418.out⟩, ⟨by (with_reducible repeat refine bu ?_); exact BK419.out⟩, ⟨by repeat (first | (with_reducible first | exact HB.out | apply below_alloc | apply pw_below_drewN | apply below_drew1 | refine below_set ?_ GE418.out | refine below_set ?_ GE419.out) | exact HB.out)⟩⟩
            case rest =>
              clear HC30
              try clear c1
              try clear c2
              try clear c2b0
              try clear c2b1
              try clear p2
              try clear c3
              try clear p4
              try clear q4
              try clear hx4
              try clear c5
              try clear c6
              try clear c6b0
              try clear c6b1
              try clear c6b2
              try clear p6
              try clear c10
              try clear c13
              try clear c14
              try clear c15
              try clear c17
              try clear c18
              try clear c18b0
              try clear c19
              try clear c19b0
              try clear c21
              try clear c22
              try clear c22b0
              try clear c22b1
              try clear c32
              try clear c34
              try clear c39
              try clear hcz11_0
              try clear hcz11_1
              try clear hcz12_0
              try clear hcz12_1
              try clear hcz15_0
              try clear hcz15_1
              try clear hcz16_0
              try clear hcz16_1
              try clear hcz35_0
              try clear hcz35_1
              try clear hcz37_0
              try clear hcz37_1
              try clear hcz40_0
              try clear hcz40_1
              try clear hfz11_0
              try clear hfz11_1
              try clear hfz12_0
              try clear hfz12_1
              try clear hfz15_0
              try clear hfz15_1
              try clear hfz16_0
              try clear hfz16_1
              try clear hfz35_0
              try clear hfz35_1
              try clear hfz37_0
              try clear hfz37_1
              try clear hfz40_0
              try clear hfz40_1
              try clear hx422_0
              try clear hx422_1
              try clear hx422_2
              try clear hx422_3
              try clear hx422_4
              try clear hx422_5
              try clear hx422_6
              try clear p2
              try clear p422
              try clear q422
              obtain ⟨kq, x56_29, rfl, HA, HJ29, HO_3, BK418, BK419, HB⟩ := hcut
              cases kq with
              | zero => exact absurd HA.out (by simp [laws_FnRulLess.j1])
              | succ kj29 =>
                have H := HA.out
                clear HA
                simp only [laws_FnRulLess.j1] at H
                by_cases c42 : x56_29 = true
                · subst c42
                  have H1 : ((laws_haOk.f).bind fun t428 => (some t428)) = some r := by rw [if_pos rfl] at H; exact H
                  clear H
                  have H := H1
                  clear H1
                  replace H := Option.bind_eq_some_iff.mp H
                  obtain ⟨t428, A430, H⟩ := H
                  replace H : (some t428) = some r := H
                  have A43 := Aside0.mk A430
                  clear A430
                  obtain rfl := Option.some.inj H
                  go_wp2_with (first | ((with_reducible refine gate_callee (f := 14) rfl ?_); refine goesL_ (some 57) rfl rfl Try.func14 (by kernel_rfl) rfl #[] rfl (by (try simp only [List.map_toArray, List.map_cons, List.map_nil]); first | done | rfl | (simp only [List.length_drop, List.length_take]; rfl)) ?_; (with_reducible refine (laws_haOk.calls  t428 _ A43.out).mono ?_); rintro e w44 ⟨rfl, hb⟩; refine ⟨_, rfl, ?_⟩; have n0_ := Aside0.mk (Kd.R_below (rs HO_3) hb); have n1_ := bkB BK418 hb; have n2_ := bkB BK419 hb; have n3_ := Aside0.mk (below_step (bl HB) hb); clear HO_3; clear BK418; clear BK419; clear HB; have HO_3 := n0_; have BK418 := n1_; have BK419 := n2_; have HB := n3_; clear n0_ n1_ n2_ n3_; (try clear hb); (try clear hb2); (try clear hk); (try clear hi)))
                  go_ret
                  exact ⟨by first | rfl | (simp [errW_none, errW_some] <;> rfl) | (simp [*, errW_none, errW_some] <;> rfl), by repeat (first | (with_reducible first | exact HB.out | apply below_alloc | apply pw_below_drewN | apply below_drew1 | refine below_set ?_ GE418.out | refine below_set ?_ GE419.out) | exact HB.out)⟩
                · replace c42 := Bool.eq_false_iff.mpr c42
                  subst c42
                  have H1 : (laws_FnRulLess.l1 kj29 t411 t420 0 t414 t415 t416 t417) = some r := by rw [if_neg (show ¬ (false = true) by decide)] at H; exact H
                  clear H
                  have H := H1
                  clear H1
                  have H' := Aside0.mk H
                  clear H
                  go_wp2
                  go_loopg [8] kj29 (fun kq v8 w' => ∃ (x8_3 : Int), v8 = .int .i64 x8_3 ∧ Aside0 (laws_FnRulLess.l1 kq t411 t420 x8_3 t414 t415 t416 t417 = some r) ∧ Aside0 (kq ≤ kj29) ∧ Aside0 (Kd.R k24 24 w' w.heap.size (fun _ => True) (.slice Ao13 t411.length co13) t411) ∧ Aside0 (w'.heap[gb418]? = some (.cells #[.int .i64 t414, .int .i64 t415] 29 (0, 0))) ∧ Aside0 (w'.heap[gb419]? = some (.cells #[.int .i64 t416, .int .i64 t417] 29 (0, 0))) ∧ Aside0 (Below w.heap.size w w'))
                  case atStart => exact ⟨(0), (by first | rfl | (simp; done) | (simp [*]; done)), H', ⟨Nat.le_refl _⟩, ⟨by (with_reducible repeat apply ru); exact HO_3.out⟩, ⟨by (with_reducible repeat refine bu ?_); exact BK418.out⟩, ⟨by (with_reducible repeat refine bu ?_); exact BK419.out⟩, ⟨by repeat (first | (with_reducible first | exact HB.out | apply below_alloc | apply pw_below_drewN | apply below_drew1 | refine below_set ?_ GE418.out | refine below_set ?_ GE419.out) | exact HB.out)⟩⟩
                  case round =>
                    clear H'
                    try clear c1
                    try clear c2
                    try clear c2b0
                    try clear c2b1
                    try clear p2
                    try clear c3
                    try clear c4
                    try clear p4
                    try clear q4
                    try clear hx4
                    try clear c5
                    try clear c6
                    try clear c6b0
                    try clear c6b1
                    try clear c6b2
                    try clear p6
                    try clear c10
                    try clear c13
                    try clear c14
                    try clear c15
                    try clear c17
                    try clear c18
                    try clear c18b0
                    try clear c19
                    try clear c19b0
                    try clear c21
                    try clear c22
                    try clear c22b0
                    try clear c22b1
                    try clear c32
                    try clear c34
                    try clear c39
                    try clear c42
                    try clear p42
                    try clear q42
                    try clear hx42
                    try clear hcz11_0
                    try clear hcz11_1
                    try clear hcz12_0
                    try clear hcz12_1
                    try clear hcz15_0
                    try clear hcz15_1
                    try clear hcz16_0
                    try clear hcz16_1
                    try clear hcz35_0
                    try clear hcz35_1
                    try clear hcz37_0
                    try clear hcz37_1
                    try clear hcz40_0
                    try clear hcz40_1
                    try clear hfz11_0
                    try clear hfz11_1
                    try clear hfz12_0
                    try clear hfz12_1
                    try clear hfz15_0
                    try clear hfz15_1
                    try clear hfz16_0
                    try clear hfz16_1
                    try clear hfz35_0
                    try clear hfz35_1
                    try clear hfz37_0
                    try clear hfz37_1
                    try clear hfz40_0
                    try clear hfz40_1
                    try clear hx422_0
                    try clear hx422_1
                    try clear hx422_2
                    try clear hx422_3
                    try clear hx422_4
                    try clear hx422_5
                    try clear hx422_6
                    try clear p2
                    try clear p4
                    try clear p422
                    try clear p6
                    try clear q4
                    try clear q422
                    obtain ⟨x8_3, rfl, HA, HK3, HO_3, BK418, BK419, HB⟩ := hrel
                    cases gk with
                    | zero => exact absurd HA.out (by simp [laws_FnRulLess.l1])
                    | succ k3 =>
                      have H := HA.out
                      clear HA
                      simp only [laws_FnRulLess.l1] at H
                      by_cases c45 : x8_3 < (t411.length : Int)
                      · rw [if_pos c45] at H
                        have c45b0 : decide (x8_3 < (t411.length : Int)) = true := decide_eq_true c45
                        clear c45
                        by_cases c46 : 0 ≤ x8_3
                        · rw [if_pos c46] at H
                          have c46b0 : decide (0 ≤ x8_3) = true := decide_eq_true c46
                          clear c46
                          have HC47 := Aside0.mk H
                          clear H
                          have p429 : 0 ≤ (x8_3 : Int) := of_decide_eq_true (by first | (with_reducible assumption) | assumption)
                          have q429 : x8_3 < (t411.length : Int) := of_decide_eq_true (by first | (with_reducible assumption) | assumption)
                          obtain ⟨ad429, e429, hx429_0, hx429_1, hx429_2, hx429_3, hx429_4, hx429_5, hx429_6⟩ := at_T24 (Kd.R_reads' HO_3.out).2.2 x8_3 p429 q429
                          cases e429
                          replace p429 := eq_true p429
                          replace q429 := eq_true q429
                          go_upto_region 18 with (first | ((with_reducible refine gate_dst (N := 9) rfl ?_); (try (refine gate_guard (by rfl) ?_; dsimp only)); refine box_event ?hg (N := 9) ?hd (cs := #[.bool false, .int .i64 0, .int .i64 0, .int .i64 0, .int .i64 0, .int .i64 0, .int .i64 0]) (t := 24) ?hr ?_; (case hd => rfl); (case hg => rfl); (case hr => first | (go_simp; done) | (go_simp; rfl)); intro gb430 hg w48 hbox hb; have n0_ := Aside0.mk (Kd.R_below (Kd.R_elderB (rs HO_3) gb430 (Nat.le_of_eq hg.symm)) hb); have n1_ := bkB BK418 hb; have n2_ := bkB BK419 hb; have n3_ := Aside0.mk (below_step (bl HB) hb); have n4_ := Aside0.mk (hbox); have n5_ := Aside0.mk ((by rw [hg]; exact (below_size (bl HB)) : w.heap.size ≤ gb430)); have n6_ := Aside0.mk ((by rw [hg]; exact (below_size (bl HB)) : w.heap.size ≤ gb430)); have n7_ := Aside0.mk ((by rw [hg]; exact Nat.ne_of_lt (bkL BK418) : gb418 ≠ gb430)); have n8_ := Aside0.mk ((by rw [hg]; exact Nat.ne_of_gt (bkL BK418) : gb430 ≠ gb418)); have n9_ := Aside0.mk ((by rw [hg]; exact Nat.ne_of_lt (bkL BK419) : gb419 ≠ gb430)); have n10_ := Aside0.mk ((by rw [hg]; exact Nat.ne_of_gt (bkL BK419) : gb430 ≠ gb419)); clear HO_3; clear BK418; clear BK419; clear HB; have HO_3 := n0_; have BK418 := n1_; have BK419 := n2_; have HB := n3_; have BK430 := n4_; have GW430 := n5_; have GE430 := n6_; have NB418_430 := n7_; have NB430_418 := n8_; have NB419_430 := n9_; have NB430_419 := n10_; clear n0_ n1_ n2_ n3_ n4_ n5_ n6_ n7_ n8_ n9_ n10_; clear hb hbox hg; have hnb49 := NB430_418.out; have hnc49 := NB418_430.out; have hnb50 := NB430_419.out; have hnc50 := NB419_430.out; have hcz51_0 : w48.cell? ⟨gb430, 0, none⟩ = some (.bool false) := (blk_cell BK430.out 0).trans rfl; have hcz51_1 : w48.cell? ⟨gb430, 1, none⟩ = some (.int .i64 0) := (blk_cell BK430.out 1).trans rfl; have hcz51_2 : w48.cell? ⟨gb430, 2, none⟩ = some (.int .i64 0) := (blk_cell BK430.out 2).trans rfl; have hcz51_3 : w48.cell? ⟨gb430, 3, none⟩ = some (.int .i64 0) := (blk_cell BK430.out 3).trans rfl; have hcz51_4 : w48.cell? ⟨gb430, 4, none⟩ = some (.int .i64 0) := (blk_cell BK430.out 4).trans rfl; have hcz51_5 : w48.cell? ⟨gb430, 5, none⟩ = some (.int .i64 0) := (blk_cell BK430.out 5).trans rfl; have hcz51_6 : w48.cell? ⟨gb430, 6, none⟩ = some (.int .i64 0) := (blk_cell BK430.out 6).trans rfl; have hfz51_0 := blk_frozen BK430.out 0; have hfz51_1 := blk_frozen BK430.out 1; have hfz51_2 := blk_frozen BK430.out 2; have hfz51_3 := blk_frozen BK430.out 3; have hfz51_4 := blk_frozen BK430.out 4; have hfz51_5 := blk_frozen BK430.out 5; have hfz51_6 := blk_frozen BK430.out 6))
                          (try simp only [Act.put, List.setIfInBounds_toArray, List.set_cons_zero, List.set_cons_succ])
                          go_cut [10] (fun v10 wc => ∃ (kq : Nat) (x10_46 : Bool), v10 = .bool x10_46 ∧ Aside0 (laws_FnRulLess.j3 kq t411 t420 x8_3 x10_46 t414 t415 t416 t417 ((rd_T24 t411 x8_3).f0) ((rd_T24 t411 x8_3).f1) ((rd_T24 t411 x8_3).f2) ((rd_T24 t411 x8_3).f3) ((rd_T24 t411 x8_3).f4) ((rd_T24 t411 x8_3).f5) ((rd_T24 t411 x8_3).f6) = some r) ∧ Aside0 (kq ≤ k3) ∧ Aside0 (Kd.R k24 24 wc w.heap.size (fun k_ => k_ ≠ gb430) (.slice (some ad429) t411.length co13) t411) ∧ Aside0 (wc.heap[gb418]? = some (.cells #[.int .i64 t414, .int .i64 t415] 29 (0, 0))) ∧ Aside0 (wc.heap[gb419]? = some (.cells #[.int .i64 t416, .int .i64 t417] 29 (0, 0))) ∧ Aside0 (wc.heap[gb430]? = some (.cells #[.bool ((rd_T24 t411 x8_3).f0), .int .i64 ((rd_T24 t411 x8_3).f1), .int .i64 ((rd_T24 t411 x8_3).f2), .int .i64 ((rd_T24 t411 x8_3).f3), .int .i64 ((rd_T24 t411 x8_3).f4), .int .i64 ((rd_T24 t411 x8_3).f5), .int .i64 ((rd_T24 t411 x8_3).f6)] 24 (0, 0))) ∧ Aside0 (Below w.heap.size w wc))
                          case first =>
                            have H := HC47.out
                            clear HC47
                            by_cases c52 : t414 ≥ ((rd_T24 t411 x8_3).f1)
                            · rw [if_pos c52] at H
                              have c52b0 : decide (((rd_T24 t411 x8_3).f1) ≤ t414) = true := decide_eq_true c52
                              clear c52
                              (first | rw [c52b0] | (simp only [i64_w, i32_w]; rw [c52b0]) | skip)
                              by_cases c53 : t414 ≤ ((rd_T24 t411 x8_3).f2)
                              · rw [if_pos c53] at H
                                have c53b0 : decide (t414 ≤ ((rd_T24 t411 x8_3).f2)) = true := decide_eq_true c53
                                clear c53
                                by_cases c54 : t416 ≥ ((rd_T24 t411 x8_3).f3)
                                · rw [if_pos c54] at H
                                  have c54b0 : decide (((rd_T24 t411 x8_3).f3) ≤ t416) = true := decide_eq_true c54
                                  clear c54
                                  by_cases c55 : t416 ≤ ((rd_T24 t411 x8_3).f4)
                                  · rw [if_pos c55] at H
                                    have c55b0 : decide (t416 ≤ ((rd_T24 t411 x8_3).f4)) = true := decide_eq_true c55
                                    clear c55
                                    by_cases c56 : t417 ≥ ((rd_T24 t411 x8_3).f5)
                                    · rw [if_pos c56] at H
                                      have c56b0 : decide (((rd_T24 t411 x8_3).f5) ≤ t417) = true := decide_eq_true c56
                                      clear c56
                                      have H' := Aside0.mk H
                                      clear H
                                      have hnb57 := NB418_419.out
                                      have hnc57 := NB419_418.out
                                      have hnb58 := NB418_430.out
                                      have hnc58 := NB430_418.out
                                      have hcz59_0 : w48.cell? ⟨gb418, 0, none⟩ = some (.int .i64 t414) := (blk_cell BK418.out 0).trans rfl
                                      have hcz59_1 : w48.cell? ⟨gb418, 1, none⟩ = some (.int .i64 t415) := (blk_cell BK418.out 1).trans rfl
                                      have hfz59_0 := blk_frozen BK418.out 0
                                      have hfz59_1 := blk_frozen BK418.out 1
                                      have hnb60 := NB430_419.out
                                      have hnc60 := NB419_430.out
                                      have hcz61_0 : w48.cell? ⟨gb430, 0, none⟩ = some (.bool false) := (blk_cell BK430.out 0).trans rfl
                                      have hcz61_1 : w48.cell? ⟨gb430, 1, none⟩ = some (.int .i64 0) := (blk_cell BK430.out 1).trans rfl
                                      have hcz61_2 : w48.cell? ⟨gb430, 2, none⟩ = some (.int .i64 0) := (blk_cell BK430.out 2).trans rfl
                                      have hcz61_3 : w48.cell? ⟨gb430, 3, none⟩ = some (.int .i64 0) := (blk_cell BK430.out 3).trans rfl
                                      have hcz61_4 : w48.cell? ⟨gb430, 4, none⟩ = some (.int .i64 0) := (blk_cell BK430.out 4).trans rfl
                                      have hcz61_5 : w48.cell? ⟨gb430, 5, none⟩ = some (.int .i64 0) := (blk_cell BK430.out 5).trans rfl
                                      have hcz61_6 : w48.cell? ⟨gb430, 6, none⟩ = some (.int .i64 0) := (blk_cell BK430.out 6).trans rfl
                                      have hfz61_0 := blk_frozen BK430.out 0
                                      have hfz61_1 := blk_frozen BK430.out 1
                                      have hfz61_2 := blk_frozen BK430.out 2
                                      have hfz61_3 := blk_frozen BK430.out 3
                                      have hfz61_4 := blk_frozen BK430.out 4
                                      have hfz61_5 := blk_frozen BK430.out 5
                                      have hfz61_6 := blk_frozen BK430.out 6
                                      have hcz62_0 : w48.cell? ⟨gb419, 0, none⟩ = some (.int .i64 t416) := (blk_cell BK419.out 0).trans rfl
                                      have hcz62_1 : w48.cell? ⟨gb419, 1, none⟩ = some (.int .i64 t417) := (blk_cell BK419.out 1).trans rfl
                                      have hfz62_0 := blk_frozen BK419.out 0
                                      have hfz62_1 := blk_frozen BK419.out 1
                                      go_wp2
                                      go_meet
                                      case rel => exact ⟨_, (decide (t417 ≤ ((rd_T24 t411 x8_3).f6))), (by first | rfl | (simp; done) | (simp [*]; done)), H', ⟨by have := HK1.out; have := HJ29.out; have := HK3.out; first | omega | exact Nat.le_refl _⟩, ⟨by (with_reducible repeat apply ru); exact Kd.R_mono (Kd.R_far (p := ⟨gb430, 6, none⟩) (Kd.R_far (p := ⟨gb430, 5, none⟩) (Kd.R_far (p := ⟨gb430, 4, none⟩) (Kd.R_far (p := ⟨gb430, 3, none⟩) (Kd.R_far (p := ⟨gb430, 2, none⟩) (Kd.R_far (p := ⟨gb430, 1, none⟩) (Kd.R_far (p := ⟨gb430, 0, none⟩) (Kd.R_mono HO_3.out (fun k_ hk => (⟨hk, hk.2⟩ : _ ∧ k_ ≠ gb430))) (fun _ hk => hk.2) (.bool ((rd_T24 t411 x8_3).f0))) (fun _ hk => hk.2) (.int .i64 ((rd_T24 t411 x8_3).f1))) (fun _ hk => hk.2) (.int .i64 ((rd_T24 t411 x8_3).f2))) (fun _ hk => hk.2) (.int .i64 ((rd_T24 t411 x8_3).f3))) (fun _ hk => hk.2) (.int .i64 ((rd_T24 t411 x8_3).f4))) (fun _ hk => hk.2) (.int .i64 ((rd_T24 t411 x8_3).f5))) (fun _ hk => hk.2) (.int .i64 ((rd_T24 t411 x8_3).f6))) (fun _ hk => hk.1.2)⟩, ⟨by (with_reducible repeat refine bu ?_); refine blk_far ?_ NB418_430.out _; (with_reducible repeat refine bu ?_); refine blk_far ?_ NB418_430.out _; (with_reducible repeat refine bu ?_); refine blk_far ?_ NB418_430.out _; (with_reducible repeat refine bu ?_); refine blk_far ?_ NB418_430.out _; (with_reducible repeat refine bu ?_); refine blk_far ?_ NB418_430.out _; (with_reducible repeat refine bu ?_); refine blk_far ?_ NB418_430.out _; (with_reducible repeat refine bu ?_); refine blk_far ?_ NB418_430.out _; (with_reducible repeat refine bu ?_); exact BK418.out⟩, ⟨by (with_reducible repeat refine bu ?_); refine blk_far ?_ NB419_430.out _; (with_reducible repeat refine bu ?_); refine blk_far ?_ NB419_430.out _; (with_reducible repeat refine bu ?_); refine blk_far ?_ NB419_430.out _; (with_reducible repeat refine bu ?_); refine blk_far ?_ NB419_430.out _; (with_reducible repeat refine bu ?_); refine blk_far ?_ NB419_430.out _; (with_reducible repeat refine bu ?_); refine blk_far ?_ NB419_430.out _; (with_reducible repeat refine bu ?_); refine blk_far ?_ NB419_430.out _; (with_reducible repeat refine bu ?_); exact BK419.out⟩, ⟨by (with_reducible repeat refine bu ?_); refine blk_put (cs := #[.bool ((rd_T24 t411 x8_3).f0), .int .i64 ((rd_T24 t411 x8_3).f1), .int .i64 ((rd_T24 t411 x8_3).f2), .int .i64 ((rd_T24 t411 x8_3).f3), .int .i64 ((rd_T24 t411 x8_3).f4), .int .i64 ((rd_T24 t411 x8_3).f5), .int .i64 0]) ?_ 6 _ rfl; (with_reducible repeat refine bu ?_); refine blk_put (cs := #[.bool ((rd_T24 t411 x8_3).f0), .int .i64 ((rd_T24 t411 x8_3).f1), .int .i64 ((rd_T24 t411 x8_3).f2), .int .i64 ((rd_T24 t411 x8_3).f3), .int .i64 ((rd_T24 t411 x8_3).f4), .int .i64 0, .int .i64 0]) ?_ 5 _ rfl; (with_reducible repeat refine bu ?_); refine blk_put (cs := #[.bool ((rd_T24 t411 x8_3).f0), .int .i64 ((rd_T24 t411 x8_3).f1), .int .i64 ((rd_T24 t411 x8_3).f2), .int .i64 ((rd_T24 t411 x8_3).f3), .int .i64 0, .int .i64 0, .int .i64 0]) ?_ 4 _ rfl; (with_reducible repeat refine bu ?_); refine blk_put (cs := #[.bool ((rd_T24 t411 x8_3).f0), .int .i64 ((rd_T24 t411 x8_3).f1), .int .i64 ((rd_T24 t411 x8_3).f2), .int .i64 0, .int .i64 0, .int .i64 0, .int .i64 0]) ?_ 3 _ rfl; (with_reducible repeat refine bu ?_); refine blk_put (cs := #[.bool ((rd_T24 t411 x8_3).f0), .int .i64 ((rd_T24 t411 x8_3).f1), .int .i64 0, .int .i64 0, .int .i64 0, .int .i64 0, .int .i64 0]) ?_ 2 _ rfl; (with_reducible repeat refine bu ?_); refine blk_put (cs := #[.bool ((rd_T24 t411 x8_3).f0), .int .i64 0, .int .i64 0, .int .i64 0, .int .i64 0, .int .i64 0, .int .i64 0]) ?_ 1 _ rfl; (with_reducible repeat refine bu ?_); refine blk_put (cs := #[.bool false, .int .i64 0, .int .i64 0, .int .i64 0, .int .i64 0, .int .i64 0, .int .i64 0]) ?_ 0 _ rfl; (with_reducible repeat refine bu ?_); exact BK430.out⟩, ⟨by repeat (first | (with_reducible first | exact HB.out | apply below_alloc | apply pw_below_drewN | apply below_drew1 | refine below_set ?_ GE418.out | refine below_set ?_ GE419.out | refine below_set ?_ GE430.out) | exact HB.out)⟩⟩
                                    · rw [if_neg c56] at H
                                      have c56b0 : decide (((rd_T24 t411 x8_3).f5) ≤ t417) = false := decide_eq_false c56
                                      clear c56
                                      have H' := Aside0.mk H
                                      clear H
                                      have hnb63 := NB418_419.out
                                      have hnc63 := NB419_418.out
                                      have hnb64 := NB418_430.out
                                      have hnc64 := NB430_418.out
                                      have hcz65_0 : w48.cell? ⟨gb418, 0, none⟩ = some (.int .i64 t414) := (blk_cell BK418.out 0).trans rfl
                                      have hcz65_1 : w48.cell? ⟨gb418, 1, none⟩ = some (.int .i64 t415) := (blk_cell BK418.out 1).trans rfl
                                      have hfz65_0 := blk_frozen BK418.out 0
                                      have hfz65_1 := blk_frozen BK418.out 1
                                      have hnb66 := NB430_419.out
                                      have hnc66 := NB419_430.out
                                      have hcz67_0 : w48.cell? ⟨gb430, 0, none⟩ = some (.bool false) := (blk_cell BK430.out 0).trans rfl
                                      have hcz67_1 : w48.cell? ⟨gb430, 1, none⟩ = some (.int .i64 0) := (blk_cell BK430.out 1).trans rfl
                                      have hcz67_2 : w48.cell? ⟨gb430, 2, none⟩ = some (.int .i64 0) := (blk_cell BK430.out 2).trans rfl
                                      have hcz67_3 : w48.cell? ⟨gb430, 3, none⟩ = some (.int .i64 0) := (blk_cell BK430.out 3).trans rfl
                                      have hcz67_4 : w48.cell? ⟨gb430, 4, none⟩ = some (.int .i64 0) := (blk_cell BK430.out 4).trans rfl
                                      have hcz67_5 : w48.cell? ⟨gb430, 5, none⟩ = some (.int .i64 0) := (blk_cell BK430.out 5).trans rfl
                                      have hcz67_6 : w48.cell? ⟨gb430, 6, none⟩ = some (.int .i64 0) := (blk_cell BK430.out 6).trans rfl
                                      have hfz67_0 := blk_frozen BK430.out 0
                                      have hfz67_1 := blk_frozen BK430.out 1
                                      have hfz67_2 := blk_frozen BK430.out 2
                                      have hfz67_3 := blk_frozen BK430.out 3
                                      have hfz67_4 := blk_frozen BK430.out 4
                                      have hfz67_5 := blk_frozen BK430.out 5
                                      have hfz67_6 := blk_frozen BK430.out 6
                                      have hcz68_0 : w48.cell? ⟨gb419, 0, none⟩ = some (.int .i64 t416) := (blk_cell BK419.out 0).trans rfl
                                      have hcz68_1 : w48.cell? ⟨gb419, 1, none⟩ = some (.int .i64 t417) := (blk_cell BK419.out 1).trans rfl
                                      have hfz68_0 := blk_frozen BK419.out 0
                                      have hfz68_1 := blk_frozen BK419.out 1
                                      go_wp2
                                      go_meet
                                      case rel => exact ⟨_, (false), (by first | rfl | (simp; done) | (simp [*]; done)), H', ⟨by have := HK1.out; have := HJ29.out; have := HK3.out; first | omega | exact Nat.le_refl _⟩, ⟨by (with_reducible repeat apply ru); exact Kd.R_mono (Kd.R_far (p := ⟨gb430, 6, none⟩) (Kd.R_far (p := ⟨gb430, 5, none⟩) (Kd.R_far (p := ⟨gb430, 4, none⟩) (Kd.R_far (p := ⟨gb430, 3, none⟩) (Kd.R_far (p := ⟨gb430, 2, none⟩) (Kd.R_far (p := ⟨gb430, 1, none⟩) (Kd.R_far (p := ⟨gb430, 0, none⟩) (Kd.R_mono HO_3.out (fun k_ hk => (⟨hk, hk.2⟩ : _ ∧ k_ ≠ gb430))) (fun _ hk => hk.2) (.bool ((rd_T24 t411 x8_3).f0))) (fun _ hk => hk.2) (.int .i64 ((rd_T24 t411 x8_3).f1))) (fun _ hk => hk.2) (.int .i64 ((rd_T24 t411 x8_3).f2))) (fun _ hk => hk.2) (.int .i64 ((rd_T24 t411 x8_3).f3))) (fun _ hk => hk.2) (.int .i64 ((rd_T24 t411 x8_3).f4))) (fun _ hk => hk.2) (.int .i64 ((rd_T24 t411 x8_3).f5))) (fun _ hk => hk.2) (.int .i64 ((rd_T24 t411 x8_3).f6))) (fun _ hk => hk.1.2)⟩, ⟨by (with_reducible repeat refine bu ?_); refine blk_far ?_ NB418_430.out _; (with_reducible repeat refine bu ?_); refine blk_far ?_ NB418_430.out _; (with_reducible repeat refine bu ?_); refine blk_far ?_ NB418_430.out _; (with_reducible repeat refine bu ?_); refine blk_far ?_ NB418_430.out _; (with_reducible repeat refine bu ?_); refine blk_far ?_ NB418_430.out _; (with_reducible repeat refine bu ?_); refine blk_far ?_ NB418_430.out _; (with_reducible repeat refine bu ?_); refine blk_far ?_ NB418_430.out _; (with_reducible repeat refine bu ?_); exact BK418.out⟩, ⟨by (with_reducible repeat refine bu ?_); refine blk_far ?_ NB419_430.out _; (with_reducible repeat refine bu ?_); refine blk_far ?_ NB419_430.out _; (with_reducible repeat refine bu ?_); refine blk_far ?_ NB419_430.out _; (with_reducible repeat refine bu ?_); refine blk_far ?_ NB419_430.out _; (with_reducible repeat refine bu ?_); refine blk_far ?_ NB419_430.out _; (with_reducible repeat refine bu ?_); refine blk_far ?_ NB419_430.out _; (with_reducible repeat refine bu ?_); refine blk_far ?_ NB419_430.out _; (with_reducible repeat refine bu ?_); exact BK419.out⟩, ⟨by (with_reducible repeat refine bu ?_); refine blk_put (cs := #[.bool ((rd_T24 t411 x8_3).f0), .int .i64 ((rd_T24 t411 x8_3).f1), .int .i64 ((rd_T24 t411 x8_3).f2), .int .i64 ((rd_T24 t411 x8_3).f3), .int .i64 ((rd_T24 t411 x8_3).f4), .int .i64 ((rd_T24 t411 x8_3).f5), .int .i64 0]) ?_ 6 _ rfl; (with_reducible repeat refine bu ?_); refine blk_put (cs := #[.bool ((rd_T24 t411 x8_3).f0), .int .i64 ((rd_T24 t411 x8_3).f1), .int .i64 ((rd_T24 t411 x8_3).f2), .int .i64 ((rd_T24 t411 x8_3).f3), .int .i64 ((rd_T24 t411 x8_3).f4), .int .i64 0, .int .i64 0]) ?_ 5 _ rfl; (with_reducible repeat refine bu ?_); refine blk_put (cs := #[.bool ((rd_T24 t411 x8_3).f0), .int .i64 ((rd_T24 t411 x8_3).f1), .int .i64 ((rd_T24 t411 x8_3).f2), .int .i64 ((rd_T24 t411 x8_3).f3), .int .i64 0, .int .i64 0, .int .i64 0]) ?_ 4 _ rfl; (with_reducible repeat refine bu ?_); refine blk_put (cs := #[.bool ((rd_T24 t411 x8_3).f0), .int .i64 ((rd_T24 t411 x8_3).f1), .int .i64 ((rd_T24 t411 x8_3).f2), .int .i64 0, .int .i64 0, .int .i64 0, .int .i64 0]) ?_ 3 _ rfl; (with_reducible repeat refine bu ?_); refine blk_put (cs := #[.bool ((rd_T24 t411 x8_3).f0), .int .i64 ((rd_T24 t411 x8_3).f1), .int .i64 0, .int .i64 0, .int .i64 0, .int .i64 0, .int .i64 0]) ?_ 2 _ rfl; (with_reducible repeat refine bu ?_); refine blk_put (cs := #[.bool ((rd_T24 t411 x8_3).f0), .int .i64 0, .int .i64 0, .int .i64 0, .int .i64 0, .int .i64 0, .int .i64 0]) ?_ 1 _ rfl; (with_reducible repeat refine bu ?_); refine blk_put (cs := #[.bool false, .int .i64 0, .int .i64 0, .int .i64 0, .int .i64 0, .int .i64 0, .int .i64 0]) ?_ 0 _ rfl; (with_reducible repeat refine bu ?_); exact BK430.out⟩, ⟨by repeat (first | (with_reducible first | exact HB.out | apply below_alloc | apply pw_below_drewN | apply below_drew1 | refine below_set ?_ GE418.out | refine below_set ?_ GE419.out | refine below_set ?_ GE430.out) | exact HB.out)⟩⟩
                                  · rw [if_neg c55] at H
                                    have c55b0 : decide (t416 ≤ ((rd_T24 t411 x8_3).f4)) = false := decide_eq_false c55
                                    clear c55
                                    have H' := Aside0.mk H
                                    clear H
                                    have hnb69 := NB418_419.out
                                    have hnc69 := NB419_418.out
                                    have hnb70 := NB418_430.out
                                    have hnc70 := NB430_418.out
                                    have hcz71_0 : w48.cell? ⟨gb418, 0, none⟩ = some (.int .i64 t414) := (blk_cell BK418.out 0).trans rfl
                                    have hcz71_1 : w48.cell? ⟨gb418, 1, none⟩ = some (.int .i64 t415) := (blk_cell BK418.out 1).trans rfl
                                    have hfz71_0 := blk_frozen BK418.out 0
                                    have hfz71_1 := blk_frozen BK418.out 1
                                    have hnb72 := NB430_419.out
                                    have hnc72 := NB419_430.out
                                    have hcz73_0 : w48.cell? ⟨gb430, 0, none⟩ = some (.bool false) := (blk_cell BK430.out 0).trans rfl
                                    have hcz73_1 : w48.cell? ⟨gb430, 1, none⟩ = some (.int .i64 0) := (blk_cell BK430.out 1).trans rfl
                                    have hcz73_2 : w48.cell? ⟨gb430, 2, none⟩ = some (.int .i64 0) := (blk_cell BK430.out 2).trans rfl
                                    have hcz73_3 : w48.cell? ⟨gb430, 3, none⟩ = some (.int .i64 0) := (blk_cell BK430.out 3).trans rfl
                                    have hcz73_4 : w48.cell? ⟨gb430, 4, none⟩ = some (.int .i64 0) := (blk_cell BK430.out 4).trans rfl
                                    have hcz73_5 : w48.cell? ⟨gb430, 5, none⟩ = some (.int .i64 0) := (blk_cell BK430.out 5).trans rfl
                                    have hcz73_6 : w48.cell? ⟨gb430, 6, none⟩ = some (.int .i64 0) := (blk_cell BK430.out 6).trans rfl
                                    have hfz73_0 := blk_frozen BK430.out 0
                                    have hfz73_1 := blk_frozen BK430.out 1
                                    have hfz73_2 := blk_frozen BK430.out 2
                                    have hfz73_3 := blk_frozen BK430.out 3
                                    have hfz73_4 := blk_frozen BK430.out 4
                                    have hfz73_5 := blk_frozen BK430.out 5
                                    have hfz73_6 := blk_frozen BK430.out 6
                                    have hcz74_0 : w48.cell? ⟨gb419, 0, none⟩ = some (.int .i64 t416) := (blk_cell BK419.out 0).trans rfl
                                    have hcz74_1 : w48.cell? ⟨gb419, 1, none⟩ = some (.int .i64 t417) := (blk_cell BK419.out 1).trans rfl
                                    have hfz74_0 := blk_frozen BK419.out 0
                                    have hfz74_1 := blk_frozen BK419.out 1
                                    go_wp2
                                    go_meet
                                    case rel => exact ⟨_, (false), (by first | rfl | (simp; done) | (simp [*]; done)), H', ⟨by have := HK1.out; have := HJ29.out; have := HK3.out; first | omega | exact Nat.le_refl _⟩, ⟨by (with_reducible repeat apply ru); exact Kd.R_mono (Kd.R_far (p := ⟨gb430, 6, none⟩) (Kd.R_far (p := ⟨gb430, 5, none⟩) (Kd.R_far (p := ⟨gb430, 4, none⟩) (Kd.R_far (p := ⟨gb430, 3, none⟩) (Kd.R_far (p := ⟨gb430, 2, none⟩) (Kd.R_far (p := ⟨gb430, 1, none⟩) (Kd.R_far (p := ⟨gb430, 0, none⟩) (Kd.R_mono HO_3.out (fun k_ hk => (⟨hk, hk.2⟩ : _ ∧ k_ ≠ gb430))) (fun _ hk => hk.2) (.bool ((rd_T24 t411 x8_3).f0))) (fun _ hk => hk.2) (.int .i64 ((rd_T24 t411 x8_3).f1))) (fun _ hk => hk.2) (.int .i64 ((rd_T24 t411 x8_3).f2))) (fun _ hk => hk.2) (.int .i64 ((rd_T24 t411 x8_3).f3))) (fun _ hk => hk.2) (.int .i64 ((rd_T24 t411 x8_3).f4))) (fun _ hk => hk.2) (.int .i64 ((rd_T24 t411 x8_3).f5))) (fun _ hk => hk.2) (.int .i64 ((rd_T24 t411 x8_3).f6))) (fun _ hk => hk.1.2)⟩, ⟨by (with_reducible repeat refine bu ?_); refine blk_far ?_ NB418_430.out _; (with_reducible repeat refine bu ?_); refine blk_far ?_ NB418_430.out _; (with_reducible repeat refine bu ?_); refine blk_far ?_ NB418_430.out _; (with_reducible repeat refine bu ?_); refine blk_far ?_ NB418_430.out _; (with_reducible repeat refine bu ?_); refine blk_far ?_ NB418_430.out _; (with_reducible repeat refine bu ?_); refine blk_far ?_ NB418_430.out _; (with_reducible repeat refine bu ?_); refine blk_far ?_ NB418_430.out _; (with_reducible repeat refine bu ?_); exact BK418.out⟩, ⟨by (with_reducible repeat refine bu ?_); refine blk_far ?_ NB419_430.out _; (with_reducible repeat refine bu ?_); refine blk_far ?_ NB419_430.out _; (with_reducible repeat refine bu ?_); refine blk_far ?_ NB419_430.out _; (with_reducible repeat refine bu ?_); refine blk_far ?_ NB419_430.out _; (with_reducible repeat refine bu ?_); refine blk_far ?_ NB419_430.out _; (with_reducible repeat refine bu ?_); refine blk_far ?_ NB419_430.out _; (with_reducible repeat refine bu ?_); refine blk_far ?_ NB419_430.out _; (with_reducible repeat refine bu ?_); exact BK419.out⟩, ⟨by (with_reducible repeat refine bu ?_); refine blk_put (cs := #[.bool ((rd_T24 t411 x8_3).f0), .int .i64 ((rd_T24 t411 x8_3).f1), .int .i64 ((rd_T24 t411 x8_3).f2), .int .i64 ((rd_T24 t411 x8_3).f3), .int .i64 ((rd_T24 t411 x8_3).f4), .int .i64 ((rd_T24 t411 x8_3).f5), .int .i64 0]) ?_ 6 _ rfl; (with_reducible repeat refine bu ?_); refine blk_put (cs := #[.bool ((rd_T24 t411 x8_3).f0), .int .i64 ((rd_T24 t411 x8_3).f1), .int .i64 ((rd_T24 t411 x8_3).f2), .int .i64 ((rd_T24 t411 x8_3).f3), .int .i64 ((rd_T24 t411 x8_3).f4), .int .i64 0, .int .i64 0]) ?_ 5 _ rfl; (with_reducible repeat refine bu ?_); refine blk_put (cs := #[.bool ((rd_T24 t411 x8_3).f0), .int .i64 ((rd_T24 t411 x8_3).f1), .int .i64 ((rd_T24 t411 x8_3).f2), .int .i64 ((rd_T24 t411 x8_3).f3), .int .i64 0, .int .i64 0, .int .i64 0]) ?_ 4 _ rfl; (with_reducible repeat refine bu ?_); refine blk_put (cs := #[.bool ((rd_T24 t411 x8_3).f0), .int .i64 ((rd_T24 t411 x8_3).f1), .int .i64 ((rd_T24 t411 x8_3).f2), .int .i64 0, .int .i64 0, .int .i64 0, .int .i64 0]) ?_ 3 _ rfl; (with_reducible repeat refine bu ?_); refine blk_put (cs := #[.bool ((rd_T24 t411 x8_3).f0), .int .i64 ((rd_T24 t411 x8_3).f1), .int .i64 0, .int .i64 0, .int .i64 0, .int .i64 0, .int .i64 0]) ?_ 2 _ rfl; (with_reducible repeat refine bu ?_); refine blk_put (cs := #[.bool ((rd_T24 t411 x8_3).f0), .int .i64 0, .int .i64 0, .int .i64 0, .int .i64 0, .int .i64 0, .int .i64 0]) ?_ 1 _ rfl; (with_reducible repeat refine bu ?_); refine blk_put (cs := #[.bool false, .int .i64 0, .int .i64 0, .int .i64 0, .int .i64 0, .int .i64 0, .int .i64 0]) ?_ 0 _ rfl; (with_reducible repeat refine bu ?_); exact BK430.out⟩, ⟨by repeat (first | (with_reducible first | exact HB.out | apply below_alloc | apply pw_below_drewN | apply below_drew1 | refine below_set ?_ GE418.out | refine below_set ?_ GE419.out | refine below_set ?_ GE430.out) | exact HB.out)⟩⟩
                                · rw [if_neg c54] at H
                                  have c54b0 : decide (((rd_T24 t411 x8_3).f3) ≤ t416) = false := decide_eq_false c54
                                  clear c54
                                  have H' := Aside0.mk H
                                  clear H
                                  have hnb75 := NB418_419.out
                                  have hnc75 := NB419_418.out
                                  have hnb76 := NB418_430.out
                                  have hnc76 := NB430_418.out
                                  have hcz77_0 : w48.cell? ⟨gb418, 0, none⟩ = some (.int .i64 t414) := (blk_cell BK418.out 0).trans rfl
                                  have hcz77_1 : w48.cell? ⟨gb418, 1, none⟩ = some (.int .i64 t415) := (blk_cell BK418.out 1).trans rfl
                                  have hfz77_0 := blk_frozen BK418.out 0
                                  have hfz77_1 := blk_frozen BK418.out 1
                                  have hnb78 := NB430_419.out
                                  have hnc78 := NB419_430.out
                                  have hcz79_0 : w48.cell? ⟨gb430, 0, none⟩ = some (.bool false) := (blk_cell BK430.out 0).trans rfl
                                  have hcz79_1 : w48.cell? ⟨gb430, 1, none⟩ = some (.int .i64 0) := (blk_cell BK430.out 1).trans rfl
                                  have hcz79_2 : w48.cell? ⟨gb430, 2, none⟩ = some (.int .i64 0) := (blk_cell BK430.out 2).trans rfl
                                  have hcz79_3 : w48.cell? ⟨gb430, 3, none⟩ = some (.int .i64 0) := (blk_cell BK430.out 3).trans rfl
                                  have hcz79_4 : w48.cell? ⟨gb430, 4, none⟩ = some (.int .i64 0) := (blk_cell BK430.out 4).trans rfl
                                  have hcz79_5 : w48.cell? ⟨gb430, 5, none⟩ = some (.int .i64 0) := (blk_cell BK430.out 5).trans rfl
                                  have hcz79_6 : w48.cell? ⟨gb430, 6, none⟩ = some (.int .i64 0) := (blk_cell BK430.out 6).trans rfl
                                  have hfz79_0 := blk_frozen BK430.out 0
                                  have hfz79_1 := blk_frozen BK430.out 1
                                  have hfz79_2 := blk_frozen BK430.out 2
                                  have hfz79_3 := blk_frozen BK430.out 3
                                  have hfz79_4 := blk_frozen BK430.out 4
                                  have hfz79_5 := blk_frozen BK430.out 5
                                  have hfz79_6 := blk_frozen BK430.out 6
                                  have hcz80_0 : w48.cell? ⟨gb419, 0, none⟩ = some (.int .i64 t416) := (blk_cell BK419.out 0).trans rfl
                                  have hcz80_1 : w48.cell? ⟨gb419, 1, none⟩ = some (.int .i64 t417) := (blk_cell BK419.out 1).trans rfl
                                  have hfz80_0 := blk_frozen BK419.out 0
                                  have hfz80_1 := blk_frozen BK419.out 1
                                  go_wp2
                                  go_meet
                                  case rel => exact ⟨_, (false), (by first | rfl | (simp; done) | (simp [*]; done)), H', ⟨by have := HK1.out; have := HJ29.out; have := HK3.out; first | omega | exact Nat.le_refl _⟩, ⟨by (with_reducible repeat apply ru); exact Kd.R_mono (Kd.R_far (p := ⟨gb430, 6, none⟩) (Kd.R_far (p := ⟨gb430, 5, none⟩) (Kd.R_far (p := ⟨gb430, 4, none⟩) (Kd.R_far (p := ⟨gb430, 3, none⟩) (Kd.R_far (p := ⟨gb430, 2, none⟩) (Kd.R_far (p := ⟨gb430, 1, none⟩) (Kd.R_far (p := ⟨gb430, 0, none⟩) (Kd.R_mono HO_3.out (fun k_ hk => (⟨hk, hk.2⟩ : _ ∧ k_ ≠ gb430))) (fun _ hk => hk.2) (.bool ((rd_T24 t411 x8_3).f0))) (fun _ hk => hk.2) (.int .i64 ((rd_T24 t411 x8_3).f1))) (fun _ hk => hk.2) (.int .i64 ((rd_T24 t411 x8_3).f2))) (fun _ hk => hk.2) (.int .i64 ((rd_T24 t411 x8_3).f3))) (fun _ hk => hk.2) (.int .i64 ((rd_T24 t411 x8_3).f4))) (fun _ hk => hk.2) (.int .i64 ((rd_T24 t411 x8_3).f5))) (fun _ hk => hk.2) (.int .i64 ((rd_T24 t411 x8_3).f6))) (fun _ hk => hk.1.2)⟩, ⟨by (with_reducible repeat refine bu ?_); refine blk_far ?_ NB418_430.out _; (with_reducible repeat refine bu ?_); refine blk_far ?_ NB418_430.out _; (with_reducible repeat refine bu ?_); refine blk_far ?_ NB418_430.out _; (with_reducible repeat refine bu ?_); refine blk_far ?_ NB418_430.out _; (with_reducible repeat refine bu ?_); refine blk_far ?_ NB418_430.out _; (with_reducible repeat refine bu ?_); refine blk_far ?_ NB418_430.out _; (with_reducible repeat refine bu ?_); refine blk_far ?_ NB418_430.out _; (with_reducible repeat refine bu ?_); exact BK418.out⟩, ⟨by (with_reducible repeat refine bu ?_); refine blk_far ?_ NB419_430.out _; (with_reducible repeat refine bu ?_); refine blk_far ?_ NB419_430.out _; (with_reducible repeat refine bu ?_); refine blk_far ?_ NB419_430.out _; (with_reducible repeat refine bu ?_); refine blk_far ?_ NB419_430.out _; (with_reducible repeat refine bu ?_); refine blk_far ?_ NB419_430.out _; (with_reducible repeat refine bu ?_); refine blk_far ?_ NB419_430.out _; (with_reducible repeat refine bu ?_); refine blk_far ?_ NB419_430.out _; (with_reducible repeat refine bu ?_); exact BK419.out⟩, ⟨by (with_reducible repeat refine bu ?_); refine blk_put (cs := #[.bool ((rd_T24 t411 x8_3).f0), .int .i64 ((rd_T24 t411 x8_3).f1), .int .i64 ((rd_T24 t411 x8_3).f2), .int .i64 ((rd_T24 t411 x8_3).f3), .int .i64 ((rd_T24 t411 x8_3).f4), .int .i64 ((rd_T24 t411 x8_3).f5), .int .i64 0]) ?_ 6 _ rfl; (with_reducible repeat refine bu ?_); refine blk_put (cs := #[.bool ((rd_T24 t411 x8_3).f0), .int .i64 ((rd_T24 t411 x8_3).f1), .int .i64 ((rd_T24 t411 x8_3).f2), .int .i64 ((rd_T24 t411 x8_3).f3), .int .i64 ((rd_T24 t411 x8_3).f4), .int .i64 0, .int .i64 0]) ?_ 5 _ rfl; (with_reducible repeat refine bu ?_); refine blk_put (cs := #[.bool ((rd_T24 t411 x8_3).f0), .int .i64 ((rd_T24 t411 x8_3).f1), .int .i64 ((rd_T24 t411 x8_3).f2), .int .i64 ((rd_T24 t411 x8_3).f3), .int .i64 0, .int .i64 0, .int .i64 0]) ?_ 4 _ rfl; (with_reducible repeat refine bu ?_); refine blk_put (cs := #[.bool ((rd_T24 t411 x8_3).f0), .int .i64 ((rd_T24 t411 x8_3).f1), .int .i64 ((rd_T24 t411 x8_3).f2), .int .i64 0, .int .i64 0, .int .i64 0, .int .i64 0]) ?_ 3 _ rfl; (with_reducible repeat refine bu ?_); refine blk_put (cs := #[.bool ((rd_T24 t411 x8_3).f0), .int .i64 ((rd_T24 t411 x8_3).f1), .int .i64 0, .int .i64 0, .int .i64 0, .int .i64 0, .int .i64 0]) ?_ 2 _ rfl; (with_reducible repeat refine bu ?_); refine blk_put (cs := #[.bool ((rd_T24 t411 x8_3).f0), .int .i64 0, .int .i64 0, .int .i64 0, .int .i64 0, .int .i64 0, .int .i64 0]) ?_ 1 _ rfl; (with_reducible repeat refine bu ?_); refine blk_put (cs := #[.bool false, .int .i64 0, .int .i64 0, .int .i64 0, .int .i64 0, .int .i64 0, .int .i64 0]) ?_ 0 _ rfl; (with_reducible repeat refine bu ?_); exact BK430.out⟩, ⟨by repeat (first | (with_reducible first | exact HB.out | apply below_alloc | apply pw_below_drewN | apply below_drew1 | refine below_set ?_ GE418.out | refine below_set ?_ GE419.out | refine below_set ?_ GE430.out) | exact HB.out)⟩⟩
                              · rw [if_neg c53] at H
                                have c53b0 : decide (t414 ≤ ((rd_T24 t411 x8_3).f2)) = false := decide_eq_false c53
                                clear c53
                                have H' := Aside0.mk H
                                clear H
                                have hnb81 := NB418_419.out
                                have hnc81 := NB419_418.out
                                have hnb82 := NB418_430.out
                                have hnc82 := NB430_418.out
                                have hcz83_0 : w48.cell? ⟨gb418, 0, none⟩ = some (.int .i64 t414) := (blk_cell BK418.out 0).trans rfl
                                have hcz83_1 : w48.cell? ⟨gb418, 1, none⟩ = some (.int .i64 t415) := (blk_cell BK418.out 1).trans rfl
                                have hfz83_0 := blk_frozen BK418.out 0
                                have hfz83_1 := blk_frozen BK418.out 1
                                have hnb84 := NB430_419.out
                                have hnc84 := NB419_430.out
                                have hcz85_0 : w48.cell? ⟨gb430, 0, none⟩ = some (.bool false) := (blk_cell BK430.out 0).trans rfl
                                have hcz85_1 : w48.cell? ⟨gb430, 1, none⟩ = some (.int .i64 0) := (blk_cell BK430.out 1).trans rfl
                                have hcz85_2 : w48.cell? ⟨gb430, 2, none⟩ = some (.int .i64 0) := (blk_cell BK430.out 2).trans rfl
                                have hcz85_3 : w48.cell? ⟨gb430, 3, none⟩ = some (.int .i64 0) := (blk_cell BK430.out 3).trans rfl
                                have hcz85_4 : w48.cell? ⟨gb430, 4, none⟩ = some (.int .i64 0) := (blk_cell BK430.out 4).trans rfl
                                have hcz85_5 : w48.cell? ⟨gb430, 5, none⟩ = some (.int .i64 0) := (blk_cell BK430.out 5).trans rfl
                                have hcz85_6 : w48.cell? ⟨gb430, 6, none⟩ = some (.int .i64 0) := (blk_cell BK430.out 6).trans rfl
                                have hfz85_0 := blk_frozen BK430.out 0
                                have hfz85_1 := blk_frozen BK430.out 1
                                have hfz85_2 := blk_frozen BK430.out 2
                                have hfz85_3 := blk_frozen BK430.out 3
                                have hfz85_4 := blk_frozen BK430.out 4
                                have hfz85_5 := blk_frozen BK430.out 5
                                have hfz85_6 := blk_frozen BK430.out 6
                                go_wp2
                                go_meet
                                case rel => exact ⟨_, (false), (by first | rfl | (simp; done) | (simp [*]; done)), H', ⟨by have := HK1.out; have := HJ29.out; have := HK3.out; first | omega | exact Nat.le_refl _⟩, ⟨by (with_reducible repeat apply ru); exact Kd.R_mono (Kd.R_far (p := ⟨gb430, 6, none⟩) (Kd.R_far (p := ⟨gb430, 5, none⟩) (Kd.R_far (p := ⟨gb430, 4, none⟩) (Kd.R_far (p := ⟨gb430, 3, none⟩) (Kd.R_far (p := ⟨gb430, 2, none⟩) (Kd.R_far (p := ⟨gb430, 1, none⟩) (Kd.R_far (p := ⟨gb430, 0, none⟩) (Kd.R_mono HO_3.out (fun k_ hk => (⟨hk, hk.2⟩ : _ ∧ k_ ≠ gb430))) (fun _ hk => hk.2) (.bool ((rd_T24 t411 x8_3).f0))) (fun _ hk => hk.2) (.int .i64 ((rd_T24 t411 x8_3).f1))) (fun _ hk => hk.2) (.int .i64 ((rd_T24 t411 x8_3).f2))) (fun _ hk => hk.2) (.int .i64 ((rd_T24 t411 x8_3).f3))) (fun _ hk => hk.2) (.int .i64 ((rd_T24 t411 x8_3).f4))) (fun _ hk => hk.2) (.int .i64 ((rd_T24 t411 x8_3).f5))) (fun _ hk => hk.2) (.int .i64 ((rd_T24 t411 x8_3).f6))) (fun _ hk => hk.1.2)⟩, ⟨by (with_reducible repeat refine bu ?_); refine blk_far ?_ NB418_430.out _; (with_reducible repeat refine bu ?_); refine blk_far ?_ NB418_430.out _; (with_reducible repeat refine bu ?_); refine blk_far ?_ NB418_430.out _; (with_reducible repeat refine bu ?_); refine blk_far ?_ NB418_430.out _; (with_reducible repeat refine bu ?_); refine blk_far ?_ NB418_430.out _; (with_reducible repeat refine bu ?_); refine blk_far ?_ NB418_430.out _; (with_reducible repeat refine bu ?_); refine blk_far ?_ NB418_430.out _; (with_reducible repeat refine bu ?_); exact BK418.out⟩, ⟨by (with_reducible repeat refine bu ?_); refine blk_far ?_ NB419_430.out _; (with_reducible repeat refine bu ?_); refine blk_far ?_ NB419_430.out _; (with_reducible repeat refine bu ?_); refine blk_far ?_ NB419_430.out _; (with_reducible repeat refine bu ?_); refine blk_far ?_ NB419_430.out _; (with_reducible repeat refine bu ?_); refine blk_far ?_ NB419_430.out _; (with_reducible repeat refine bu ?_); refine blk_far ?_ NB419_430.out _; (with_reducible repeat refine bu ?_); refine blk_far ?_ NB419_430.out _; (with_reducible repeat refine bu ?_); exact BK419.out⟩, ⟨by (with_reducible repeat refine bu ?_); refine blk_put (cs := #[.bool ((rd_T24 t411 x8_3).f0), .int .i64 ((rd_T24 t411 x8_3).f1), .int .i64 ((rd_T24 t411 x8_3).f2), .int .i64 ((rd_T24 t411 x8_3).f3), .int .i64 ((rd_T24 t411 x8_3).f4), .int .i64 ((rd_T24 t411 x8_3).f5), .int .i64 0]) ?_ 6 _ rfl; (with_reducible repeat refine bu ?_); refine blk_put (cs := #[.bool ((rd_T24 t411 x8_3).f0), .int .i64 ((rd_T24 t411 x8_3).f1), .int .i64 ((rd_T24 t411 x8_3).f2), .int .i64 ((rd_T24 t411 x8_3).f3), .int .i64 ((rd_T24 t411 x8_3).f4), .int .i64 0, .int .i64 0]) ?_ 5 _ rfl; (with_reducible repeat refine bu ?_); refine blk_put (cs := #[.bool ((rd_T24 t411 x8_3).f0), .int .i64 ((rd_T24 t411 x8_3).f1), .int .i64 ((rd_T24 t411 x8_3).f2), .int .i64 ((rd_T24 t411 x8_3).f3), .int .i64 0, .int .i64 0, .int .i64 0]) ?_ 4 _ rfl; (with_reducible repeat refine bu ?_); refine blk_put (cs := #[.bool ((rd_T24 t411 x8_3).f0), .int .i64 ((rd_T24 t411 x8_3).f1), .int .i64 ((rd_T24 t411 x8_3).f2), .int .i64 0, .int .i64 0, .int .i64 0, .int .i64 0]) ?_ 3 _ rfl; (with_reducible repeat refine bu ?_); refine blk_put (cs := #[.bool ((rd_T24 t411 x8_3).f0), .int .i64 ((rd_T24 t411 x8_3).f1), .int .i64 0, .int .i64 0, .int .i64 0, .int .i64 0, .int .i64 0]) ?_ 2 _ rfl; (with_reducible repeat refine bu ?_); refine blk_put (cs := #[.bool ((rd_T24 t411 x8_3).f0), .int .i64 0, .int .i64 0, .int .i64 0, .int .i64 0, .int .i64 0, .int .i64 0]) ?_ 1 _ rfl; (with_reducible repeat refine bu ?_); refine blk_put (cs := #[.bool false, .int .i64 0, .int .i64 0, .int .i64 0, .int .i64 0, .int .i64 0, .int .i64 0]) ?_ 0 _ rfl; (with_reducible repeat refine bu ?_); exact BK430.out⟩, ⟨by repeat (first | (with_reducible first | exact HB.out | apply below_alloc | apply pw_below_drewN | apply below_drew1 | refine below_set ?_ GE418.out | refine below_set ?_ GE419.out | refine below_set ?_ GE430.out) | exact HB.out)⟩⟩
                            · rw [if_neg c52] at H
                              have c52b0 : decide (((rd_T24 t411 x8_3).f1) ≤ t414) = false := decide_eq_false c52
                              clear c52
                              (first | rw [c52b0] | (simp only [i64_w, i32_w]; rw [c52b0]) | skip)
                              have H' := Aside0.mk H
                              clear H
                              have hnb86 := NB418_419.out
                              have hnc86 := NB419_418.out
                              have hnb87 := NB418_430.out
                              have hnc87 := NB430_418.out
                              have hcz88_0 : w48.cell? ⟨gb418, 0, none⟩ = some (.int .i64 t414) := (blk_cell BK418.out 0).trans rfl
                              have hcz88_1 : w48.cell? ⟨gb418, 1, none⟩ = some (.int .i64 t415) := (blk_cell BK418.out 1).trans rfl
                              have hfz88_0 := blk_frozen BK418.out 0
                              have hfz88_1 := blk_frozen BK418.out 1
                              have hnb89 := NB430_419.out
                              have hnc89 := NB419_430.out
                              have hcz90_0 : w48.cell? ⟨gb430, 0, none⟩ = some (.bool false) := (blk_cell BK430.out 0).trans rfl
                              have hcz90_1 : w48.cell? ⟨gb430, 1, none⟩ = some (.int .i64 0) := (blk_cell BK430.out 1).trans rfl
                              have hcz90_2 : w48.cell? ⟨gb430, 2, none⟩ = some (.int .i64 0) := (blk_cell BK430.out 2).trans rfl
                              have hcz90_3 : w48.cell? ⟨gb430, 3, none⟩ = some (.int .i64 0) := (blk_cell BK430.out 3).trans rfl
                              have hcz90_4 : w48.cell? ⟨gb430, 4, none⟩ = some (.int .i64 0) := (blk_cell BK430.out 4).trans rfl
                              have hcz90_5 : w48.cell? ⟨gb430, 5, none⟩ = some (.int .i64 0) := (blk_cell BK430.out 5).trans rfl
                              have hcz90_6 : w48.cell? ⟨gb430, 6, none⟩ = some (.int .i64 0) := (blk_cell BK430.out 6).trans rfl
                              have hfz90_0 := blk_frozen BK430.out 0
                              have hfz90_1 := blk_frozen BK430.out 1
                              have hfz90_2 := blk_frozen BK430.out 2
                              have hfz90_3 := blk_frozen BK430.out 3
                              have hfz90_4 := blk_frozen BK430.out 4
                              have hfz90_5 := blk_frozen BK430.out 5
                              have hfz90_6 := blk_frozen BK430.out 6
                              go_wp2
                              go_meet
                              case rel => exact ⟨_, (false), (by first | rfl | (simp; done) | (simp [*]; done)), H', ⟨by have := HK1.out; have := HJ29.out; have := HK3.out; first | omega | exact Nat.le_refl _⟩, ⟨by (with_reducible repeat apply ru); exact Kd.R_mono (Kd.R_far (p := ⟨gb430, 6, none⟩) (Kd.R_far (p := ⟨gb430, 5, none⟩) (Kd.R_far (p := ⟨gb430, 4, none⟩) (Kd.R_far (p := ⟨gb430, 3, none⟩) (Kd.R_far (p := ⟨gb430, 2, none⟩) (Kd.R_far (p := ⟨gb430, 1, none⟩) (Kd.R_far (p := ⟨gb430, 0, none⟩) (Kd.R_mono HO_3.out (fun k_ hk => (⟨hk, hk.2⟩ : _ ∧ k_ ≠ gb430))) (fun _ hk => hk.2) (.bool ((rd_T24 t411 x8_3).f0))) (fun _ hk => hk.2) (.int .i64 ((rd_T24 t411 x8_3).f1))) (fun _ hk => hk.2) (.int .i64 ((rd_T24 t411 x8_3).f2))) (fun _ hk => hk.2) (.int .i64 ((rd_T24 t411 x8_3).f3))) (fun _ hk => hk.2) (.int .i64 ((rd_T24 t411 x8_3).f4))) (fun _ hk => hk.2) (.int .i64 ((rd_T24 t411 x8_3).f5))) (fun _ hk => hk.2) (.int .i64 ((rd_T24 t411 x8_3).f6))) (fun _ hk => hk.1.2)⟩, ⟨by (with_reducible repeat refine bu ?_); refine blk_far ?_ NB418_430.out _; (with_reducible repeat refine bu ?_); refine blk_far ?_ NB418_430.out _; (with_reducible repeat refine bu ?_); refine blk_far ?_ NB418_430.out _; (with_reducible repeat refine bu ?_); refine blk_far ?_ NB418_430.out _; (with_reducible repeat refine bu ?_); refine blk_far ?_ NB418_430.out _; (with_reducible repeat refine bu ?_); refine blk_far ?_ NB418_430.out _; (with_reducible repeat refine bu ?_); refine blk_far ?_ NB418_430.out _; (with_reducible repeat refine bu ?_); exact BK418.out⟩, ⟨by (with_reducible repeat refine bu ?_); refine blk_far ?_ NB419_430.out _; (with_reducible repeat refine bu ?_); refine blk_far ?_ NB419_430.out _; (with_reducible repeat refine bu ?_); refine blk_far ?_ NB419_430.out _; (with_reducible repeat refine bu ?_); refine blk_far ?_ NB419_430.out _; (with_reducible repeat refine bu ?_); refine blk_far ?_ NB419_430.out _; (with_reducible repeat refine bu ?_); refine blk_far ?_ NB419_430.out _; (with_reducible repeat refine bu ?_); refine blk_far ?_ NB419_430.out _; (with_reducible repeat refine bu ?_); exact BK419.out⟩, ⟨by (with_reducible repeat refine bu ?_); refine blk_put (cs := #[.bool ((rd_T24 t411 x8_3).f0), .int .i64 ((rd_T24 t411 x8_3).f1), .int .i64 ((rd_T24 t411 x8_3).f2), .int .i64 ((rd_T24 t411 x8_3).f3), .int .i64 ((rd_T24 t411 x8_3).f4), .int .i64 ((rd_T24 t411 x8_3).f5), .int .i64 0]) ?_ 6 _ rfl; (with_reducible repeat refine bu ?_); refine blk_put (cs := #[.bool ((rd_T24 t411 x8_3).f0), .int .i64 ((rd_T24 t411 x8_3).f1), .int .i64 ((rd_T24 t411 x8_3).f2), .int .i64 ((rd_T24 t411 x8_3).f3), .int .i64 ((rd_T24 t411 x8_3).f4), .int .i64 0, .int .i64 0]) ?_ 5 _ rfl; (with_reducible repeat refine bu ?_); refine blk_put (cs := #[.bool ((rd_T24 t411 x8_3).f0), .int .i64 ((rd_T24 t411 x8_3).f1), .int .i64 ((rd_T24 t411 x8_3).f2), .int .i64 ((rd_T24 t411 x8_3).f3), .int .i64 0, .int .i64 0, .int .i64 0]) ?_ 4 _ rfl; (with_reducible repeat refine bu ?_); refine blk_put (cs := #[.bool ((rd_T24 t411 x8_3).f0), .int .i64 ((rd_T24 t411 x8_3).f1), .int .i64 ((rd_T24 t411 x8_3).f2), .int .i64 0, .int .i64 0, .int .i64 0, .int .i64 0]) ?_ 3 _ rfl; (with_reducible repeat refine bu ?_); refine blk_put (cs := #[.bool ((rd_T24 t411 x8_3).f0), .int .i64 ((rd_T24 t411 x8_3).f1), .int .i64 0, .int .i64 0, .int .i64 0, .int .i64 0, .int .i64 0]) ?_ 2 _ rfl; (with_reducible repeat refine bu ?_); refine blk_put (cs := #[.bool ((rd_T24 t411 x8_3).f0), .int .i64 0, .int .i64 0, .int .i64 0, .int .i64 0, .int .i64 0, .int .i64 0]) ?_ 1 _ rfl; (with_reducible repeat refine bu ?_); refine blk_put (cs := #[.bool false, .int .i64 0, .int .i64 0, .int .i64 0, .int .i64 0, .int .i64 0, .int .i64 0]) ?_ 0 _ rfl; (with_reducible repeat refine bu ?_); exact BK430.out⟩, ⟨by repeat (first | (with_reducible first | exact HB.out | apply below_alloc | apply pw_below_drewN | apply below_drew1 | refine below_set ?_ GE418.out | refine below_set ?_ GE419.out | refine below_set ?_ GE430.out) | exact HB.out)⟩⟩
                          case rest =>
                            clear HC47
                            try clear c1
                            try clear c2
                            try clear c2b0
                            try clear c2b1
                            try clear p2
                            try clear c3
                            try clear c4
                            try clear p4
                            try clear q4
                            try clear hx4
                            try clear c5
                            try clear c6
                            try clear c6b0
                            try clear c6b1
                            try clear c6b2
                            try clear p6
                            try clear c7
                            try clear c8
                            try clear c10
                            try clear c13
                            try clear c14
                            try clear c15
                            try clear c17
                            try clear c18
                            try clear c18b0
                            try clear c19
                            try clear c19b0
                            try clear c21
                            try clear c22
                            try clear c22b0
                            try clear c22b1
                            try clear c32
                            try clear c34
                            try clear c39
                            try clear c42
                            try clear p42
                            try clear q42
                            try clear hx42
                            try clear c45
                            try clear c45b0
                            try clear c46
                            try clear c46b0
                            try clear c49
                            try clear c50
                            try clear c52
                            try clear c52b0
                            try clear c53
                            try clear c53b0
                            try clear c54
                            try clear c54b0
                            try clear c55
                            try clear c55b0
                            try clear c56
                            try clear c56b0
                            try clear c57
                            try clear c58
                            try clear c60
                            try clear c63
                            try clear c64
                            try clear p64
                            try clear c66
                            try clear c69
                            try clear c70
                            try clear c72
                            try clear c75
                            try clear c76
                            try clear c78
                            try clear c81
                            try clear c82
                            try clear c84
                            try clear c86
                            try clear c87
                            try clear c89
                            try clear hcz11_0
                            try clear hcz11_1
                            try clear hcz12_0
                            try clear hcz12_1
                            try clear hcz15_0
                            try clear hcz15_1
                            try clear hcz16_0
                            try clear hcz16_1
                            try clear hcz35_0
                            try clear hcz35_1
                            try clear hcz37_0
                            try clear hcz37_1
                            try clear hcz40_0
                            try clear hcz40_1
                            try clear hcz51_0
                            try clear hcz51_1
                            try clear hcz51_2
                            try clear hcz51_3
                            try clear hcz51_4
                            try clear hcz51_5
                            try clear hcz51_6
                            try clear hcz59_0
                            try clear hcz59_1
                            try clear hcz61_0
                            try clear hcz61_1
                            try clear hcz61_2
                            try clear hcz61_3
                            try clear hcz61_4
                            try clear hcz61_5
                            try clear hcz61_6
                            try clear hcz62_0
                            try clear hcz62_1
                            try clear hcz65_0
                            try clear hcz65_1
                            try clear hcz67_0
                            try clear hcz67_1
                            try clear hcz67_2
                            try clear hcz67_3
                            try clear hcz67_4
                            try clear hcz67_5
                            try clear hcz67_6
                            try clear hcz68_0
                            try clear hcz68_1
                            try clear hcz71_0
                            try clear hcz71_1
                            try clear hcz73_0
                            try clear hcz73_1
                            try clear hcz73_2
                            try clear hcz73_3
                            try clear hcz73_4
                            try clear hcz73_5
                            try clear hcz73_6
                            try clear hcz74_0
                            try clear hcz74_1
                            try clear hcz77_0
                            try clear hcz77_1
                            try clear hcz79_0
                            try clear hcz79_1
                            try clear hcz79_2
                            try clear hcz79_3
                            try clear hcz79_4
                            try clear hcz79_5
                            try clear hcz79_6
                            try clear hcz80_0
                            try clear hcz80_1
                            try clear hcz83_0
                            try clear hcz83_1
                            try clear hcz85_0
                            try clear hcz85_1
                            try clear hcz85_2
                            try clear hcz85_3
                            try clear hcz85_4
                            try clear hcz85_5
                            try clear hcz85_6
                            try clear hcz88_0
                            try clear hcz88_1
                            try clear hcz90_0
                            try clear hcz90_1
                            try clear hcz90_2
                            try clear hcz90_3
                            try clear hcz90_4
                            try clear hcz90_5
                            try clear hcz90_6
                            try clear hfz11_0
                            try clear hfz11_1
                            try clear hfz12_0
                            try clear hfz12_1
                            try clear hfz15_0
                            try clear hfz15_1
                            try clear hfz16_0
                            try clear hfz16_1
                            try clear hfz35_0
                            try clear hfz35_1
                            try clear hfz37_0
                            try clear hfz37_1
                            try clear hfz40_0
                            try clear hfz40_1
                            try clear hfz51_0
                            try clear hfz51_1
                            try clear hfz51_2
                            try clear hfz51_3
                            try clear hfz51_4
                            try clear hfz51_5
                            try clear hfz51_6
                            try clear hfz59_0
                            try clear hfz59_1
                            try clear hfz61_0
                            try clear hfz61_1
                            try clear hfz61_2
                            try clear hfz61_3
                            try clear hfz61_4
                            try clear hfz61_5
                            try clear hfz61_6
                            try clear hfz62_0
                            try clear hfz62_1
                            try clear hfz65_0
                            try clear hfz65_1
                            try clear hfz67_0
                            try clear hfz67_1
                            try clear hfz67_2
                            try clear hfz67_3
                            try clear hfz67_4
                            try clear hfz67_5
                            try clear hfz67_6
                            try clear hfz68_0
                            try clear hfz68_1
                            try clear hfz71_0
                            try clear hfz71_1
                            try clear hfz73_0
                            try clear hfz73_1
                            try clear hfz73_2
                            try clear hfz73_3
                            try clear hfz73_4
                            try clear hfz73_5
                            try clear hfz73_6
                            try clear hfz74_0
                            try clear hfz74_1
                            try clear hfz77_0
                            try clear hfz77_1
                            try clear hfz79_0
                            try clear hfz79_1
                            try clear hfz79_2
                            try clear hfz79_3
                            try clear hfz79_4
                            try clear hfz79_5
                            try clear hfz79_6
                            try clear hfz80_0
                            try clear hfz80_1
                            try clear hfz83_0
                            try clear hfz83_1
                            try clear hfz85_0
                            try clear hfz85_1
                            try clear hfz85_2
                            try clear hfz85_3
                            try clear hfz85_4
                            try clear hfz85_5
                            try clear hfz85_6
                            try clear hfz88_0
                            try clear hfz88_1
                            try clear hfz90_0
                            try clear hfz90_1
                            try clear hfz90_2
                            try clear hfz90_3
                            try clear hfz90_4
                            try clear hfz90_5
                            try clear hfz90_6
                            try clear hx422_0
                            try clear hx422_1
                            try clear hx422_2
                            try clear hx422_3
                            try clear hx422_4
                            try clear hx422_5
                            try clear hx422_6
                            try clear hx429_0
                            try clear hx429_1
                            try clear hx429_2
                            try clear hx429_3
                            try clear hx429_4
                            try clear hx429_5
                            try clear hx429_6
                            try clear p2
                            try clear p4
                            try clear p42
                            try clear p422
                            try clear p429
                            try clear p6
                            try clear q4
                            try clear q42
                            try clear q422
                            try clear q429
                            obtain ⟨kq, x10_46, rfl, HA, HJ46, HO_3, BK418, BK419, BK430, HB⟩ := hcut
                            cases kq with
                            | zero => exact absurd HA.out (by simp [laws_FnRulLess.j3])
                            | succ kj46 =>
                              have H := HA.out
                              clear HA
                              simp only [laws_FnRulLess.j3] at H
                              obtain ⟨y431, hy431⟩ : ∃ y_ : List (S24), y_ = (([] : List (S24))) := ⟨_, rfl⟩
                              replace H : (if 0 ≤ x8_3 then (if x8_3 ≤ (t411.length : Int) then ((some (t411.take (x8_3 : Int).toNat : List (S24))).bind fun y434 => (if y431.length + y434.length < 2513169434916 then ((some (y431 ++ y434 : List (S24))).bind fun y438 => (if 0 ≤ (wrap64 (x8_3 + 1)) then (if (wrap64 (x8_3 + 1)) ≤ (t411.length : Int) then ((some (t411.drop ((wrap64 (x8_3 + 1)) : Int).toNat : List (S24))).bind fun y441 => (if y438.length + y441.length < 2513169434916 then (if x10_46 = true then (laws_FnRulLess.j4 kj46 t411 t420 x8_3 x10_46 false t414 t415 t416 t417 ((rd_T24 t411 x8_3).f0) ((rd_T24 t411 x8_3).f1) ((rd_T24 t411 x8_3).f2) ((rd_T24 t411 x8_3).f3) ((rd_T24 t411 x8_3).f4) ((rd_T24 t411 x8_3).f5) ((rd_T24 t411 x8_3).f6)) else ((impl_RulMay.f (y438 ++ y441) t414 t415 t416 t417).bind fun t448 => (laws_FnRulLess.j4 kj46 t411 t420 x8_3 x10_46 (t448 != t420) t414 t415 t416 t417 ((rd_T24 t411 x8_3).f0) ((rd_T24 t411 x8_3).f1) ((rd_T24 t411 x8_3).f2) ((rd_T24 t411 x8_3).f3) ((rd_T24 t411 x8_3).f4) ((rd_T24 t411 x8_3).f5) ((rd_T24 t411 x8_3).f6)))) else (none))) else (none)) else (none))) else (none))) else (none)) else (none)) = some r := by first | (rw [hy431]; with_reducible exact H) | (have H2_ := (Option.bind_some _ _).symm.trans H; rw [hy431]; with_reducible exact H2_) | (have H2_ := (Option.bind_some _ _).symm.trans H; with_reducible exact H2_) | with_reducible exact H | (rw [hy431]; exact H) | exact H
                              have Ny431 := Aside0.mk hy431
                              clear hy431
                              by_cases c91 : 0 ≤ x8_3
                              · rw [if_pos c91] at H
                                have c91b0 := eq_true c91
                                have c91b1 : decide (0 ≤ x8_3) = true := decide_eq_true c91
                                clear c91
                                by_cases c92 : x8_3 ≤ (t411.length : Int)
                                · rw [if_pos c92] at H
                                  have c92b0 := eq_true c92
                                  have c92b1 : decide (x8_3 ≤ (t411.length : Int)) = true := decide_eq_true c92
                                  clear c92
                                  obtain ⟨y434, hy434⟩ : ∃ y_ : List (S24), y_ = (t411.take (x8_3 : Int).toNat) := ⟨_, rfl⟩
                                  replace H : (if y431.length + y434.length < 2513169434916 then ((some (y431 ++ y434 : List (S24))).bind fun y438 => (if 0 ≤ (wrap64 (x8_3 + 1)) then (if (wrap64 (x8_3 + 1)) ≤ (t411.length : Int) then ((some (t411.drop ((wrap64 (x8_3 + 1)) : Int).toNat : List (S24))).bind fun y441 => (if y438.length + y441.length < 2513169434916 then (if x10_46 = true then (laws_FnRulLess.j4 kj46 t411 t420 x8_3 x10_46 false t414 t415 t416 t417 ((rd_T24 t411 x8_3).f0) ((rd_T24 t411 x8_3).f1) ((rd_T24 t411 x8_3).f2) ((rd_T24 t411 x8_3).f3) ((rd_T24 t411 x8_3).f4) ((rd_T24 t411 x8_3).f5) ((rd_T24 t411 x8_3).f6)) else ((impl_RulMay.f (y438 ++ y441) t414 t415 t416 t417).bind fun t448 => (laws_FnRulLess.j4 kj46 t411 t420 x8_3 x10_46 (t448 != t420) t414 t415 t416 t417 ((rd_T24 t411 x8_3).f0) ((rd_T24 t411 x8_3).f1) ((rd_T24 t411 x8_3).f2) ((rd_T24 t411 x8_3).f3) ((rd_T24 t411 x8_3).f4) ((rd_T24 t411 x8_3).f5) ((rd_T24 t411 x8_3).f6)))) else (none))) else (none)) else (none))) else (none)) = some r := by first | (rw [hy434]; with_reducible exact H) | (have H2_ := (Option.bind_some _ _).symm.trans H; rw [hy434]; with_reducible exact H2_) | (have H2_ := (Option.bind_some _ _).symm.trans H; with_reducible exact H2_) | with_reducible exact H | (rw [hy434]; exact H) | exact H
                                  have Ny434 := Aside0.mk hy434
                                  clear hy434
                                  by_cases c93 : y431.length + y434.length < 2513169434916
                                  · rw [if_pos c93] at H
                                    have LMc93 := Aside0.mk c93
                                    clear c93
                                    obtain ⟨y438, hy438⟩ : ∃ y_ : List (S24), y_ = (y431 ++ y434) := ⟨_, rfl⟩
                                    replace H : (if 0 ≤ (wrap64 (x8_3 + 1)) then (if (wrap64 (x8_3 + 1)) ≤ (t411.length : Int) then ((some (t411.drop ((wrap64 (x8_3 + 1)) : Int).toNat : List (S24))).bind fun y441 => (if y438.length + y441.length < 2513169434916 then (if x10_46 = true then (laws_FnRulLess.j4 kj46 t411 t420 x8_3 x10_46 false t414 t415 t416 t417 ((rd_T24 t411 x8_3).f0) ((rd_T24 t411 x8_3).f1) ((rd_T24 t411 x8_3).f2) ((rd_T24 t411 x8_3).f3) ((rd_T24 t411 x8_3).f4) ((rd_T24 t411 x8_3).f5) ((rd_T24 t411 x8_3).f6)) else ((impl_RulMay.f (y438 ++ y441) t414 t415 t416 t417).bind fun t448 => (laws_FnRulLess.j4 kj46 t411 t420 x8_3 x10_46 (t448 != t420) t414 t415 t416 t417 ((rd_T24 t411 x8_3).f0) ((rd_T24 t411 x8_3).f1) ((rd_T24 t411 x8_3).f2) ((rd_T24 t411 x8_3).f3) ((rd_T24 t411 x8_3).f4) ((rd_T24 t411 x8_3).f5) ((rd_T24 t411 x8_3).f6)))) else (none))) else (none)) else (none)) = some r := by first | (rw [hy438]; with_reducible exact H) | (have H2_ := (Option.bind_some _ _).symm.trans H; rw [hy438]; with_reducible exact H2_) | (have H2_ := (Option.bind_some _ _).symm.trans H; with_reducible exact H2_) | with_reducible exact H | (rw [hy438]; exact H) | exact H
                                    have Ny438 := Aside0.mk hy438
                                    clear hy438
                                    obtain ⟨ji94, hji94⟩ : ∃ j_ : Int, (wrap64 (x8_3 + 1)) = j_ := ⟨_, rfl⟩
                                    replace H : (if 0 ≤ (ji94) then (if (ji94) ≤ (t411.length : Int) then ((some (t411.drop ((ji94) : Int).toNat : List (S24))).bind fun y441 => (if y438.length + y441.length < 2513169434916 then (if x10_46 = true then (laws_FnRulLess.j4 kj46 t411 t420 x8_3 x10_46 false t414 t415 t416 t417 ((rd_T24 t411 x8_3).f0) ((rd_T24 t411 x8_3).f1) ((rd_T24 t411 x8_3).f2) ((rd_T24 t411 x8_3).f3) ((rd_T24 t411 x8_3).f4) ((rd_T24 t411 x8_3).f5) ((rd_T24 t411 x8_3).f6)) else ((impl_RulMay.f (y438 ++ y441) t414 t415 t416 t417).bind fun t448 => (laws_FnRulLess.j4 kj46 t411 t420 x8_3 x10_46 (t448 != t420) t414 t415 t416 t417 ((rd_T24 t411 x8_3).f0) ((rd_T24 t411 x8_3).f1) ((rd_T24 t411 x8_3).f2) ((rd_T24 t411 x8_3).f3) ((rd_T24 t411 x8_3).f4) ((rd_T24 t411 x8_3).f5) ((rd_T24 t411 x8_3).f6)))) else (none))) else (none)) else (none)) = some r := by first | (rw [hji94] at H; exact H) | (simp only [hji94] at H ⊢; exact H)
                                    have hji94w : (IntKind.i64.wrap (x8_3 + 1)) = ji94 := (i64_w _).trans hji94
                                    by_cases c95 : 0 ≤ (ji94)
                                    · rw [if_pos c95] at H
                                      have c95b0 := eq_true c95
                                      have c95b1 : decide (0 ≤ (ji94)) = true := decide_eq_true c95
                                      clear c95
                                      by_cases c96 : (ji94) ≤ (t411.length : Int)
                                      · rw [if_pos c96] at H
                                        have c96b0 := eq_true c96
                                        have c96b1 : decide ((ji94) ≤ (t411.length : Int)) = true := decide_eq_true c96
                                        clear c96
                                        obtain ⟨y441, hy441⟩ : ∃ y_ : List (S24), y_ = (t411.drop ((ji94) : Int).toNat) := ⟨_, rfl⟩
                                        replace H : (if y438.length + y441.length < 2513169434916 then (if x10_46 = true then (laws_FnRulLess.j4 kj46 t411 t420 x8_3 x10_46 false t414 t415 t416 t417 ((rd_T24 t411 x8_3).f0) ((rd_T24 t411 x8_3).f1) ((rd_T24 t411 x8_3).f2) ((rd_T24 t411 x8_3).f3) ((rd_T24 t411 x8_3).f4) ((rd_T24 t411 x8_3).f5) ((rd_T24 t411 x8_3).f6)) else ((impl_RulMay.f (y438 ++ y441) t414 t415 t416 t417).bind fun t448 => (laws_FnRulLess.j4 kj46 t411 t420 x8_3 x10_46 (t448 != t420) t414 t415 t416 t417 ((rd_T24 t411 x8_3).f0) ((rd_T24 t411 x8_3).f1) ((rd_T24 t411 x8_3).f2) ((rd_T24 t411 x8_3).f3) ((rd_T24 t411 x8_3).f4) ((rd_T24 t411 x8_3).f5) ((rd_T24 t411 x8_3).f6)))) else (none)) = some r := by first | (rw [hy441]; with_reducible exact H) | (have H2_ := (Option.bind_some _ _).symm.trans H; rw [hy441]; with_reducible exact H2_) | (have H2_ := (Option.bind_some _ _).symm.trans H; with_reducible exact H2_) | with_reducible exact H | (rw [hy441]; exact H) | exact H
                                        have Ny441 := Aside0.mk hy441
                                        clear hy441
                                        by_cases c97 : y438.length + y441.length < 2513169434916
                                        · rw [if_pos c97] at H
                                          have LMc97 := Aside0.mk c97
                                          clear c97
                                          obtain ⟨y445, hy445⟩ : ∃ y_ : List (S24), y_ = (y438 ++ y441) := ⟨_, rfl⟩
                                          replace H : (if x10_46 = true then (laws_FnRulLess.j4 kj46 t411 t420 x8_3 x10_46 false t414 t415 t416 t417 ((rd_T24 t411 x8_3).f0) ((rd_T24 t411 x8_3).f1) ((rd_T24 t411 x8_3).f2) ((rd_T24 t411 x8_3).f3) ((rd_T24 t411 x8_3).f4) ((rd_T24 t411 x8_3).f5) ((rd_T24 t411 x8_3).f6)) else ((impl_RulMay.f y445 t414 t415 t416 t417).bind fun t448 => (laws_FnRulLess.j4 kj46 t411 t420 x8_3 x10_46 (t448 != t420) t414 t415 t416 t417 ((rd_T24 t411 x8_3).f0) ((rd_T24 t411 x8_3).f1) ((rd_T24 t411 x8_3).f2) ((rd_T24 t411 x8_3).f3) ((rd_T24 t411 x8_3).f4) ((rd_T24 t411 x8_3).f5) ((rd_T24 t411 x8_3).f6)))) = some r := by first | (rw [hy445]; with_reducible exact H) | (have H2_ := (Option.bind_some _ _).symm.trans H; rw [hy445]; with_reducible exact H2_) | (have H2_ := (Option.bind_some _ _).symm.trans H; with_reducible exact H2_) | with_reducible exact H | (rw [hy445]; exact H) | exact H
                                          have Ny445 := Aside0.mk hy445
                                          clear hy445
                                          have HC98 := Aside0.mk H
                                          clear H
                                          try go_wp2
                                          have n0_ := Aside0.mk (Kd.R_drew HO_3.out)
                                          have n1_ := Aside0.mk (blk_drew BK418.out)
                                          have n2_ := Aside0.mk (blk_drew BK419.out)
                                          have n3_ := Aside0.mk (blk_drew BK430.out)
                                          have n4_ := Aside0.mk (below_drew1 HB.out)
                                          clear HO_3
                                          clear BK418
                                          clear BK419
                                          clear BK430
                                          clear HB
                                          have HO_3 := n0_
                                          have BK418 := n1_
                                          have BK419 := n2_
                                          have BK430 := n3_
                                          have HB := n4_
                                          clear n0_ n1_ n2_ n3_ n4_
                                          have q100 : (x8_3 : Int) ≤ ((t411.length : Int) : Int) := of_decide_eq_true (by first | (with_reducible assumption) | assumption)
                                          obtain ⟨i0100, hi0100, _, hsz100, _⟩ := info_parts info24
                                          have hroom100 : t411.length ≤ co13 := (Kd.R_reads' HO_3.out).2.1
                                          have hC100 : Kd.C k24 _ (some ad429) t411.length t411 := (Kd.R_reads' HO_3.out).2.2
                                          have hcut100 := cut_to (P := Try.prog) 31 24 .i64 Try.underlying31 hi0100 (some ad429) t411.length co13 x8_3 (of_decide_eq_true (by first | (with_reducible assumption) | assumption)) q100 hroom100
                                          have hr100 := Kd.C_take (m := (x8_3 : Int).toNat) hC100 (by omega)
                                          have hy100 : y434.length = (x8_3 : Int).toNat := (by rw [Ny434.out, List.length_take]; omega)
                                          rw [← Ny434.out] at hr100
                                          rw [← hy100] at hcut100
                                          have HR437 := Aside0.mk hr100
                                          have HC437 := Aside0.mk (show y434.length ≤ co13 from by omega)
                                          clear hr100 hC100 hroom100 hi0100 hsz100
                                          have KY100 := Aside0.mk hy100
                                          clear hy100
                                          have KL100 := Aside0.mk (show (x8_3 : Int).toNat ≤ t411.length from by omega)
                                          replace q100 := eq_true q100
                                          have q101 : ((ji94) : Int) ≤ ((t411.length : Int) : Int) := of_decide_eq_true (by first | (with_reducible assumption) | assumption)
                                          obtain ⟨i0101, hi0101, _, hsz101, _⟩ := info_parts info24
                                          have hroom101 : t411.length ≤ co13 := (Kd.R_reads' HO_3.out).2.1
                                          have hC101 : Kd.C k24 _ (some ad429) t411.length t411 := (Kd.R_reads' HO_3.out).2.2
                                          have q0101 : (0 : Int) ≤ ((ji94) : Int) := of_decide_eq_true (by first | (with_reducible assumption) | assumption)
                                          have hcut101 := cut_from (P := Try.prog) 31 24 .i64 Try.underlying31 hi0101 7 hsz101 (some ad429) t411.length co13 (ji94) q0101 q101
                                          have hr101 := Kd.C_drop (m := ((ji94) : Int).toNat) (c := co13) hC101 (by omega) hroom101
                                          obtain ⟨A101, hA101⟩ : ∃ A1, A1 = (if co13 = ((ji94) : Int).toNat then (some ad429) else ((some ad429) : Option Addr).map (·.add (((ji94) : Int).toNat * 7))) := ⟨_, rfl⟩
                                          obtain ⟨c101, hc101⟩ : ∃ c1, c1 = co13 - ((ji94) : Int).toNat := ⟨_, rfl⟩
                                          have hy101 : y441.length = t411.length - ((ji94) : Int).toNat := (by rw [Ny441.out, List.length_drop] <;> omega)
                                          rw [show (t411).drop ((ji94) : Int).toNat = y441 from Ny441.out.symm] at hr101
                                          replace hr101 : Kd.C k24 _ A101 y441.length y441 := (by rw [hA101]; exact hr101)
                                          rw [← hy101, ← hA101, ← hc101] at hcut101
                                          have HR444 := Aside0.mk hr101
                                          have HC444 := Aside0.mk (show y441.length ≤ c101 from by rw [hy101, hc101]; exact Nat.sub_le_sub_right hroom101 _)
                                          clear hr101 hC101 hroom101 hi0101 hsz101 hc101
                                          have KY101 := Aside0.mk hy101
                                          have KA101 := Aside0.mk hA101
                                          clear hy101 hA101
                                          have KL101 := Aside0.mk (show ((ji94) : Int).toNat ≤ t411.length from by omega)
                                          replace q101 := eq_true q101
                                          refine start_ (n := 11) (S := fun w' => True) (ds := []) #[false, false, false, false, false, false, false, false, false, false, false] (by kernel_rfl) rfl rfl trivial (fun hHeld => ?_); refine with_tabW laws_FnRulLess.tab19 laws_FnRulLess.bits19 (fun HT_ HW_ => ?_)
                                          generalize wc.drew = w99 at HO_3 BK418 BK419 BK430 HB HR437 HR444 hHeld ⊢
                                          refine pure_ (i := 1) (N := some 109) (v := ?_) (a' := ?_) #[false, true, false, false, false, false, false, false, false, false, false] rfl rfl (any_of HT_.out (by kernel_rfl)) (fun _ _ _ h => h) (Or.inl ⟨by rfl, ?_⟩) ?_ ?_
                                          rotate_left
                                          · intro w'
                                            go_simp
                                            with_reducible rfl
                                          rotate_left
                                          · simp only [Act.put, List.setIfInBounds_toArray, List.set_cons_zero, List.set_cons_succ, i64_w, i32_w]
                                            rfl
                                          refine pure_ (i := 2) (N := some 110) (v := ?_) (a' := ?_) #[false, true, true, false, false, false, false, false, false, false, false] rfl rfl (any_of HT_.out (by kernel_rfl)) (fun _ _ _ h => h) (Or.inl ⟨by rfl, ?_⟩) ?_ ?_
                                          rotate_left
                                          · intro w'
                                            go_simp
                                            with_reducible rfl
                                          rotate_left
                                          · simp only [Act.put, List.setIfInBounds_toArray, List.set_cons_zero, List.set_cons_succ, i64_w, i32_w]
                                            rfl
                                          refine pure_ (i := 3) (N := some 111) (v := ?_) (a' := ?_) #[false, true, true, true, false, false, false, false, false, false, false] rfl rfl (any_of HT_.out (by kernel_rfl)) (fun _ _ _ h => h) (Or.inl ⟨by rfl, ?_⟩) ?_ ?_
                                          rotate_left
                                          · intro w'
                                            go_simp
                                            with_reducible rfl
                                          rotate_left
                                          · simp only [Act.put, List.setIfInBounds_toArray, List.set_cons_zero, List.set_cons_succ, i64_w, i32_w]
                                            rfl
                                          refine pure_ (i := 5) (N := some 113) (v := ?_) (a' := ?_) #[false, true, true, true, false, true, false, false, false, false, false] rfl rfl (any_of HT_.out (by kernel_rfl)) (fun _ _ _ h => h) (Or.inl ⟨by rfl, ?_⟩) ?_ ?_
                                          rotate_left
                                          · intro w'
                                            go_simp
                                            with_reducible rfl
                                          rotate_left
                                          · simp only [Act.put, List.setIfInBounds_toArray, List.set_cons_zero, List.set_cons_succ, i64_w, i32_w]
                                            rfl
                                          refine pure_ (i := 6) (N := some 114) (v := ?_) (a' := ?_) #[false, true, true, true, false, true, true, false, false, false, false] rfl rfl (any_of HT_.out (by kernel_rfl)) (fun _ _ _ h => h) (Or.inl ⟨by rfl, ?_⟩) ?_ ?_
                                          rotate_left
                                          · intro w'
                                            go_simp
                                            with_reducible rfl
                                          rotate_left
                                          · simp only [Act.put, List.setIfInBounds_toArray, List.set_cons_zero, List.set_cons_succ, i64_w, i32_w]
                                            rfl
                                          refine pure_ (i := 7) (N := some 115) (v := ?_) (a' := ?_) #[false, true, true, true, false, true, true, true, false, false, false] rfl rfl (any_of HT_.out (by kernel_rfl)) (fun _ _ _ h => h) (Or.inl ⟨by rfl, ?_⟩) ?_ ?_
                                          rotate_left
                                          · intro w'
                                            go_simp
                                            with_reducible rfl
                                          rotate_left
                                          · simp only [Act.put, List.setIfInBounds_toArray, List.set_cons_zero, List.set_cons_succ, i64_w, i32_w]
                                            rfl
                                          refine pure_ (i := 8) (N := some 116) (v := ?_) (a' := ?_) #[false, true, true, true, false, true, true, true, true, false, false] rfl rfl (any_of HT_.out (by kernel_rfl)) (fun _ _ _ h => h) (Or.inl ⟨by rfl, ?_⟩) ?_ ?_
                                          rotate_left
                                          · intro w'
                                            go_simp
                                            with_reducible rfl
                                          rotate_left
                                          · simp only [Act.put, List.setIfInBounds_toArray, List.set_cons_zero, List.set_cons_succ, i64_w, i32_w]
                                            rfl
                                          refine one_ (i := 0) (N := some 108) #[true, true, true, true, false, true, true, true, true, false, false] rfl rfl (one_of HT_.out (by kernel_rfl)) (by decide) (fun K hK => ?_)
                                          refine Kd.R_lit_step k24 _ 24 ?hg (N := 108) ?hd (xs := ([] : List (S24))) (inner := []) (ok := fun _ => True) (okp := fun _ => True) ?hr ?hp (fun _ hk => hk) trivial (Below.refl _ _) (Nat.le_refl _) (by simp) ?_; (case hd => rfl); (case hg => rfl); (case hr => first | (go_simp; done) | (go_simp; rfl)); (case hp => exact (Reps.none _ _))
                                          intro v432 w102 ho103 hb hg_ hnew_
                                          clear hg_ hnew_
                                          (first | rw [← Ny431.out] at ho103 | (simp only [Int.reduceToNat] at ho103; rw [← Ny431.out] at ho103))
                                          have n0_ := Aside0.mk (Kd.R_elder' (rs HO_3) (Kd.R_base ho103) hb)
                                          have n1_ := Aside0.mk (Kd.R_lower (Kd.R_newB (Kd.R_new' ho103 (Kd.R_lt (rs HO_3))) (g := gb430) (o := .cells #[.bool ((rd_T24 t411 x8_3).f0), .int .i64 ((rd_T24 t411 x8_3).f1), .int .i64 ((rd_T24 t411 x8_3).f2), .int .i64 ((rd_T24 t411 x8_3).f3), .int .i64 ((rd_T24 t411 x8_3).f4), .int .i64 ((rd_T24 t411 x8_3).f5), .int .i64 ((rd_T24 t411 x8_3).f6)] 24 (0, 0)) (bk BK430)) (below_size (bl HB)))
                                          have n2_ := bkB BK418 hb
                                          have n3_ := bkB BK419 hb
                                          have n4_ := bkB BK430 hb
                                          have n5_ := Aside0.mk (Kd.C_below (by repeat (first | (with_reducible exact HR437.out) | (with_reducible refine Kd.C_alloc ?_ _) | (with_reducible refine Kd.C_drewN ?_ _) | (with_reducible refine Kd.C_drew ?_) | exact HR437.out)) hb)
                                          have n6_ := Aside0.mk (Kd.C_below (by repeat (first | (with_reducible exact HR444.out) | (with_reducible refine Kd.C_alloc ?_ _) | (with_reducible refine Kd.C_drewN ?_ _) | (with_reducible refine Kd.C_drew ?_) | exact HR444.out)) hb)
                                          have n7_ := Aside0.mk (below_step (bl HB) hb)
                                          clear HO_3
                                          clear BK418
                                          clear BK419
                                          clear BK430
                                          clear HR437
                                          clear HR444
                                          clear HB
                                          have HO_3 := n0_
                                          have HO433 := n1_
                                          have BK418 := n2_
                                          have BK419 := n3_
                                          have BK430 := n4_
                                          have HR437 := n5_
                                          have HR444 := n6_
                                          have HB := n7_
                                          clear n0_ n1_ n2_ n3_ n4_ n5_ n6_ n7_
                                          clear hb ho103
                                          refine hK.out _ _ trivial (fun hHeld => ?_)
                                          clear hK K
                                          refine norm_ (a' := ?_) ?_ ?_
                                          rotate_left
                                          · show Act.put _ (some 108) _ = _
                                            simp only [Act.put, List.setIfInBounds_toArray, List.set_cons_zero, List.set_cons_succ, i64_w, i32_w]
                                            rfl
                                          refine one_ (i := 4) (N := some 112) #[true, true, true, true, true, true, true, true, true, false, false] rfl rfl (one_of HT_.out (by kernel_rfl)) (by decide) (fun K hK => ?_)
                                          refine Kd.R_append_rows_step k24 (w0 := w) w.heap.size (by rfl) (.tmp 108) (.tmp 111) 31 24 (.agg #[(.bool false), (.int .i64 0), (.int .i64 0), (.int .i64 0), (.int .i64 0), (.int .i64 0), (.int .i64 0)]) 56 rfl Try.underlying31 info24 rfl (by decide) (by omega) v432 y431 y434 _ _ _ (fun k_ => some k_ ≠ (.slice (some ad429) t411.length co13 : Value).ownBlock ∧ k_ ≠ gb430) (fun _ => False) rfl rfl ?aO ?aR (fun _ _ h => h) (fun _ h => h.elim) ?aF ?aB ?aS ?aL ?_
                                          (case aR => repeat (first | exact (by repeat (first | (with_reducible exact HR437.out) | (with_reducible refine Kd.C_alloc ?_ _) | (with_reducible refine Kd.C_drewN ?_ _) | (with_reducible refine Kd.C_drew ?_) | exact HR437.out)) | (with_reducible refine Kd.C_alloc ?_ _) | (with_reducible refine Kd.C_drewN ?_ _) | (with_reducible refine Kd.C_drew ?_)))
                                          (case aB => exact (bl HB))
                                          (case aF => exact (fun k_ hk => ⟨Kd.fresh' (Kd.R_lt (rs HO_3)) k_ hk, Kd.freshB (g := gb430) (o := .cells #[.bool ((rd_T24 t411 x8_3).f0), .int .i64 ((rd_T24 t411 x8_3).f1), .int .i64 ((rd_T24 t411 x8_3).f2), .int .i64 ((rd_T24 t411 x8_3).f3), .int .i64 ((rd_T24 t411 x8_3).f4), .int .i64 ((rd_T24 t411 x8_3).f5), .int .i64 ((rd_T24 t411 x8_3).f6)] 24 (0, 0)) (bk BK430) k_ hk⟩))
                                          (case aO => exact (by (with_reducible repeat apply ru); exact Kd.R_mono HO433.out (fun _ hk => ⟨hk.1.2, hk.2⟩)))
                                          (case aS => exact (below_size (bl HB)))
                                          (case aL => have := LMc93.out; omega)
                                          intro v439 w104 ho hb hg hat
                                          rw [← Ny438.out] at ho
                                          have n0_ := Aside0.mk (Kd.R_after (ok := (fun k_ => k_ ≠ gb430)) (rs HO_3) hg hat)
                                          have n1_ := Aside0.mk (blk_grown (g := gb418) (o := .cells #[.int .i64 t414, .int .i64 t415] 29 (0, 0)) (bk BK418) hg (Kd.R_ne HO433.out BK418.out (by decide)))
                                          have n2_ := Aside0.mk (blk_grown (g := gb419) (o := .cells #[.int .i64 t416, .int .i64 t417] 29 (0, 0)) (bk BK419) hg (Kd.R_ne HO433.out BK419.out (by decide)))
                                          have n3_ := Aside0.mk (blk_grown (g := gb430) (o := .cells #[.bool ((rd_T24 t411 x8_3).f0), .int .i64 ((rd_T24 t411 x8_3).f1), .int .i64 ((rd_T24 t411 x8_3).f2), .int .i64 ((rd_T24 t411 x8_3).f3), .int .i64 ((rd_T24 t411 x8_3).f4), .int .i64 ((rd_T24 t411 x8_3).f5), .int .i64 ((rd_T24 t411 x8_3).f6)] 24 (0, 0)) (bk BK430) hg (Kd.R_away HO433.out (fun _ hk => hk.2)))
                                          have n4_ := Aside0.mk (hb)
                                          have n5_ := Aside0.mk ((show Kd.C k24 w104 (some ad429) y434.length y434 from by rw [Ny434.out]; exact Kd.C_take (m := (x8_3 : Int).toNat) ((Kd.R_reads' (Kd.R_after (ok := (fun k_ => k_ ≠ gb430)) (rs HO_3) hg hat)).2.2) KL100.out))
                                          have n6_ := Aside0.mk ((show Kd.C k24 w104 A101 y441.length y441 from by rw [Ny441.out, KA101.out]; exact Kd.C_drop (m := ((ji94) : Int).toNat) (c := co13) ((Kd.R_reads' (Kd.R_after (ok := (fun k_ => k_ ≠ gb430)) (rs HO_3) hg hat)).2.2) KL101.out ((Kd.R_reads' (Kd.R_after (ok := (fun k_ => k_ ≠ gb430)) (rs HO_3) hg hat)).2.1)))
                                          have n7_ := Aside0.mk (ho)
                                          clear HO_3
                                          clear BK418
                                          clear BK419
                                          clear BK430
                                          clear HB
                                          clear HR437
                                          clear HR444
                                          clear HO433
                                          have HO_3 := n0_
                                          have BK418 := n1_
                                          have BK419 := n2_
                                          have BK430 := n3_
                                          have HB := n4_
                                          have HR437 := n5_
                                          have HR444 := n6_
                                          have HO440 := n7_
                                          clear n0_ n1_ n2_ n3_ n4_ n5_ n6_ n7_
                                          clear ho hb hg hat
                                          refine hK.out _ _ trivial (fun hHeld => ?_)
                                          clear hK K
                                          refine norm_ (a' := ?_) ?_ ?_
                                          rotate_left
                                          · show Act.put _ (some 112) _ = _
                                            simp only [Act.put, List.setIfInBounds_toArray, List.set_cons_zero, List.set_cons_succ, i64_w, i32_w]
                                            rfl
                                          refine one_ (i := 9) (N := some 117) #[true, true, true, true, true, true, true, true, true, true, false] rfl rfl (one_of HT_.out (by kernel_rfl)) (by decide) (fun K hK => ?_)
                                          refine Kd.R_append_rows_step k24 (w0 := w) w.heap.size (by rfl) (.tmp 112) (.tmp 116) 31 24 (.agg #[(.bool false), (.int .i64 0), (.int .i64 0), (.int .i64 0), (.int .i64 0), (.int .i64 0), (.int .i64 0)]) 56 rfl Try.underlying31 info24 rfl (by decide) (by omega) v439 y438 y441 _ _ _ (fun k_ => some k_ ≠ (.slice (some ad429) t411.length co13 : Value).ownBlock ∧ k_ ≠ gb430) (fun _ => False) rfl rfl ?aO ?aR (fun _ _ h => h) (fun _ h => h.elim) ?aF ?aB ?aS ?aL ?_
                                          (case aR => repeat (first | exact (by repeat (first | (with_reducible exact HR444.out) | (with_reducible refine Kd.C_alloc ?_ _) | (with_reducible refine Kd.C_drewN ?_ _) | (with_reducible refine Kd.C_drew ?_) | exact HR444.out)) | (with_reducible refine Kd.C_alloc ?_ _) | (with_reducible refine Kd.C_drewN ?_ _) | (with_reducible refine Kd.C_drew ?_)))
                                          (case aB => exact (bl HB))
                                          (case aF => exact (fun k_ hk => ⟨Kd.fresh' (Kd.R_lt (rs HO_3)) k_ hk, Kd.freshB (g := gb430) (o := .cells #[.bool ((rd_T24 t411 x8_3).f0), .int .i64 ((rd_T24 t411 x8_3).f1), .int .i64 ((rd_T24 t411 x8_3).f2), .int .i64 ((rd_T24 t411 x8_3).f3), .int .i64 ((rd_T24 t411 x8_3).f4), .int .i64 ((rd_T24 t411 x8_3).f5), .int .i64 ((rd_T24 t411 x8_3).f6)] 24 (0, 0)) (bk BK430) k_ hk⟩))
                                          (case aO => exact (rs HO440))
                                          (case aS => exact (below_size (bl HB)))
                                          (case aL => have := LMc97.out; omega)
                                          intro v446 w105 ho hb hg hat
                                          rw [← Ny445.out] at ho
                                          have n0_ := Aside0.mk (Kd.R_after (ok := (fun k_ => k_ ≠ gb430)) (rs HO_3) hg hat)
                                          have n1_ := Aside0.mk (blk_grown (g := gb418) (o := .cells #[.int .i64 t414, .int .i64 t415] 29 (0, 0)) (bk BK418) hg (Kd.R_ne HO440.out BK418.out (by decide)))
                                          have n2_ := Aside0.mk (blk_grown (g := gb419) (o := .cells #[.int .i64 t416, .int .i64 t417] 29 (0, 0)) (bk BK419) hg (Kd.R_ne HO440.out BK419.out (by decide)))
                                          have n3_ := Aside0.mk (blk_grown (g := gb430) (o := .cells #[.bool ((rd_T24 t411 x8_3).f0), .int .i64 ((rd_T24 t411 x8_3).f1), .int .i64 ((rd_T24 t411 x8_3).f2), .int .i64 ((rd_T24 t411 x8_3).f3), .int .i64 ((rd_T24 t411 x8_3).f4), .int .i64 ((rd_T24 t411 x8_3).f5), .int .i64 ((rd_T24 t411 x8_3).f6)] 24 (0, 0)) (bk BK430) hg (Kd.R_away HO440.out (fun _ hk => hk.2)))
                                          have n4_ := Aside0.mk (hb)
                                          have n5_ := Aside0.mk ((show Kd.C k24 w105 (some ad429) y434.length y434 from by rw [Ny434.out]; exact Kd.C_take (m := (x8_3 : Int).toNat) ((Kd.R_reads' (Kd.R_after (ok := (fun k_ => k_ ≠ gb430)) (rs HO_3) hg hat)).2.2) KL100.out))
                                          have n6_ := Aside0.mk ((show Kd.C k24 w105 A101 y441.length y441 from by rw [Ny441.out, KA101.out]; exact Kd.C_drop (m := ((ji94) : Int).toNat) (c := co13) ((Kd.R_reads' (Kd.R_after (ok := (fun k_ => k_ ≠ gb430)) (rs HO_3) hg hat)).2.2) KL101.out ((Kd.R_reads' (Kd.R_after (ok := (fun k_ => k_ ≠ gb430)) (rs HO_3) hg hat)).2.1)))
                                          have n7_ := Aside0.mk (ho)
                                          clear HO_3
                                          clear BK418
                                          clear BK419
                                          clear BK430
                                          clear HB
                                          clear HR437
                                          clear HR444
                                          clear HO440
                                          have HO_3 := n0_
                                          have BK418 := n1_
                                          have BK419 := n2_
                                          have BK430 := n3_
                                          have HB := n4_
                                          have HR437 := n5_
                                          have HR444 := n6_
                                          have HO447 := n7_
                                          clear n0_ n1_ n2_ n3_ n4_ n5_ n6_ n7_
                                          clear ho hb hg hat
                                          refine hK.out _ _ trivial (fun hHeld => ?_)
                                          clear hK K
                                          refine norm_ (a' := ?_) ?_ ?_
                                          rotate_left
                                          · show Act.put _ (some 117) _ = _
                                            simp only [Act.put, List.setIfInBounds_toArray, List.set_cons_zero, List.set_cons_succ, i64_w, i32_w]
                                            rfl
                                          refine pure_ (i := 10) (N := some 11) (v := ?_) (a' := ?_) #[true, true, true, true, true, true, true, true, true, true, true] rfl rfl (any_of HT_.out (by kernel_rfl)) (fun _ _ _ h => h) (Or.inl ⟨by rfl, ?_⟩) ?_ ?_
                                          rotate_left
                                          · intro w'
                                            go_simp
                                            with_reducible rfl
                                          rotate_left
                                          · simp only [Act.put, List.setIfInBounds_toArray, List.set_cons_zero, List.set_cons_succ, i64_w, i32_w]
                                            rfl
                                          refine done_ (done_of HT_.out (by kernel_rfl)) ?_
                                          go_upto_region 20 with (fail)
                                          go_cut [127] (fun v127 wc => ∃ (kq : Nat) (x127_97 : Bool), v127 = .bool x127_97 ∧ Aside0 (laws_FnRulLess.j4 kq t411 t420 x8_3 x10_46 x127_97 t414 t415 t416 t417 ((rd_T24 t411 x8_3).f0) ((rd_T24 t411 x8_3).f1) ((rd_T24 t411 x8_3).f2) ((rd_T24 t411 x8_3).f3) ((rd_T24 t411 x8_3).f4) ((rd_T24 t411 x8_3).f5) ((rd_T24 t411 x8_3).f6) = some r) ∧ Aside0 (kq ≤ kj46) ∧ Aside0 (Kd.R k24 24 wc w.heap.size (fun k_ => k_ ≠ gb430) (.slice (some ad429) t411.length co13) t411) ∧ Aside0 (wc.heap[gb418]? = some (.cells #[.int .i64 t414, .int .i64 t415] 29 (0, 0))) ∧ Aside0 (wc.heap[gb419]? = some (.cells #[.int .i64 t416, .int .i64 t417] 29 (0, 0))) ∧ Aside0 (wc.heap[gb430]? = some (.cells #[.bool ((rd_T24 t411 x8_3).f0), .int .i64 ((rd_T24 t411 x8_3).f1), .int .i64 ((rd_T24 t411 x8_3).f2), .int .i64 ((rd_T24 t411 x8_3).f3), .int .i64 ((rd_T24 t411 x8_3).f4), .int .i64 ((rd_T24 t411 x8_3).f5), .int .i64 ((rd_T24 t411 x8_3).f6)] 24 (0, 0))) ∧ Aside0 (Kd.C k24 wc (some ad429) y434.length y434) ∧ Aside0 (Kd.C k24 wc A101 y441.length y441) ∧ Aside0 (Below w.heap.size w wc))
                                          case first =>
                                            have H := HC98.out
                                            clear HC98
                                            by_cases c106 : x10_46 = true
                                            · subst c106
                                              have H1 : (laws_FnRulLess.j4 kj46 t411 t420 x8_3 true false t414 t415 t416 t417 ((rd_T24 t411 x8_3).f0) ((rd_T24 t411 x8_3).f1) ((rd_T24 t411 x8_3).f2) ((rd_T24 t411 x8_3).f3) ((rd_T24 t411 x8_3).f4) ((rd_T24 t411 x8_3).f5) ((rd_T24 t411 x8_3).f6)) = some r := by rw [if_pos rfl] at H; exact H
                                              clear H
                                              have H := H1
                                              clear H1
                                              have H' := Aside0.mk H
                                              clear H
                                              go_wp2
                                              go_meet
                                              case rel => exact ⟨_, (false), (by first | rfl | (simp; done) | (simp [*]; done)), H', ⟨by have := HK1.out; have := HJ29.out; have := HK3.out; have := HJ46.out; first | omega | exact Nat.le_refl _⟩, ⟨by (with_reducible repeat apply ru); exact Kd.R_mono HO_3.out (fun _ hk => hk.1)⟩, ⟨by (with_reducible repeat refine bu ?_); exact BK418.out⟩, ⟨by (with_reducible repeat refine bu ?_); exact BK419.out⟩, ⟨by (with_reducible repeat refine bu ?_); exact BK430.out⟩, ⟨by repeat (first | (with_reducible exact HR437.out) | (with_reducible refine Kd.C_alloc ?_ _) | (with_reducible refine Kd.C_drewN ?_ _) | (with_reducible refine Kd.C_drew ?_) | exact HR437.out)⟩, ⟨by repeat (first | (with_reducible exact HR444.out) | (with_reducible refine Kd.C_alloc ?_ _) | (with_reducible refine Kd.C_drewN ?_ _) | (with_reducible refine Kd.C_drew ?_) | exact HR444.out)⟩, ⟨by repeat (first | (with_reducible first | exact HB.out | apply below_alloc | apply pw_below_drewN | apply below_drew1 | refine below_set ?_ GE418.out | refine below_set ?_ GE419.out | refine below_set ?_ GE430.out) | exact HB.out)⟩⟩
                                            · replace c106 := Bool.eq_false_iff.mpr c106
                                              subst c106
                                              have H1 : ((impl_RulMay.f y445 t414 t415 t416 t417).bind fun t448 => (laws_FnRulLess.j4 kj46 t411 t420 x8_3 false (t448 != t420) t414 t415 t416 t417 ((rd_T24 t411 x8_3).f0) ((rd_T24 t411 x8_3).f1) ((rd_T24 t411 x8_3).f2) ((rd_T24 t411 x8_3).f3) ((rd_T24 t411 x8_3).f4) ((rd_T24 t411 x8_3).f5) ((rd_T24 t411 x8_3).f6))) = some r := by rw [if_neg (show ¬ (false = true) by decide)] at H; exact H
                                              clear H
                                              have H := H1
                                              clear H1
                                              replace H := Option.bind_eq_some_iff.mp H
                                              obtain ⟨t448, A1070, H⟩ := H
                                              replace H : (laws_FnRulLess.j4 kj46 t411 t420 x8_3 false (t448 != t420) t414 t415 t416 t417 ((rd_T24 t411 x8_3).f0) ((rd_T24 t411 x8_3).f1) ((rd_T24 t411 x8_3).f2) ((rd_T24 t411 x8_3).f3) ((rd_T24 t411 x8_3).f4) ((rd_T24 t411 x8_3).f5) ((rd_T24 t411 x8_3).f6)) = some r := H
                                              have A107 := Aside0.mk A1070
                                              clear A1070
                                              have H' := Aside0.mk H
                                              clear H
                                              have hnb108 := NB418_419.out
                                              have hnc108 := NB419_418.out
                                              have hnb109 := NB418_430.out
                                              have hnc109 := NB430_418.out
                                              have hcz110_0 : w105.cell? ⟨gb418, 0, none⟩ = some (.int .i64 t414) := (blk_cell BK418.out 0).trans rfl
                                              have hcz110_1 : w105.cell? ⟨gb418, 1, none⟩ = some (.int .i64 t415) := (blk_cell BK418.out 1).trans rfl
                                              have hfz110_0 := blk_frozen BK418.out 0
                                              have hfz110_1 := blk_frozen BK418.out 1
                                              have hnb111 := NB419_430.out
                                              have hnc111 := NB430_419.out
                                              have hcz112_0 : w105.cell? ⟨gb419, 0, none⟩ = some (.int .i64 t416) := (blk_cell BK419.out 0).trans rfl
                                              have hcz112_1 : w105.cell? ⟨gb419, 1, none⟩ = some (.int .i64 t417) := (blk_cell BK419.out 1).trans rfl
                                              have hfz112_0 := blk_frozen BK419.out 0
                                              have hfz112_1 := blk_frozen BK419.out 1
                                              obtain ⟨Ao113, co113, eo113⟩ := Kd.R_slice HO447.out
                                              subst eo113
                                              go_wp2_with (first | (go_at_call 15; (with_reducible refine (impl_RulMay.calls _ _ y445 t414 t415 t416 t417 t448 _ ?side1 ?side2 A107.out).mono ?_); (case side1 => repeat (first | exact (Kd.R_reads' HO447.out).2.2 | (with_reducible refine Kd.C_alloc ?_ _) | (with_reducible refine Kd.C_drewN ?_ _) | (with_reducible refine Kd.C_drew ?_))); (case side2 => exact (Kd.R_reads' HO447.out).2.1); rintro e w114 ⟨rfl, hb⟩; have n0_ := Aside0.mk (Kd.R_below (rs HO_3) hb); have n1_ := Aside0.mk (Kd.R_below (rs HO447) hb); have n2_ := bkB BK418 hb; have n3_ := bkB BK419 hb; have n4_ := bkB BK430 hb; have n5_ := Aside0.mk (Kd.C_below (by repeat (first | (with_reducible exact HR437.out) | (with_reducible refine Kd.C_alloc ?_ _) | (with_reducible refine Kd.C_drewN ?_ _) | (with_reducible refine Kd.C_drew ?_) | exact HR437.out)) hb); have n6_ := Aside0.mk (Kd.C_below (by repeat (first | (with_reducible exact HR444.out) | (with_reducible refine Kd.C_alloc ?_ _) | (with_reducible refine Kd.C_drewN ?_ _) | (with_reducible refine Kd.C_drew ?_) | exact HR444.out)) hb); have n7_ := Aside0.mk (below_step (bl HB) hb); clear HO_3; clear HO447; clear BK418; clear BK419; clear BK430; clear HR437; clear HR444; clear HB; have HO_3 := n0_; have HO447 := n1_; have BK418 := n2_; have BK419 := n3_; have BK430 := n4_; have HR437 := n5_; have HR444 := n6_; have HB := n7_; clear n0_ n1_ n2_ n3_ n4_ n5_ n6_ n7_; (try clear hb); (try clear hb2); (try clear hk); (try clear hi)))
                                              go_meet
                                              case rel => exact ⟨_, ((t448 != t420)), (by first | rfl | (simp; done) | (simp [*]; done)), H', ⟨by have := HK1.out; have := HJ29.out; have := HK3.out; have := HJ46.out; first | omega | exact Nat.le_refl _⟩, ⟨by (with_reducible repeat apply ru); exact Kd.R_mono HO_3.out (fun _ hk => hk.1)⟩, ⟨by (with_reducible repeat refine bu ?_); exact BK418.out⟩, ⟨by (with_reducible repeat refine bu ?_); exact BK419.out⟩, ⟨by (with_reducible repeat refine bu ?_); exact BK430.out⟩, ⟨by repeat (first | (with_reducible exact HR437.out) | (with_reducible refine Kd.C_alloc ?_ _) | (with_reducible refine Kd.C_drewN ?_ _) | (with_reducible refine Kd.C_drew ?_) | exact HR437.out)⟩, ⟨by repeat (first | (with_reducible exact HR444.out) | (with_reducible refine Kd.C_alloc ?_ _) | (with_reducible refine Kd.C_drewN ?_ _) | (with_reducible refine Kd.C_drew ?_) | exact HR444.out)⟩, ⟨by repeat (first | (with_reducible first | exact HB.out | apply below_alloc | apply pw_below_drewN | apply below_drew1 | refine below_set ?_ GE418.out | refine below_set ?_ GE419.out | refine below_set ?_ GE430.out) | exact HB.out)⟩⟩
                                          case rest =>
                                            clear HC98
                                            try clear c1
                                            try clear q1
                                            try clear c2
                                            try clear p2
                                            try clear c3
                                            try clear c4
                                            try clear p4
                                            try clear q4
                                            try clear hx4
                                            try clear c5
                                            try clear c6
                                            try clear p6
                                            try clear c7
                                            try clear c8
                                            try clear c9
                                            try clear c10
                                            try clear q10
                                            try clear c11
                                            try clear c13
                                            try clear c14
                                            try clear c15
                                            try clear c17
                                            try clear c18
                                            try clear c18b0
                                            try clear c19
                                            try clear c19b0
                                            try clear c21
                                            try clear c22
                                            try clear c22b0
                                            try clear c22b1
                                            try clear c32
                                            try clear c34
                                            try clear c39
                                            try clear c42
                                            try clear p42
                                            try clear q42
                                            try clear hx42
                                            try clear c45
                                            try clear c45b0
                                            try clear c46
                                            try clear c46b0
                                            try clear c49
                                            try clear c50
                                            try clear c52
                                            try clear c52b0
                                            try clear c53
                                            try clear c53b0
                                            try clear c54
                                            try clear c54b0
                                            try clear c55
                                            try clear c55b0
                                            try clear c56
                                            try clear c56b0
                                            try clear c57
                                            try clear c58
                                            try clear c60
                                            try clear c63
                                            try clear c64
                                            try clear p64
                                            try clear c66
                                            try clear c69
                                            try clear c70
                                            try clear c72
                                            try clear c75
                                            try clear c76
                                            try clear c78
                                            try clear c81
                                            try clear c82
                                            try clear c84
                                            try clear c86
                                            try clear c87
                                            try clear c89
                                            try clear c91
                                            try clear c91b0
                                            try clear c91b1
                                            try clear c92
                                            try clear c92b0
                                            try clear c92b1
                                            try clear c93
                                            try clear c95
                                            try clear c95b0
                                            try clear c95b1
                                            try clear c96
                                            try clear c96b0
                                            try clear c96b1
                                            try clear c97
                                            try clear q100
                                            try clear c101
                                            try clear q101
                                            try clear c106
                                            try clear c108
                                            try clear c109
                                            try clear c111
                                            try clear hcz110_0
                                            try clear hcz110_1
                                            try clear hcz112_0
                                            try clear hcz112_1
                                            try clear hcz11_0
                                            try clear hcz11_1
                                            try clear hcz12_0
                                            try clear hcz12_1
                                            try clear hcz15_0
                                            try clear hcz15_1
                                            try clear hcz16_0
                                            try clear hcz16_1
                                            try clear hcz35_0
                                            try clear hcz35_1
                                            try clear hcz37_0
                                            try clear hcz37_1
                                            try clear hcz40_0
                                            try clear hcz40_1
                                            try clear hcz51_0
                                            try clear hcz51_1
                                            try clear hcz51_2
                                            try clear hcz51_3
                                            try clear hcz51_4
                                            try clear hcz51_5
                                            try clear hcz51_6
                                            try clear hcz59_0
                                            try clear hcz59_1
                                            try clear hcz61_0
                                            try clear hcz61_1
                                            try clear hcz61_2
                                            try clear hcz61_3
                                            try clear hcz61_4
                                            try clear hcz61_5
                                            try clear hcz61_6
                                            try clear hcz62_0
                                            try clear hcz62_1
                                            try clear hcz65_0
                                            try clear hcz65_1
                                            try clear hcz67_0
                                            try clear hcz67_1
                                            try clear hcz67_2
                                            try clear hcz67_3
                                            try clear hcz67_4
                                            try clear hcz67_5
                                            try clear hcz67_6
                                            try clear hcz68_0
                                            try clear hcz68_1
                                            try clear hcz71_0
                                            try clear hcz71_1
                                            try clear hcz73_0
                                            try clear hcz73_1
                                            try clear hcz73_2
                                            try clear hcz73_3
                                            try clear hcz73_4
                                            try clear hcz73_5
                                            try clear hcz73_6
                                            try clear hcz74_0
                                            try clear hcz74_1
                                            try clear hcz77_0
                                            try clear hcz77_1
                                            try clear hcz79_0
                                            try clear hcz79_1
                                            try clear hcz79_2
                                            try clear hcz79_3
                                            try clear hcz79_4
                                            try clear hcz79_5
                                            try clear hcz79_6
                                            try clear hcz80_0
                                            try clear hcz80_1
                                            try clear hcz83_0
                                            try clear hcz83_1
                                            try clear hcz85_0
                                            try clear hcz85_1
                                            try clear hcz85_2
                                            try clear hcz85_3
                                            try clear hcz85_4
                                            try clear hcz85_5
                                            try clear hcz85_6
                                            try clear hcz88_0
                                            try clear hcz88_1
                                            try clear hcz90_0
                                            try clear hcz90_1
                                            try clear hcz90_2
                                            try clear hcz90_3
                                            try clear hcz90_4
                                            try clear hcz90_5
                                            try clear hcz90_6
                                            try clear hfz110_0
                                            try clear hfz110_1
                                            try clear hfz112_0
                                            try clear hfz112_1
                                            try clear hfz11_0
                                            try clear hfz11_1
                                            try clear hfz12_0
                                            try clear hfz12_1
                                            try clear hfz15_0
                                            try clear hfz15_1
                                            try clear hfz16_0
                                            try clear hfz16_1
                                            try clear hfz35_0
                                            try clear hfz35_1
                                            try clear hfz37_0
                                            try clear hfz37_1
                                            try clear hfz40_0
                                            try clear hfz40_1
                                            try clear hfz51_0
                                            try clear hfz51_1
                                            try clear hfz51_2
                                            try clear hfz51_3
                                            try clear hfz51_4
                                            try clear hfz51_5
                                            try clear hfz51_6
                                            try clear hfz59_0
                                            try clear hfz59_1
                                            try clear hfz61_0
                                            try clear hfz61_1
                                            try clear hfz61_2
                                            try clear hfz61_3
                                            try clear hfz61_4
                                            try clear hfz61_5
                                            try clear hfz61_6
                                            try clear hfz62_0
                                            try clear hfz62_1
                                            try clear hfz65_0
                                            try clear hfz65_1
                                            try clear hfz67_0
                                            try clear hfz67_1
                                            try clear hfz67_2
                                            try clear hfz67_3
                                            try clear hfz67_4
                                            try clear hfz67_5
                                            try clear hfz67_6
                                            try clear hfz68_0
                                            try clear hfz68_1
                                            try clear hfz71_0
                                            try clear hfz71_1
                                            try clear hfz73_0
                                            try clear hfz73_1
                                            try clear hfz73_2
                                            try clear hfz73_3
                                            try clear hfz73_4
                                            try clear hfz73_5
                                            try clear hfz73_6
                                            try clear hfz74_0
                                            try clear hfz74_1
                                            try clear hfz77_0
                                            try clear hfz77_1
                                            try clear hfz79_0
                                            try clear hfz79_1
                                            try clear hfz79_2
                                            try clear hfz79_3
                                            try clear hfz79_4
                                            try clear hfz79_5
                                            try clear hfz79_6
                                            try clear hfz80_0
                                            try clear hfz80_1
                                            try clear hfz83_0
                                            try clear hfz83_1
                                            try clear hfz85_0
                                            try clear hfz85_1
                                            try clear hfz85_2
                                            try clear hfz85_3
                                            try clear hfz85_4
                                            try clear hfz85_5
                                            try clear hfz85_6
                                            try clear hfz88_0
                                            try clear hfz88_1
                                            try clear hfz90_0
                                            try clear hfz90_1
                                            try clear hfz90_2
                                            try clear hfz90_3
                                            try clear hfz90_4
                                            try clear hfz90_5
                                            try clear hfz90_6
                                            try clear hx422_0
                                            try clear hx422_1
                                            try clear hx422_2
                                            try clear hx422_3
                                            try clear hx422_4
                                            try clear hx422_5
                                            try clear hx422_6
                                            try clear hx429_0
                                            try clear hx429_1
                                            try clear hx429_2
                                            try clear hx429_3
                                            try clear hx429_4
                                            try clear hx429_5
                                            try clear hx429_6
                                            try clear p2
                                            try clear p4
                                            try clear p42
                                            try clear p422
                                            try clear p429
                                            try clear p6
                                            try clear p64
                                            try clear q0101
                                            try clear q100
                                            try clear q101
                                            try clear q4
                                            try clear q42
                                            try clear q422
                                            try clear q429
                                            obtain ⟨kq, x127_97, rfl, HA, HJ97, HO_3, BK418, BK419, BK430, HR437, HR444, HB⟩ := hcut
                                            cases kq with
                                            | zero => exact absurd HA.out (by simp [laws_FnRulLess.j4])
                                            | succ kj97 =>
                                              have H := HA.out
                                              clear HA
                                              simp only [laws_FnRulLess.j4] at H
                                              by_cases c115 : x127_97 = true
                                              · subst c115
                                                have H1 : (some false) = some r := by rw [if_pos rfl] at H; exact H
                                                clear H
                                                have H := H1
                                                clear H1
                                                exact absurd ((Option.some.inj H).trans hrt.out) (by decide)
                                              · replace c115 := Bool.eq_false_iff.mpr c115
                                                subst c115
                                                have H1 : (if x10_46 = true then (if 0 ≤ (wrap64 (x8_3 + 1)) then (if (wrap64 (x8_3 + 1)) ≤ (t411.length : Int) then ((impl_RulMay.f (t411.take ((wrap64 (x8_3 + 1)) : Int).toNat) t414 t415 t416 t417).bind fun t453 => (if (t453 == t420) = true then (some (t420 == ((rd_T24 t411 x8_3).f0))) else (some false))) else (none)) else (none)) else (laws_FnRulLess.l1 kj97 t411 t420 (wrap64 (x8_3 + 1)) t414 t415 t416 t417)) = some r := by rw [if_neg (show ¬ (false = true) by decide)] at H; exact H
                                                clear H
                                                have H := H1
                                                clear H1
                                                by_cases c116 : x10_46 = true
                                                · subst c116
                                                  have H1 : (if 0 ≤ (wrap64 (x8_3 + 1)) then (if (wrap64 (x8_3 + 1)) ≤ (t411.length : Int) then ((impl_RulMay.f (t411.take ((wrap64 (x8_3 + 1)) : Int).toNat) t414 t415 t416 t417).bind fun t453 => (if (t453 == t420) = true then (some (t420 == ((rd_T24 t411 x8_3).f0))) else (some false))) else (none)) else (none)) = some r := by rw [if_pos rfl] at H; exact H
                                                  clear H
                                                  have H := H1
                                                  clear H1
                                                  obtain ⟨ji117, hji117⟩ : ∃ j_ : Int, (wrap64 (x8_3 + 1)) = j_ := ⟨_, rfl⟩
                                                  (try obtain rfl : ji117 = ji94 := hji117.symm.trans hji94)
                                                  replace H : (if 0 ≤ (ji117) then (if (ji117) ≤ (t411.length : Int) then ((impl_RulMay.f (t411.take ((ji117) : Int).toNat) t414 t415 t416 t417).bind fun t453 => (if (t453 == t420) = true then (some (t420 == ((rd_T24 t411 x8_3).f0))) else (some false))) else (none)) else (none)) = some r := by first | (rw [hji117] at H; exact H) | (simp only [hji117] at H ⊢; exact H)
                                                  have hji117w : (IntKind.i64.wrap (x8_3 + 1)) = ji117 := (i64_w _).trans hji117
                                                  by_cases c118 : 0 ≤ (ji117)
                                                  · rw [if_pos c118] at H
                                                    have c118b0 := eq_true c118
                                                    have c118b1 : decide (0 ≤ (ji117)) = true := decide_eq_true c118
                                                    clear c118
                                                    by_cases c119 : (ji117) ≤ (t411.length : Int)
                                                    · rw [if_pos c119] at H
                                                      have c119b0 := eq_true c119
                                                      have c119b1 : decide ((ji117) ≤ (t411.length : Int)) = true := decide_eq_true c119
                                                      clear c119
                                                      obtain ⟨y449, hy449⟩ : ∃ y_ : List (S24), y_ = (t411.take ((ji117) : Int).toNat) := ⟨_, rfl⟩
                                                      replace H : ((impl_RulMay.f y449 t414 t415 t416 t417).bind fun t453 => (if (t453 == t420) = true then (some (t420 == ((rd_T24 t411 x8_3).f0))) else (some false))) = some r := by first | (rw [hy449]; with_reducible exact H) | (have H2_ := (Option.bind_some _ _).symm.trans H; rw [hy449]; with_reducible exact H2_) | (have H2_ := (Option.bind_some _ _).symm.trans H; with_reducible exact H2_) | with_reducible exact H | (rw [hy449]; exact H) | exact H
                                                      have Ny449 := Aside0.mk hy449
                                                      clear hy449
                                                      replace H := Option.bind_eq_some_iff.mp H
                                                      obtain ⟨t453, A1200, H⟩ := H
                                                      replace H : (if (t453 == t420) = true then (some (t420 == ((rd_T24 t411 x8_3).f0))) else (some false)) = some r := H
                                                      have A120 := Aside0.mk A1200
                                                      clear A1200
                                                      by_cases c121 : (t453 == t420) = true
                                                      · rw [if_pos c121] at H
                                                        have c121b0 : (t453 == t420) = true := c121
                                                        (try (have c121b1 : decide (t453 = t420) = true := by simpa using c121))
                                                        (try (have c121b2 : (t453 == t420) = true := by simpa using c121))
                                                        clear c121
                                                        obtain rfl := Option.some.inj H
                                                        try go_wp2
                                                        have n0_ := Aside0.mk (Kd.R_drew HO_3.out)
                                                        have n1_ := Aside0.mk (blk_drew BK418.out)
                                                        have n2_ := Aside0.mk (blk_drew BK419.out)
                                                        have n3_ := Aside0.mk (blk_drew BK430.out)
                                                        have n4_ := Aside0.mk (Kd.C_drew HR437.out)
                                                        have n5_ := Aside0.mk (Kd.C_drew HR444.out)
                                                        have n6_ := Aside0.mk (below_drew1 HB.out)
                                                        clear HO_3
                                                        clear BK418
                                                        clear BK419
                                                        clear BK430
                                                        clear HR437
                                                        clear HR444
                                                        clear HB
                                                        have HO_3 := n0_
                                                        have BK418 := n1_
                                                        have BK419 := n2_
                                                        have BK430 := n3_
                                                        have HR437 := n4_
                                                        have HR444 := n5_
                                                        have HB := n6_
                                                        clear n0_ n1_ n2_ n3_ n4_ n5_ n6_
                                                        have q123 : ((ji117) : Int) ≤ ((t411.length : Int) : Int) := of_decide_eq_true (by first | (with_reducible assumption) | assumption)
                                                        obtain ⟨i0123, hi0123, _, hsz123, _⟩ := info_parts info24
                                                        have hroom123 : t411.length ≤ co13 := (Kd.R_reads' HO_3.out).2.1
                                                        have hC123 : Kd.C k24 _ (some ad429) t411.length t411 := (Kd.R_reads' HO_3.out).2.2
                                                        have hcut123 := cut_to (P := Try.prog) 31 24 .i64 Try.underlying31 hi0123 (some ad429) t411.length co13 (ji117) (of_decide_eq_true (by first | (with_reducible assumption) | assumption)) q123 hroom123
                                                        have hr123 := Kd.C_take (m := ((ji117) : Int).toNat) hC123 (by omega)
                                                        have hy123 : y449.length = ((ji117) : Int).toNat := (by rw [Ny449.out, List.length_take]; omega)
                                                        rw [← Ny449.out] at hr123
                                                        rw [← hy123] at hcut123
                                                        have HR452 := Aside0.mk hr123
                                                        have HC452 := Aside0.mk (show y449.length ≤ co13 from by omega)
                                                        clear hr123 hC123 hroom123 hi0123 hsz123
                                                        have KY123 := Aside0.mk hy123
                                                        clear hy123
                                                        have KL123 := Aside0.mk (show ((ji117) : Int).toNat ≤ t411.length from by omega)
                                                        replace q123 := eq_true q123
                                                        refine start_ (n := 16) (S := fun w' => w'.cell? ⟨gb418, 0, none⟩ = some (.int .i64 t414) ∧ w'.cell? ⟨gb418, 1, none⟩ = some (.int .i64 t415) ∧ w'.cell? ⟨gb419, 0, none⟩ = some (.int .i64 t416) ∧ w'.cell? ⟨gb419, 1, none⟩ = some (.int .i64 t417) ∧ w'.cell? ⟨gb430, 0, none⟩ = some (.bool ((rd_T24 t411 x8_3).f0)) ∧ w'.cell? ⟨gb430, 1, none⟩ = some (.int .i64 ((rd_T24 t411 x8_3).f1)) ∧ w'.cell? ⟨gb430, 2, none⟩ = some (.int .i64 ((rd_T24 t411 x8_3).f2)) ∧ w'.cell? ⟨gb430, 3, none⟩ = some (.int .i64 ((rd_T24 t411 x8_3).f3)) ∧ w'.cell? ⟨gb430, 4, none⟩ = some (.int .i64 ((rd_T24 t411 x8_3).f4)) ∧ w'.cell? ⟨gb430, 5, none⟩ = some (.int .i64 ((rd_T24 t411 x8_3).f5)) ∧ w'.cell? ⟨gb430, 6, none⟩ = some (.int .i64 ((rd_T24 t411 x8_3).f6))) (ds := []) #[false, false, false, false, false, false, false, false, false, false, false, false, false, false, false, false] (by kernel_rfl) rfl rfl ⟨(blk_cell BK418.out 0).trans rfl, (blk_cell BK418.out 1).trans rfl, (blk_cell BK419.out 0).trans rfl, (blk_cell BK419.out 1).trans rfl, (blk_cell BK430.out 0).trans rfl, (blk_cell BK430.out 1).trans rfl, (blk_cell BK430.out 2).trans rfl, (blk_cell BK430.out 3).trans rfl, (blk_cell BK430.out 4).trans rfl, (blk_cell BK430.out 5).trans rfl, (blk_cell BK430.out 6).trans rfl⟩ (fun hHeld => ?_); refine with_tabW laws_FnRulLess.tab23 laws_FnRulLess.bits23 (fun HT_ HW_ => ?_)
                                                        generalize wc.drew = w122 at HO_3 BK418 BK419 BK430 HR437 HR444 HB HR452 hHeld ⊢
                                                        refine pure_ (i := 0) (N := some 129) (v := ?_) (a' := ?_) #[true, false, false, false, false, false, false, false, false, false, false, false, false, false, false, false] rfl rfl (any_of HT_.out (by kernel_rfl)) (fun _ _ _ h => h) (Or.inl ⟨by rfl, ?_⟩) ?_ ?_
                                                        rotate_left
                                                        · intro w'
                                                          go_simp
                                                          with_reducible rfl
                                                        rotate_left
                                                        · simp only [Act.put, List.setIfInBounds_toArray, List.set_cons_zero, List.set_cons_succ, i64_w, i32_w]
                                                          rfl
                                                        refine pure_ (i := 1) (N := some 130) (v := ?_) (a' := ?_) #[true, true, false, false, false, false, false, false, false, false, false, false, false, false, false, false] rfl rfl (any_of HT_.out (by kernel_rfl)) (fun _ _ _ h => h) (Or.inl ⟨by rfl, ?_⟩) ?_ ?_
                                                        rotate_left
                                                        · intro w'
                                                          go_simp
                                                          with_reducible rfl
                                                        rotate_left
                                                        · simp only [Act.put, List.setIfInBounds_toArray, List.set_cons_zero, List.set_cons_succ, i64_w, i32_w]
                                                          rfl
                                                        refine pure_ (i := 2) (N := some 131) (v := ?_) (a' := ?_) #[true, true, true, false, false, false, false, false, false, false, false, false, false, false, false, false] rfl rfl (any_of HT_.out (by kernel_rfl)) (fun _ _ _ h => h) (Or.inl ⟨by rfl, ?_⟩) ?_ ?_
                                                        rotate_left
                                                        · intro w'
                                                          go_simp
                                                          with_reducible rfl
                                                        rotate_left
                                                        · simp only [Act.put, List.setIfInBounds_toArray, List.set_cons_zero, List.set_cons_succ, i64_w, i32_w]
                                                          rfl
                                                        refine pure_ (i := 3) (N := some 132) (v := ?_) (a' := ?_) #[true, true, true, true, false, false, false, false, false, false, false, false, false, false, false, false] rfl rfl (any_of HT_.out (by kernel_rfl)) (fun _ _ _ h => h) (Or.inl ⟨by rfl, ?_⟩) ?_ ?_
                                                        rotate_left
                                                        · intro w'
                                                          go_simp
                                                          with_reducible rfl
                                                        rotate_left
                                                        · simp only [Act.put, List.setIfInBounds_toArray, List.set_cons_zero, List.set_cons_succ, i64_w, i32_w]
                                                          rfl
                                                        refine pure_ (i := 7) (N := some 136) (v := ?_) (a' := ?_) #[true, true, true, true, false, false, false, true, false, false, false, false, false, false, false, false] rfl rfl (any_of HT_.out (by kernel_rfl)) (fun _ _ _ h => h) (Or.inl ⟨by rfl, ?_⟩) ?_ ?_
                                                        rotate_left
                                                        · intro w'
                                                          go_simp
                                                          with_reducible rfl
                                                        rotate_left
                                                        · simp only [Act.put, List.setIfInBounds_toArray, List.set_cons_zero, List.set_cons_succ, i64_w, i32_w]
                                                          rfl
                                                        refine take_ (i := 4) (N := some 133) (v := ?_) (a' := ?_) #[true, true, true, true, true, false, false, true, false, false, false, false, false, false, false, false] rfl rfl (take_ofW HT_.out HW_.out (by kernel_rfl)) (fun _ _ _ h => h) (Or.inl ⟨by rfl, ?_⟩) hHeld ?_ ?_
                                                        rotate_left
                                                        · rintro w' ⟨s0, s1, s2, s3, s4, s5, s6, s7, s8, s9, s10⟩
                                                          go_simp
                                                          with_reducible rfl
                                                        rotate_left
                                                        · simp only [Act.put, List.setIfInBounds_toArray, List.set_cons_zero, List.set_cons_succ, i64_w, i32_w]
                                                          rfl
                                                        refine take_ (i := 5) (N := some 134) (v := ?_) (a' := ?_) #[true, true, true, true, true, true, false, true, false, false, false, false, false, false, false, false] rfl rfl (take_ofW HT_.out HW_.out (by kernel_rfl)) (fun _ _ _ h => h) (Or.inl ⟨by rfl, ?_⟩) hHeld ?_ ?_
                                                        rotate_left
                                                        · rintro w' ⟨s0, s1, s2, s3, s4, s5, s6, s7, s8, s9, s10⟩
                                                          go_simp
                                                          with_reducible rfl
                                                        rotate_left
                                                        · simp only [Act.put, List.setIfInBounds_toArray, List.set_cons_zero, List.set_cons_succ, i64_w, i32_w]
                                                          rfl
                                                        refine one_ (i := 6) (N := some 135) #[true, true, true, true, true, true, true, true, false, false, false, false, false, false, false, false] rfl rfl (one_of HT_.out (by kernel_rfl)) (by decide) (fun K hK => ?_)
                                                        refine goes_ Try.func15 (by kernel_rfl) rfl #[.slice (some ad429) y449.length co13, .agg #[.int .i64 t414, .int .i64 t415], .agg #[.int .i64 t416, .int .i64 t417]] (by rfl) rfl rfl (by (try simp only [List.map_toArray, List.map_cons, List.map_nil]); first | done | rfl | (simp only [List.length_drop, List.length_take]; rfl)) ?_
                                                        with_reducible refine (impl_RulMay.calls _ _ y449 t414 t415 t416 t417 t453 _ ?side1 ?side2 A120.out).mono ?_
                                                        (case side1 => repeat (first | exact (by repeat (first | (with_reducible exact HR452.out) | (with_reducible refine Kd.C_alloc ?_ _) | (with_reducible refine Kd.C_drewN ?_ _) | (with_reducible refine Kd.C_drew ?_) | exact HR452.out)) | (with_reducible refine Kd.C_alloc ?_ _) | (with_reducible refine Kd.C_drewN ?_ _) | (with_reducible refine Kd.C_drew ?_)))
                                                        (case side2 => exact HC452.out)
                                                        rintro e w124 ⟨rfl, hb⟩
                                                        refine ⟨_, rfl, ?_⟩
                                                        have n0_ := Aside0.mk (Kd.R_below (rs HO_3) hb)
                                                        have n1_ := bkB BK418 hb
                                                        have n2_ := bkB BK419 hb
                                                        have n3_ := bkB BK430 hb
                                                        have n4_ := Aside0.mk (Kd.C_below (by repeat (first | (with_reducible exact HR437.out) | (with_reducible refine Kd.C_alloc ?_ _) | (with_reducible refine Kd.C_drewN ?_ _) | (with_reducible refine Kd.C_drew ?_) | exact HR437.out)) hb)
                                                        have n5_ := Aside0.mk (Kd.C_below (by repeat (first | (with_reducible exact HR444.out) | (with_reducible refine Kd.C_alloc ?_ _) | (with_reducible refine Kd.C_drewN ?_ _) | (with_reducible refine Kd.C_drew ?_) | exact HR444.out)) hb)
                                                        have n6_ := Aside0.mk (Kd.C_below (by repeat (first | (with_reducible exact HR452.out) | (with_reducible refine Kd.C_alloc ?_ _) | (with_reducible refine Kd.C_drewN ?_ _) | (with_reducible refine Kd.C_drew ?_) | exact HR452.out)) hb)
                                                        have n7_ := Aside0.mk (below_step (bl HB) hb)
                                                        clear HO_3
                                                        clear BK418
                                                        clear BK419
                                                        clear BK430
                                                        clear HR437
                                                        clear HR444
                                                        clear HR452
                                                        clear HB
                                                        have HO_3 := n0_
                                                        have BK418 := n1_
                                                        have BK419 := n2_
                                                        have BK430 := n3_
                                                        have HR437 := n4_
                                                        have HR444 := n5_
                                                        have HR452 := n6_
                                                        have HB := n7_
                                                        clear n0_ n1_ n2_ n3_ n4_ n5_ n6_ n7_
                                                        (try clear hb)
                                                        (try clear hb2)
                                                        (try clear hk)
                                                        (try clear hi)
                                                        refine hK.out _ _ ⟨(blk_cell BK418.out 0).trans rfl, (blk_cell BK418.out 1).trans rfl, (blk_cell BK419.out 0).trans rfl, (blk_cell BK419.out 1).trans rfl, (blk_cell BK430.out 0).trans rfl, (blk_cell BK430.out 1).trans rfl, (blk_cell BK430.out 2).trans rfl, (blk_cell BK430.out 3).trans rfl, (blk_cell BK430.out 4).trans rfl, (blk_cell BK430.out 5).trans rfl, (blk_cell BK430.out 6).trans rfl⟩ (fun hHeld => ?_)
                                                        clear hK K
                                                        refine norm_ (a' := ?_) ?_ ?_
                                                        rotate_left
                                                        · show Act.put _ (some 135) _ = _
                                                          simp only [Act.put, List.setIfInBounds_toArray, List.set_cons_zero, List.set_cons_succ, i64_w, i32_w]
                                                          rfl
                                                        refine pure_ (i := 8) (N := some 137) (v := ?_) (a' := ?_) #[true, true, true, true, true, true, true, true, true, false, false, false, false, false, false, false] rfl rfl (any_of HT_.out (by kernel_rfl)) (fun _ _ _ h => h) (Or.inl ⟨by rfl, ?_⟩) ?_ ?_
                                                        rotate_left
                                                        · intro w'
                                                          go_simp
                                                          with_reducible rfl
                                                        rotate_left
                                                        · simp only [Act.put, List.setIfInBounds_toArray, List.set_cons_zero, List.set_cons_succ, i64_w, i32_w]
                                                          rfl
                                                        refine pure_ (i := 9) (N := some 138) (v := ?_) (a' := ?_) #[true, true, true, true, true, true, true, true, true, true, false, false, false, false, false, false] rfl rfl (any_of HT_.out (by kernel_rfl)) (fun _ _ _ h => h) (Or.inl ⟨by rfl, ?_⟩) ?_ ?_
                                                        rotate_left
                                                        · intro w'
                                                          go_simp
                                                          with_reducible rfl
                                                        rotate_left
                                                        · simp only [Act.put, List.setIfInBounds_toArray, List.set_cons_zero, List.set_cons_succ, i64_w, i32_w]
                                                          rfl
                                                        refine pure_ (i := 10) (N := some 139) (v := ?_) (a' := ?_) #[true, true, true, true, true, true, true, true, true, true, true, false, false, false, false, false] rfl rfl (any_of HT_.out (by kernel_rfl)) (fun _ _ _ h => h) (Or.inl ⟨by rfl, ?_⟩) ?_ ?_
                                                        rotate_left
                                                        · intro w'
                                                          go_simp
                                                          with_reducible rfl
                                                        rotate_left
                                                        · simp only [Act.put, List.setIfInBounds_toArray, List.set_cons_zero, List.set_cons_succ, i64_w, i32_w]
                                                          rfl
                                                        refine pure_ (i := 11) (N := some 140) (v := ?_) (a' := ?_) #[true, true, true, true, true, true, true, true, true, true, true, true, false, false, false, false] rfl rfl (any_of HT_.out (by kernel_rfl)) (fun _ _ _ h => h) (Or.inl ⟨by rfl, ?_⟩) ?_ ?_
                                                        rotate_left
                                                        · intro w'
                                                          go_simp
                                                          with_reducible rfl
                                                        rotate_left
                                                        · simp only [Act.put, List.setIfInBounds_toArray, List.set_cons_zero, List.set_cons_succ, i64_w, i32_w]
                                                          rfl
                                                        refine take_ (i := 12) (N := some 141) (v := ?_) (a' := ?_) #[true, true, true, true, true, true, true, true, true, true, true, true, true, false, false, false] rfl rfl (take_ofW HT_.out HW_.out (by kernel_rfl)) (fun _ _ _ h => h) (Or.inl ⟨by rfl, ?_⟩) hHeld ?_ ?_
                                                        rotate_left
                                                        · rintro w' ⟨s0, s1, s2, s3, s4, s5, s6, s7, s8, s9, s10⟩
                                                          go_simp
                                                          with_reducible rfl
                                                        rotate_left
                                                        · simp only [Act.put, List.setIfInBounds_toArray, List.set_cons_zero, List.set_cons_succ, i64_w, i32_w]
                                                          rfl
                                                        refine pure_ (i := 13) (N := some 142) (v := ?_) (a' := ?_) #[true, true, true, true, true, true, true, true, true, true, true, true, true, true, false, false] rfl rfl (any_of HT_.out (by kernel_rfl)) (fun _ _ _ h => h) (Or.inl ⟨by rfl, ?_⟩) ?_ ?_
                                                        rotate_left
                                                        · intro w'
                                                          go_simp
                                                          with_reducible rfl
                                                        rotate_left
                                                        · simp only [Act.put, List.setIfInBounds_toArray, List.set_cons_zero, List.set_cons_succ, i64_w, i32_w]
                                                          rfl
                                                        refine pure_ (i := 14) (N := some 143) (v := ?_) (a' := ?_) #[true, true, true, true, true, true, true, true, true, true, true, true, true, true, true, false] rfl rfl (any_of HT_.out (by kernel_rfl)) (fun _ _ _ h => h) (Or.inl ⟨by rfl, ?_⟩) ?_ ?_
                                                        rotate_left
                                                        · intro w'
                                                          go_simp
                                                          with_reducible rfl
                                                        rotate_left
                                                        · simp only [Act.put, List.setIfInBounds_toArray, List.set_cons_zero, List.set_cons_succ, i64_w, i32_w]
                                                          rfl
                                                        refine pure_ (i := 15) (N := some 2) (v := ?_) (a' := ?_) #[true, true, true, true, true, true, true, true, true, true, true, true, true, true, true, true] rfl rfl (any_of HT_.out (by kernel_rfl)) (fun _ _ _ h => h) (Or.inl ⟨by rfl, ?_⟩) ?_ ?_
                                                        rotate_left
                                                        · intro w'
                                                          go_simp
                                                          with_reducible rfl
                                                        rotate_left
                                                        · simp only [Act.put, List.setIfInBounds_toArray, List.set_cons_zero, List.set_cons_succ, i64_w, i32_w]
                                                          rfl
                                                        refine done_ (done_of HT_.out (by kernel_rfl)) ?_
                                                        try go_wp2
                                                        go_ret
                                                        exact ⟨by first | rfl | (simp [errW_none, errW_some] <;> rfl) | (simp only [← hji94, ← hji117]; first | rfl | (simp [errW_none, errW_some] <;> rfl)) | (simp [*, errW_none, errW_some] <;> rfl), by repeat (first | (with_reducible first | exact HB.out | apply below_alloc | apply pw_below_drewN | apply below_drew1 | refine below_set ?_ GE418.out | refine below_set ?_ GE419.out | refine below_set ?_ GE430.out) | exact HB.out)⟩
                                                      · rw [if_neg c121] at H
                                                        have c121b0 : (t453 == t420) = false := by simpa using c121
                                                        (try (have c121b1 : decide (t453 = t420) = false := by simpa using c121))
                                                        (try (have c121b2 : (t453 == t420) = false := by simpa using c121))
                                                        (try (have c121b3 : ¬ (t453 = t420) := by simpa using c121))
                                                        clear c121
                                                        exact absurd ((Option.some.inj H).trans hrt.out) (by decide)
                                                    · rw [if_neg c119] at H
                                                      exact absurd H (by simp)
                                                  · rw [if_neg c118] at H
                                                    exact absurd H (by simp)
                                                · replace c116 := Bool.eq_false_iff.mpr c116
                                                  subst c116
                                                  have H1 : (laws_FnRulLess.l1 kj97 t411 t420 (wrap64 (x8_3 + 1)) t414 t415 t416 t417) = some r := by rw [if_neg (show ¬ (false = true) by decide)] at H; exact H
                                                  clear H
                                                  have H := H1
                                                  clear H1
                                                  have H' := Aside0.mk H
                                                  clear H
                                                  go_wp2
                                                  go_roundg kj97
                                                  case measure => have := HK1.out; have := HJ29.out; have := HK3.out; have := HJ46.out; have := HJ97.out; omega
                                                  case rel => exact ⟨(wrap64 (x8_3 + 1)), (by first | rfl | (simp; done) | (simp [*]; done)), H', ⟨by have := HK1.out; have := HJ29.out; have := HK3.out; have := HJ46.out; have := HJ97.out; omega⟩, ⟨by (with_reducible repeat apply ru); exact Kd.R_mono HO_3.out (fun _ hk => trivial)⟩, ⟨by (with_reducible repeat refine bu ?_); exact BK418.out⟩, ⟨by (with_reducible repeat refine bu ?_); exact BK419.out⟩, ⟨by repeat (first | (with_reducible first | exact HB.out | apply below_alloc | apply pw_below_drewN | apply below_drew1 | refine below_set ?_ GE418.out | refine below_set ?_ GE419.out | refine below_set ?_ GE430.out) | exact HB.out)⟩⟩
                                        · rw [if_neg c97] at H
                                          exact absurd H (by simp)
                                      · rw [if_neg c96] at H
                                        exact absurd H (by simp)
                                    · rw [if_neg c95] at H
                                      exact absurd H (by simp)
                                  · rw [if_neg c93] at H
                                    exact absurd H (by simp)
                                · rw [if_neg c92] at H
                                  exact absurd H (by simp)
                              · rw [if_neg c91] at H
                                exact absurd H (by simp)
                        · rw [if_neg c46] at H
                          exact absurd H (by simp)
                      · rw [if_neg c45] at H
                        have c45b0 : decide (x8_3 < (t411.length : Int)) = false := decide_eq_false c45
                        clear c45
                        obtain rfl := Option.some.inj H
                        go_wp2
                        go_ret
                        exact ⟨by first | rfl | (simp [errW_none, errW_some] <;> rfl) | (simp [*, errW_none, errW_some] <;> rfl), by repeat (first | (with_reducible first | exact HB.out | apply below_alloc | apply pw_below_drewN | apply below_drew1 | refine below_set ?_ GE418.out | refine below_set ?_ GE419.out) | exact HB.out)⟩

/-- THE ONE PURE STATEMENT of laws_FnRulLess: yours. -/
def laws_FnRulLess.Pure : Prop := ∀ (l0 : List Int), l0.length ≤ maxLen → l0.length * 1 ≤ 140737488351232 → (∀ x ∈ l0, (Lit.int .u8 x).wf = true) → ∃ k, laws_FnRulLess.f k l0 = some true
theorem laws_FnRulLess.walk (P : laws_FnRulLess.Pure) (a0 : Option Addr) (len0 cap0 : Nat) (z0 : List Int) (w : World) (w0 : (a0 = none ∧ len0 = 0 ∧ cap0 = 0 ∧ z0 = []) ∨ ∃ x, a0 = some x ∧ len0 ≤ cap0 ∧ cap0 ≤ maxLen ∧ z0.length = cap0 ∧ (∀ i, i < z0.length → w.cell? (x.add i) = some (.int .u8 (z0.getD i 0))) ∧ ∀ n ∈ z0, (Lit.int .u8 n).wf = true) (y0 : len0 * 1 ≤ 140737488351232) :
    Calls Try.prog 5 #[.slice a0 len0 cap0] w fun e w' => e = .returned (.bool true) ∧ Below w.heap.size w w' := by
  obtain ⟨l0, rfl, hr0, hm0, hw0, hc0⟩ := ReadsInt.ofRowC w0
  obtain ⟨k, h⟩ := P l0 hm0 y0 hw0
  refine (laws_FnRulLess.calls k _ _ l0 true w (Kd.C_of_reads (d := (0 : Int)) (h1 := fun _ => rfl) hr0) hc0 h ⟨rfl⟩).mono ?_
  rintro e w' ⟨rfl, hd⟩
  exact ⟨rfl, hd⟩

end Go.Proofs.Ytiocgkggegahhaa.P
