import Derived.Test.YtiocgkggegahhaaDoorGLawFnRulTextx6
-- written by hw.py for this claim
namespace Go.Proofs.YtiocgkggegahhaaDoor.P
open Go.RowKit Go.Proofs.YtiocgkggegahhaaDoorUFnRulText.PrintWords Go.Proofs.YtiocgkggegahhaaDoorUFnRulText.PrintLast Go.Proofs.YtiocgkggegahhaaDoorUFnRulText.PrintMore
attribute [local go_sem] max2_int min2_int max_two min_two max_three min_three max_four min_four
set_option linter.unusedVariables false
set_option linter.unusedSimpArgs false

attribute [local go_sem high] eqA25
/-! ### laws_FnRulText: function 5 -/
mutual
def laws_FnRulText.j0 : Nat → List Int → List Int → Bool → Option (Bool)
  | 0, _, _, _ => none
  | k + 1, x0, x1, x20 => if x20 = true then (some true) else ((spec_DrawRulText.f k x0).bind fun bt342 => ((spec_DrawRulRead.f k x1).bind fun t350 => ((impl_RulRead.f t350).bind fun bt351 => ((spec_RulRead.f k t350).bind fun bt360 => ((impl_RulText.f bt342.1 bt342.2.1 bt342.2.2.1 bt342.2.2.2.1 bt342.2.2.2.2.1 bt342.2.2.2.2.2.1 bt342.2.2.2.2.2.2).bind fun t369 => ((spec_RulText.f k bt342.1 bt342.2.1 bt342.2.2.1 bt342.2.2.2.1 bt342.2.2.2.2.1 bt342.2.2.2.2.2.1 bt342.2.2.2.2.2.2).bind fun t370 => (if t369.toList = t370.toList then (if (!(bt351.1 == bt360.1) || (!(bt351.2.1 == bt360.2.1) || (!(bt351.2.2.1 == bt360.2.2.1) || (!(bt351.2.2.2.1 == bt360.2.2.2.1) || (!(bt351.2.2.2.2.1 == bt360.2.2.2.2.1) || (!(bt351.2.2.2.2.2.1 == bt360.2.2.2.2.2.1) || (!(bt351.2.2.2.2.2.2.1 == bt360.2.2.2.2.2.2.1)))))))) = true then (laws_FnRulText.j1 k t350 bt351.2.2.2.2.2.2.2 true bt342.1 bt342.2.1 bt342.2.2.1 bt342.2.2.2.1 bt342.2.2.2.2.1 bt342.2.2.2.2.2.1 bt342.2.2.2.2.2.2 bt351.1 bt351.2.1 bt351.2.2.1 bt351.2.2.2.1 bt351.2.2.2.2.1 bt351.2.2.2.2.2.1 bt351.2.2.2.2.2.2.1) else (if (bt351.2.2.2.2.2.2.2 != bt360.2.2.2.2.2.2.2) = true then (laws_FnRulText.j1 k t350 bt351.2.2.2.2.2.2.2 true bt342.1 bt342.2.1 bt342.2.2.1 bt342.2.2.2.1 bt342.2.2.2.2.1 bt342.2.2.2.2.2.1 bt342.2.2.2.2.2.2 bt351.1 bt351.2.1 bt351.2.2.1 bt351.2.2.2.1 bt351.2.2.2.2.1 bt351.2.2.2.2.2.1 bt351.2.2.2.2.2.2.1) else ((impl_RulOk.f bt342.1 bt342.2.1 bt342.2.2.1 bt342.2.2.2.1 bt342.2.2.2.2.1 bt342.2.2.2.2.2.1 bt342.2.2.2.2.2.2).bind fun t371 => ((spec_RulOk.f bt342.1 bt342.2.1 bt342.2.2.1 bt342.2.2.2.1 bt342.2.2.2.2.1 bt342.2.2.2.2.2.1 bt342.2.2.2.2.2.2).bind fun t372 => (laws_FnRulText.j1 k t350 bt351.2.2.2.2.2.2.2 (t371 != t372) bt342.1 bt342.2.1 bt342.2.2.1 bt342.2.2.2.1 bt342.2.2.2.2.1 bt342.2.2.2.2.2.1 bt342.2.2.2.2.2.2 bt351.1 bt351.2.1 bt351.2.2.1 bt351.2.2.2.1 bt351.2.2.2.2.1 bt351.2.2.2.2.2.1 bt351.2.2.2.2.2.2.1))))) else (laws_FnRulText.j1 k t350 bt351.2.2.2.2.2.2.2 true bt342.1 bt342.2.1 bt342.2.2.1 bt342.2.2.2.1 bt342.2.2.2.2.1 bt342.2.2.2.2.2.1 bt342.2.2.2.2.2.2 bt351.1 bt351.2.1 bt351.2.2.1 bt351.2.2.2.1 bt351.2.2.2.2.1 bt351.2.2.2.2.2.1 bt351.2.2.2.2.2.2.1))))))))
def laws_FnRulText.j1 : Nat → ByteArray → Bool → Bool → Bool → Int → Int → Int → Int → Int → Int → Bool → Int → Int → Int → Int → Int → Int → Option (Bool)
  | 0, _, _, _, _, _, _, _, _, _, _, _, _, _, _, _, _, _ => none
  | k + 1, x6, x8, x56, x350000, x350001, x350002, x350003, x350004, x350005, x350006, x360000, x360001, x360002, x360003, x360004, x360005, x360006 => if x56 = true then (some false) else (if x8 = true then ((impl_RulOk.f x360000 x360001 x360002 x360003 x360004 x360005 x360006).bind fun t373 => (if t373 = true then ((impl_RulText.f x360000 x360001 x360002 x360003 x360004 x360005 x360006).bind fun t374 => (laws_FnRulText.j2 k (t374.toList != x6.toList) x350000 x350001 x350002 x350003 x350004 x350005 x350006)) else (laws_FnRulText.j2 k true x350000 x350001 x350002 x350003 x350004 x350005 x350006))) else (laws_FnRulText.j2 k false x350000 x350001 x350002 x350003 x350004 x350005 x350006))
def laws_FnRulText.j2 : Nat → Bool → Bool → Int → Int → Int → Int → Int → Int → Option (Bool)
  | 0, _, _, _, _, _, _, _, _ => none
  | k + 1, x68, x350000, x350001, x350002, x350003, x350004, x350005, x350006 => if x68 = true then (some false) else ((spec_RulOk.f x350000 x350001 x350002 x350003 x350004 x350005 x350006).bind fun t375 => (if t375 = true then ((impl_RulText.f x350000 x350001 x350002 x350003 x350004 x350005 x350006).bind fun t376 => ((impl_RulRead.f t376).bind fun bt377 => (if bt377.2.2.2.2.2.2.2 = true then (some (bt377.1 == x350000 && (bt377.2.1 == x350001 && (bt377.2.2.1 == x350002 && (bt377.2.2.2.1 == x350003 && (bt377.2.2.2.2.1 == x350004 && (bt377.2.2.2.2.2.1 == x350005 && (bt377.2.2.2.2.2.2.1 == x350006)))))))) else (some false)))) else ((impl_RulText.f x350000 x350001 x350002 x350003 x350004 x350005 x350006).bind fun t386 => (if t386.toList = ([] : List UInt8) then ((laws_haOk.f).bind fun t387 => (some t387)) else (some false)))))
end
def laws_FnRulText.f (k : Nat) (l0 : List Int) (l1 : List Int) : Option (Bool) := if (l0.length : Int) > 1048576 then (laws_FnRulText.j0 k l0 l1 true) else (laws_FnRulText.j0 k l0 l1 (decide ((l1.length : Int) > 1048576)))
theorem laws_FnRulText.mono_l : ∀ k, (∀ y0 y1 y2, LeO (laws_FnRulText.j0 k y0 y1 y2) (laws_FnRulText.j0 (k + 1) y0 y1 y2)) ∧ (∀ y0 y1 y2 y3 y4 y5 y6 y7 y8 y9 y10 y11 y12 y13 y14 y15 y16, LeO (laws_FnRulText.j1 k y0 y1 y2 y3 y4 y5 y6 y7 y8 y9 y10 y11 y12 y13 y14 y15 y16) (laws_FnRulText.j1 (k + 1) y0 y1 y2 y3 y4 y5 y6 y7 y8 y9 y10 y11 y12 y13 y14 y15 y16)) ∧ (∀ y0 y1 y2 y3 y4 y5 y6 y7, LeO (laws_FnRulText.j2 k y0 y1 y2 y3 y4 y5 y6 y7) (laws_FnRulText.j2 (k + 1) y0 y1 y2 y3 y4 y5 y6 y7))
  | 0 => ⟨fun _ _ _ r h => by simp [laws_FnRulText.j0] at h, fun _ _ _ _ _ _ _ _ _ _ _ _ _ _ _ _ _ r h => by simp [laws_FnRulText.j1] at h, fun _ _ _ _ _ _ _ _ r h => by simp [laws_FnRulText.j2] at h⟩
  | k + 1 => by
    obtain ⟨ih0, ih1, ih2⟩ := laws_FnRulText.mono_l k
    refine ⟨?_, ?_, ?_⟩
    · intro y0 y1 y2
      unfold laws_FnRulText.j0
      repeat' first
      | (with_reducible exact ih0 _ _ _)
      | (with_reducible exact ih1 _ _ _ _ _ _ _ _ _ _ _ _ _ _ _ _ _)
      | (with_reducible exact ih2 _ _ _ _ _ _ _ _)
      | (with_reducible exact spec_DrawRulRead.mono _ _)
      | (with_reducible exact spec_DrawRulText.mono _ _)
      | (with_reducible exact spec_RulRead.mono _ _)
      | (with_reducible exact spec_RulText.mono _ _ _ _ _ _ _ _)
      | (with_reducible exact LeO.refl _)
      | (with_reducible exact LeO.none _)
      | (with_reducible refine LeO.ite ?_ ?_)
      | (with_reducible refine LeO.bind ?_ (fun _ => ?_))
      | exact ih0 _ _ _
      | exact ih1 _ _ _ _ _ _ _ _ _ _ _ _ _ _ _ _ _
      | exact ih2 _ _ _ _ _ _ _ _
      | exact spec_DrawRulRead.mono _ _
      | exact spec_DrawRulText.mono _ _
      | exact spec_RulRead.mono _ _
      | exact spec_RulText.mono _ _ _ _ _ _ _ _
      | exact LeO.none _
      | refine LeO.ite ?_ ?_
      | refine LeO.bind ?_ (fun _ => ?_)
    · intro y0 y1 y2 y3 y4 y5 y6 y7 y8 y9 y10 y11 y12 y13 y14 y15 y16
      unfold laws_FnRulText.j1
      repeat' first
      | (with_reducible exact ih0 _ _ _)
      | (with_reducible exact ih1 _ _ _ _ _ _ _ _ _ _ _ _ _ _ _ _ _)
      | (with_reducible exact ih2 _ _ _ _ _ _ _ _)
      | (with_reducible exact spec_DrawRulRead.mono _ _)
      | (with_reducible exact spec_DrawRulText.mono _ _)
      | (with_reducible exact spec_RulRead.mono _ _)
      | (with_reducible exact spec_RulText.mono _ _ _ _ _ _ _ _)
      | (with_reducible exact LeO.refl _)
      | (with_reducible exact LeO.none _)
      | (with_reducible refine LeO.ite ?_ ?_)
      | (with_reducible refine LeO.bind ?_ (fun _ => ?_))
      | exact ih0 _ _ _
      | exact ih1 _ _ _ _ _ _ _ _ _ _ _ _ _ _ _ _ _
      | exact ih2 _ _ _ _ _ _ _ _
      | exact spec_DrawRulRead.mono _ _
      | exact spec_DrawRulText.mono _ _
      | exact spec_RulRead.mono _ _
      | exact spec_RulText.mono _ _ _ _ _ _ _ _
      | exact LeO.none _
      | refine LeO.ite ?_ ?_
      | refine LeO.bind ?_ (fun _ => ?_)
    · intro y0 y1 y2 y3 y4 y5 y6 y7
      unfold laws_FnRulText.j2
      repeat' first
      | (with_reducible exact ih0 _ _ _)
      | (with_reducible exact ih1 _ _ _ _ _ _ _ _ _ _ _ _ _ _ _ _ _)
      | (with_reducible exact ih2 _ _ _ _ _ _ _ _)
      | (with_reducible exact spec_DrawRulRead.mono _ _)
      | (with_reducible exact spec_DrawRulText.mono _ _)
      | (with_reducible exact spec_RulRead.mono _ _)
      | (with_reducible exact spec_RulText.mono _ _ _ _ _ _ _ _)
      | (with_reducible exact LeO.refl _)
      | (with_reducible exact LeO.none _)
      | (with_reducible refine LeO.ite ?_ ?_)
      | (with_reducible refine LeO.bind ?_ (fun _ => ?_))
      | exact ih0 _ _ _
      | exact ih1 _ _ _ _ _ _ _ _ _ _ _ _ _ _ _ _ _
      | exact ih2 _ _ _ _ _ _ _ _
      | exact spec_DrawRulRead.mono _ _
      | exact spec_DrawRulText.mono _ _
      | exact spec_RulRead.mono _ _
      | exact spec_RulText.mono _ _ _ _ _ _ _ _
      | exact LeO.none _
      | refine LeO.ite ?_ ?_
      | refine LeO.bind ?_ (fun _ => ?_)
theorem laws_FnRulText.mono : ∀ a0 a1 k, LeO (laws_FnRulText.f k a0 a1) (laws_FnRulText.f (k + 1) a0 a1) := by
  intro a0 a1 k
  obtain ⟨ih0, ih1, ih2⟩ := laws_FnRulText.mono_l k
  unfold laws_FnRulText.f
  repeat' first
      | (with_reducible exact ih0 _ _ _)
      | (with_reducible exact ih1 _ _ _ _ _ _ _ _ _ _ _ _ _ _ _ _ _)
      | (with_reducible exact ih2 _ _ _ _ _ _ _ _)
      | (with_reducible exact spec_DrawRulRead.mono _ _)
      | (with_reducible exact spec_DrawRulText.mono _ _)
      | (with_reducible exact spec_RulRead.mono _ _)
      | (with_reducible exact spec_RulText.mono _ _ _ _ _ _ _ _)
      | (with_reducible exact LeO.refl _)
      | (with_reducible exact LeO.none _)
      | (with_reducible refine LeO.ite ?_ ?_)
      | (with_reducible refine LeO.bind ?_ (fun _ => ?_))
      | exact ih0 _ _ _
      | exact ih1 _ _ _ _ _ _ _ _ _ _ _ _ _ _ _ _ _
      | exact ih2 _ _ _ _ _ _ _ _
      | exact spec_DrawRulRead.mono _ _
      | exact spec_DrawRulText.mono _ _
      | exact spec_RulRead.mono _ _
      | exact spec_RulText.mono _ _ _ _ _ _ _ _
      | exact LeO.none _
      | refine LeO.ite ?_ ?_
      | refine LeO.bind ?_ (fun _ => ?_)
def laws_FnRulText.T7 : Bool × List (List Nat × List Nat) := (true, [([], []), ([0], [0]), ([], []), ([2, 1], [2]), ([1, 3], [1, 3]), ([4, 3], [4]), ([5], [5]), ([5], [5]), ([6, 7, 5], [5, 6, 7]), ([5, 8], [5, 8]), ([9, 5], [9]), ([10], [10]), ([10], [10]), ([11, 12, 10], [10, 11, 12]), ([10, 13], [10, 13]), ([14, 10], [14]), ([15], [15]), ([16, 15, 15], [15, 16]), ([15], [15]), ([18, 17, 15], [15, 18]), ([17, 19, 15], [15, 17, 19]), ([15, 20], [15, 20])])
def laws_FnRulText.B7 : List Nat := [0, 1, 0, 7, 15, 31, 63, 63, 255, 511, 1023, 2047, 2047, 8191, 16383, 32767, 65535, 131071, 65535, 524287, 1048575, 2097151]
theorem laws_FnRulText.tab7 : rtab .any (opsOf Tryd.f5 7) = laws_FnRulText.T7 := by kernel_rfl
theorem laws_FnRulText.bits7 : waitsOk laws_FnRulText.T7.2 laws_FnRulText.B7 = true := by kernel_rfl
set_option maxHeartbeats 8000000 in
set_option maxRecDepth 100000 in
theorem laws_FnRulText.calls (k : Nat) (A0 : Option Addr) (c0 : Nat) (l0 : List Int) (A1 : Option Addr) (c1 : Nat) (l1 : List Int) (r : Bool) (w : World) (hr0 : Kd.C (Kd.int .u8) w A0 l0.length l0) (hc0 : l0.length ≤ c0) (hr1 : Kd.C (Kd.int .u8) w A1 l1.length l1) (hc1 : l1.length ≤ c1) (h : laws_FnRulText.f k l0 l1 = some r) (hrt : Aside0 (r = true)) (hE : Env w) :
    Calls Tryd.prog 5 #[.slice A0 l0.length c0, .slice A1 l1.length c1] w fun e w' => e = .returned (.bool r) ∧ Below w.heap.size w w' := by
  have hu25 := Tryd.underlying25
  have HR0 := Aside0.mk hr0
  have HC0 := Aside0.mk hc0
  clear hr0 hc0
  have HR1 := Aside0.mk hr1
  have HC1 := Aside0.mk hc1
  clear hr1 hc1
  have HB := Aside0.mk (Below.refl w.heap.size w)
  have H : (if (l0.length : Int) > 1048576 then (laws_FnRulText.j0 k l0 l1 true) else (laws_FnRulText.j0 k l0 l1 (decide ((l1.length : Int) > 1048576)))) = some r := h
  clear h
  have HC3 := Aside0.mk H
  clear H
  go_enter Tryd.func5, Tryd.ntmps5
  go_upto_region 1 with (fail)
  go_cut [20] (fun v20 wc => ∃ (kq : Nat) (x20_2 : Bool), v20 = .bool x20_2 ∧ Aside0 (laws_FnRulText.j0 kq l0 l1 x20_2 = some r) ∧ Aside0 (kq ≤ k) ∧ Aside0 (Below w.heap.size w wc))
  case first =>
    have H := HC3.out
    clear HC3
    by_cases c4 : (l0.length : Int) > 1048576
    · rw [if_pos c4] at H
      have c4b0 : decide (1048576 < (l0.length : Int)) = true := decide_eq_true c4
      have c4b1 : decide (1048576 < l0.length) = true := decide_eq_true (by omega)
      clear c4
      (first | rw [c4b0] | (simp only [i64_w, i32_w]; rw [c4b0]) | skip)
      have H' := Aside0.mk H
      clear H
      go_wp2
      go_meet
      case rel => exact ⟨_, (true), (by first | rfl | (simp; done) | (simp [*]; done)), H', ⟨by first | omega | exact Nat.le_refl _⟩, ⟨by repeat (first | (with_reducible first | exact HB.out | apply below_alloc | apply pw_below_drewN | apply below_drew1) | exact HB.out)⟩⟩
    · rw [if_neg c4] at H
      have c4b0 : decide (1048576 < (l0.length : Int)) = false := decide_eq_false c4
      have c4b1 : decide (1048576 < l0.length) = false := decide_eq_false (by omega)
      clear c4
      (first | rw [c4b0] | (simp only [i64_w, i32_w]; rw [c4b0]) | skip)
      have H' := Aside0.mk H
      clear H
      go_wp2
      go_meet
      case rel => exact ⟨_, (decide ((l1.length : Int) > 1048576)), (by first | rfl | (simp; done) | (simp [*]; done)), H', ⟨by first | omega | exact Nat.le_refl _⟩, ⟨by repeat (first | (with_reducible first | exact HB.out | apply below_alloc | apply pw_below_drewN | apply below_drew1) | exact HB.out)⟩⟩
  case rest =>
    clear HC3
    try clear c1
    try clear p2
    try clear c4
    try clear c4b0
    try clear c4b1
    obtain ⟨kq, x20_2, rfl, HA, HJ2, HB⟩ := hcut
    cases kq with
    | zero => exact absurd HA.out (by simp [laws_FnRulText.j0])
    | succ kj2 =>
      have H := HA.out
      clear HA
      simp only [laws_FnRulText.j0] at H
      by_cases c5 : x20_2 = true
      · subst c5
        have H1 : (some true) = some r := by rw [if_pos rfl] at H; exact H
        clear H
        have H := H1
        clear H1
        obtain rfl := Option.some.inj H
        go_wp2
        go_ret
        exact ⟨by first | rfl | (simp [errW_none, errW_some] <;> rfl) | (simp [*, errW_none, errW_some] <;> rfl), by repeat (first | (with_reducible first | exact HB.out | apply below_alloc | apply pw_below_drewN | apply below_drew1) | exact HB.out)⟩
      · replace c5 := Bool.eq_false_iff.mpr c5
        subst c5
        have H1 : ((spec_DrawRulText.f kj2 l0).bind fun bt342 => ((spec_DrawRulRead.f kj2 l1).bind fun t350 => ((impl_RulRead.f t350).bind fun bt351 => ((spec_RulRead.f kj2 t350).bind fun bt360 => ((impl_RulText.f bt342.1 bt342.2.1 bt342.2.2.1 bt342.2.2.2.1 bt342.2.2.2.2.1 bt342.2.2.2.2.2.1 bt342.2.2.2.2.2.2).bind fun t369 => ((spec_RulText.f kj2 bt342.1 bt342.2.1 bt342.2.2.1 bt342.2.2.2.1 bt342.2.2.2.2.1 bt342.2.2.2.2.2.1 bt342.2.2.2.2.2.2).bind fun t370 => (if t369.toList = t370.toList then (if (!(bt351.1 == bt360.1) || (!(bt351.2.1 == bt360.2.1) || (!(bt351.2.2.1 == bt360.2.2.1) || (!(bt351.2.2.2.1 == bt360.2.2.2.1) || (!(bt351.2.2.2.2.1 == bt360.2.2.2.2.1) || (!(bt351.2.2.2.2.2.1 == bt360.2.2.2.2.2.1) || (!(bt351.2.2.2.2.2.2.1 == bt360.2.2.2.2.2.2.1)))))))) = true then (laws_FnRulText.j1 kj2 t350 bt351.2.2.2.2.2.2.2 true bt342.1 bt342.2.1 bt342.2.2.1 bt342.2.2.2.1 bt342.2.2.2.2.1 bt342.2.2.2.2.2.1 bt342.2.2.2.2.2.2 bt351.1 bt351.2.1 bt351.2.2.1 bt351.2.2.2.1 bt351.2.2.2.2.1 bt351.2.2.2.2.2.1 bt351.2.2.2.2.2.2.1) else (if (bt351.2.2.2.2.2.2.2 != bt360.2.2.2.2.2.2.2) = true then (laws_FnRulText.j1 kj2 t350 bt351.2.2.2.2.2.2.2 true bt342.1 bt342.2.1 bt342.2.2.1 bt342.2.2.2.1 bt342.2.2.2.2.1 bt342.2.2.2.2.2.1 bt342.2.2.2.2.2.2 bt351.1 bt351.2.1 bt351.2.2.1 bt351.2.2.2.1 bt351.2.2.2.2.1 bt351.2.2.2.2.2.1 bt351.2.2.2.2.2.2.1) else ((impl_RulOk.f bt342.1 bt342.2.1 bt342.2.2.1 bt342.2.2.2.1 bt342.2.2.2.2.1 bt342.2.2.2.2.2.1 bt342.2.2.2.2.2.2).bind fun t371 => ((spec_RulOk.f bt342.1 bt342.2.1 bt342.2.2.1 bt342.2.2.2.1 bt342.2.2.2.2.1 bt342.2.2.2.2.2.1 bt342.2.2.2.2.2.2).bind fun t372 => (laws_FnRulText.j1 kj2 t350 bt351.2.2.2.2.2.2.2 (t371 != t372) bt342.1 bt342.2.1 bt342.2.2.1 bt342.2.2.2.1 bt342.2.2.2.2.1 bt342.2.2.2.2.2.1 bt342.2.2.2.2.2.2 bt351.1 bt351.2.1 bt351.2.2.1 bt351.2.2.2.1 bt351.2.2.2.2.1 bt351.2.2.2.2.2.1 bt351.2.2.2.2.2.2.1))))) else (laws_FnRulText.j1 kj2 t350 bt351.2.2.2.2.2.2.2 true bt342.1 bt342.2.1 bt342.2.2.1 bt342.2.2.2.1 bt342.2.2.2.2.1 bt342.2.2.2.2.2.1 bt342.2.2.2.2.2.2 bt351.1 bt351.2.1 bt351.2.2.1 bt351.2.2.2.1 bt351.2.2.2.2.1 bt351.2.2.2.2.2.1 bt351.2.2.2.2.2.2.1)))))))) = some r := by rw [if_neg (show ¬ (false = true) by decide)] at H; exact H
        clear H
        have H := H1
        clear H1
        replace H := Option.bind_eq_some_iff.mp H
        obtain ⟨⟨t342, t343, t344, t345, t346, t347, t348⟩, A60, H⟩ := H
        replace H : ((spec_DrawRulRead.f kj2 l1).bind fun t350 => ((impl_RulRead.f t350).bind fun bt351 => ((spec_RulRead.f kj2 t350).bind fun bt360 => ((impl_RulText.f t342 t343 t344 t345 t346 t347 t348).bind fun t369 => ((spec_RulText.f kj2 t342 t343 t344 t345 t346 t347 t348).bind fun t370 => (if t369.toList = t370.toList then (if (!(bt351.1 == bt360.1) || (!(bt351.2.1 == bt360.2.1) || (!(bt351.2.2.1 == bt360.2.2.1) || (!(bt351.2.2.2.1 == bt360.2.2.2.1) || (!(bt351.2.2.2.2.1 == bt360.2.2.2.2.1) || (!(bt351.2.2.2.2.2.1 == bt360.2.2.2.2.2.1) || (!(bt351.2.2.2.2.2.2.1 == bt360.2.2.2.2.2.2.1)))))))) = true then (laws_FnRulText.j1 kj2 t350 bt351.2.2.2.2.2.2.2 true t342 t343 t344 t345 t346 t347 t348 bt351.1 bt351.2.1 bt351.2.2.1 bt351.2.2.2.1 bt351.2.2.2.2.1 bt351.2.2.2.2.2.1 bt351.2.2.2.2.2.2.1) else (if (bt351.2.2.2.2.2.2.2 != bt360.2.2.2.2.2.2.2) = true then (laws_FnRulText.j1 kj2 t350 bt351.2.2.2.2.2.2.2 true t342 t343 t344 t345 t346 t347 t348 bt351.1 bt351.2.1 bt351.2.2.1 bt351.2.2.2.1 bt351.2.2.2.2.1 bt351.2.2.2.2.2.1 bt351.2.2.2.2.2.2.1) else ((impl_RulOk.f t342 t343 t344 t345 t346 t347 t348).bind fun t371 => ((spec_RulOk.f t342 t343 t344 t345 t346 t347 t348).bind fun t372 => (laws_FnRulText.j1 kj2 t350 bt351.2.2.2.2.2.2.2 (t371 != t372) t342 t343 t344 t345 t346 t347 t348 bt351.1 bt351.2.1 bt351.2.2.1 bt351.2.2.2.1 bt351.2.2.2.2.1 bt351.2.2.2.2.2.1 bt351.2.2.2.2.2.2.1))))) else (laws_FnRulText.j1 kj2 t350 bt351.2.2.2.2.2.2.2 true t342 t343 t344 t345 t346 t347 t348 bt351.1 bt351.2.1 bt351.2.2.1 bt351.2.2.2.1 bt351.2.2.2.2.1 bt351.2.2.2.2.2.1 bt351.2.2.2.2.2.2.1))))))) = some r := H
        have A6 := Aside0.mk A60
        clear A60
        replace H := Option.bind_eq_some_iff.mp H
        obtain ⟨t350, A70, H⟩ := H
        replace H : ((impl_RulRead.f t350).bind fun bt351 => ((spec_RulRead.f kj2 t350).bind fun bt360 => ((impl_RulText.f t342 t343 t344 t345 t346 t347 t348).bind fun t369 => ((spec_RulText.f kj2 t342 t343 t344 t345 t346 t347 t348).bind fun t370 => (if t369.toList = t370.toList then (if (!(bt351.1 == bt360.1) || (!(bt351.2.1 == bt360.2.1) || (!(bt351.2.2.1 == bt360.2.2.1) || (!(bt351.2.2.2.1 == bt360.2.2.2.1) || (!(bt351.2.2.2.2.1 == bt360.2.2.2.2.1) || (!(bt351.2.2.2.2.2.1 == bt360.2.2.2.2.2.1) || (!(bt351.2.2.2.2.2.2.1 == bt360.2.2.2.2.2.2.1)))))))) = true then (laws_FnRulText.j1 kj2 t350 bt351.2.2.2.2.2.2.2 true t342 t343 t344 t345 t346 t347 t348 bt351.1 bt351.2.1 bt351.2.2.1 bt351.2.2.2.1 bt351.2.2.2.2.1 bt351.2.2.2.2.2.1 bt351.2.2.2.2.2.2.1) else (if (bt351.2.2.2.2.2.2.2 != bt360.2.2.2.2.2.2.2) = true then (laws_FnRulText.j1 kj2 t350 bt351.2.2.2.2.2.2.2 true t342 t343 t344 t345 t346 t347 t348 bt351.1 bt351.2.1 bt351.2.2.1 bt351.2.2.2.1 bt351.2.2.2.2.1 bt351.2.2.2.2.2.1 bt351.2.2.2.2.2.2.1) else ((impl_RulOk.f t342 t343 t344 t345 t346 t347 t348).bind fun t371 => ((spec_RulOk.f t342 t343 t344 t345 t346 t347 t348).bind fun t372 => (laws_FnRulText.j1 kj2 t350 bt351.2.2.2.2.2.2.2 (t371 != t372) t342 t343 t344 t345 t346 t347 t348 bt351.1 bt351.2.1 bt351.2.2.1 bt351.2.2.2.1 bt351.2.2.2.2.1 bt351.2.2.2.2.2.1 bt351.2.2.2.2.2.2.1))))) else (laws_FnRulText.j1 kj2 t350 bt351.2.2.2.2.2.2.2 true t342 t343 t344 t345 t346 t347 t348 bt351.1 bt351.2.1 bt351.2.2.1 bt351.2.2.2.1 bt351.2.2.2.2.1 bt351.2.2.2.2.2.1 bt351.2.2.2.2.2.2.1)))))) = some r := H
        have A7 := Aside0.mk A70
        clear A70
        replace H := Option.bind_eq_some_iff.mp H
        obtain ⟨⟨t351, t352, t353, t354, t355, t356, t357, t358⟩, A80, H⟩ := H
        replace H : ((spec_RulRead.f kj2 t350).bind fun bt360 => ((impl_RulText.f t342 t343 t344 t345 t346 t347 t348).bind fun t369 => ((spec_RulText.f kj2 t342 t343 t344 t345 t346 t347 t348).bind fun t370 => (if t369.toList = t370.toList then (if (!(t351 == bt360.1) || (!(t352 == bt360.2.1) || (!(t353 == bt360.2.2.1) || (!(t354 == bt360.2.2.2.1) || (!(t355 == bt360.2.2.2.2.1) || (!(t356 == bt360.2.2.2.2.2.1) || (!(t357 == bt360.2.2.2.2.2.2.1)))))))) = true then (laws_FnRulText.j1 kj2 t350 t358 true t342 t343 t344 t345 t346 t347 t348 t351 t352 t353 t354 t355 t356 t357) else (if (t358 != bt360.2.2.2.2.2.2.2) = true then (laws_FnRulText.j1 kj2 t350 t358 true t342 t343 t344 t345 t346 t347 t348 t351 t352 t353 t354 t355 t356 t357) else ((impl_RulOk.f t342 t343 t344 t345 t346 t347 t348).bind fun t371 => ((spec_RulOk.f t342 t343 t344 t345 t346 t347 t348).bind fun t372 => (laws_FnRulText.j1 kj2 t350 t358 (t371 != t372) t342 t343 t344 t345 t346 t347 t348 t351 t352 t353 t354 t355 t356 t357))))) else (laws_FnRulText.j1 kj2 t350 t358 true t342 t343 t344 t345 t346 t347 t348 t351 t352 t353 t354 t355 t356 t357))))) = some r := H
        have A8 := Aside0.mk A80
        clear A80
        replace H := Option.bind_eq_some_iff.mp H
        obtain ⟨⟨t360, t361, t362, t363, t364, t365, t366, t367⟩, A90, H⟩ := H
        replace H : ((impl_RulText.f t342 t343 t344 t345 t346 t347 t348).bind fun t369 => ((spec_RulText.f kj2 t342 t343 t344 t345 t346 t347 t348).bind fun t370 => (if t369.toList = t370.toList then (if (!(t351 == t360) || (!(t352 == t361) || (!(t353 == t362) || (!(t354 == t363) || (!(t355 == t364) || (!(t356 == t365) || (!(t357 == t366)))))))) = true then (laws_FnRulText.j1 kj2 t350 t358 true t342 t343 t344 t345 t346 t347 t348 t351 t352 t353 t354 t355 t356 t357) else (if (t358 != t367) = true then (laws_FnRulText.j1 kj2 t350 t358 true t342 t343 t344 t345 t346 t347 t348 t351 t352 t353 t354 t355 t356 t357) else ((impl_RulOk.f t342 t343 t344 t345 t346 t347 t348).bind fun t371 => ((spec_RulOk.f t342 t343 t344 t345 t346 t347 t348).bind fun t372 => (laws_FnRulText.j1 kj2 t350 t358 (t371 != t372) t342 t343 t344 t345 t346 t347 t348 t351 t352 t353 t354 t355 t356 t357))))) else (laws_FnRulText.j1 kj2 t350 t358 true t342 t343 t344 t345 t346 t347 t348 t351 t352 t353 t354 t355 t356 t357)))) = some r := H
        have A9 := Aside0.mk A90
        clear A90
        have HC10 := Aside0.mk H
        clear H
        go_upto_region 7 with (first | ((with_reducible refine gate_callee (f := 12) rfl ?_); refine goesL_ (some 22) rfl rfl Tryd.func12 (by kernel_rfl) rfl #[.slice A0 l0.length c0] rfl (by (try simp only [List.map_toArray, List.map_cons, List.map_nil]); first | done | rfl | (simp only [List.length_drop, List.length_take]; rfl)) ?_; (with_reducible refine (spec_DrawRulText.calls kj2 _ _ l0 t342 t343 t344 t345 t346 t347 t348 _ ?side1 ?side2 A6.out).mono ?_); (case side1 => repeat (first | exact (Kd.C_below HR0.out HB.out) | (with_reducible refine Kd.C_alloc ?_ _) | (with_reducible refine Kd.C_drewN ?_ _) | (with_reducible refine Kd.C_drew ?_))); (case side2 => exact HC0.out); rintro e w11 ⟨rfl, hb⟩; refine ⟨_, rfl, ?_⟩; have n0_ := Aside0.mk (below_step (bl HB) hb); clear HB; have HB := n0_; clear n0_; (try clear hb); (try clear hb2); (try clear hk); (try clear hi)) | ((with_reducible refine gate_dst (N := 5) rfl ?_); refine box_event ?hg (N := 5) ?hd (cs := #[.bool false, .int .i64 0, .int .i64 0, .int .i64 0, .int .i64 0, .int .i64 0, .int .i64 0]) (t := 25) ?hr ?_; (case hd => rfl); (case hg => rfl); (case hr => first | (go_simp; done) | (go_simp; rfl)); intro gb349 hg w12 hbox hb; have n0_ := Aside0.mk (below_step (bl HB) hb); have n1_ := Aside0.mk (hbox); have n2_ := Aside0.mk ((by rw [hg]; exact (below_size (bl HB)) : w.heap.size ≤ gb349)); have n3_ := Aside0.mk ((by rw [hg]; exact (below_size (bl HB)) : w.heap.size ≤ gb349)); clear HB; have HB := n0_; have BK349 := n1_; have GW349 := n2_; have GE349 := n3_; clear n0_ n1_ n2_ n3_; clear hb hbox hg; have hcz13_0 : w12.cell? ⟨gb349, 0, none⟩ = some (.bool false) := (blk_cell BK349.out 0).trans rfl; have hcz13_1 : w12.cell? ⟨gb349, 1, none⟩ = some (.int .i64 0) := (blk_cell BK349.out 1).trans rfl; have hcz13_2 : w12.cell? ⟨gb349, 2, none⟩ = some (.int .i64 0) := (blk_cell BK349.out 2).trans rfl; have hcz13_3 : w12.cell? ⟨gb349, 3, none⟩ = some (.int .i64 0) := (blk_cell BK349.out 3).trans rfl; have hcz13_4 : w12.cell? ⟨gb349, 4, none⟩ = some (.int .i64 0) := (blk_cell BK349.out 4).trans rfl; have hcz13_5 : w12.cell? ⟨gb349, 5, none⟩ = some (.int .i64 0) := (blk_cell BK349.out 5).trans rfl; have hcz13_6 : w12.cell? ⟨gb349, 6, none⟩ = some (.int .i64 0) := (blk_cell BK349.out 6).trans rfl; have hfz13_0 := blk_frozen BK349.out 0; have hfz13_1 := blk_frozen BK349.out 1; have hfz13_2 := blk_frozen BK349.out 2; have hfz13_3 := blk_frozen BK349.out 3; have hfz13_4 := blk_frozen BK349.out 4; have hfz13_5 := blk_frozen BK349.out 5; have hfz13_6 := blk_frozen BK349.out 6) | ((with_reducible refine gate_callee (f := 13) rfl ?_); refine goesL_ (some 24) rfl rfl Tryd.func13 (by kernel_rfl) rfl #[.slice A1 l1.length c1] rfl (by (try simp only [List.map_toArray, List.map_cons, List.map_nil]); first | done | rfl | (simp only [List.length_drop, List.length_take]; rfl)) ?_; (with_reducible refine (spec_DrawRulRead.calls kj2 _ _ l1 t350 _ ?side1 ?side2 A7.out).mono ?_); (case side1 => exact Kd.C_below HR1.out (bl HB)); (case side2 => exact HC1.out); rintro e w14 ⟨rfl, hb⟩; refine ⟨_, rfl, ?_⟩; have n0_ := Aside0.mk (blk_below (g := gb349) (o := .cells #[.bool t342, .int .i64 t343, .int .i64 t344, .int .i64 t345, .int .i64 t346, .int .i64 t347, .int .i64 t348] 25 (0, 0)) (by (with_reducible repeat refine bu ?_); refine blk_put (cs := #[.bool t342, .int .i64 t343, .int .i64 t344, .int .i64 t345, .int .i64 t346, .int .i64 t347, .int .i64 0]) ?_ 6 _ rfl; (with_reducible repeat refine bu ?_); refine blk_put (cs := #[.bool t342, .int .i64 t343, .int .i64 t344, .int .i64 t345, .int .i64 t346, .int .i64 0, .int .i64 0]) ?_ 5 _ rfl; (with_reducible repeat refine bu ?_); refine blk_put (cs := #[.bool t342, .int .i64 t343, .int .i64 t344, .int .i64 t345, .int .i64 0, .int .i64 0, .int .i64 0]) ?_ 4 _ rfl; (with_reducible repeat refine bu ?_); refine blk_put (cs := #[.bool t342, .int .i64 t343, .int .i64 t344, .int .i64 0, .int .i64 0, .int .i64 0, .int .i64 0]) ?_ 3 _ rfl; (with_reducible repeat refine bu ?_); refine blk_put (cs := #[.bool t342, .int .i64 t343, .int .i64 0, .int .i64 0, .int .i64 0, .int .i64 0, .int .i64 0]) ?_ 2 _ rfl; (with_reducible repeat refine bu ?_); refine blk_put (cs := #[.bool t342, .int .i64 0, .int .i64 0, .int .i64 0, .int .i64 0, .int .i64 0, .int .i64 0]) ?_ 1 _ rfl; (with_reducible repeat refine bu ?_); refine blk_put (cs := #[.bool false, .int .i64 0, .int .i64 0, .int .i64 0, .int .i64 0, .int .i64 0, .int .i64 0]) ?_ 0 _ rfl; (with_reducible repeat refine bu ?_); exact BK349.out) hb); have n1_ := Aside0.mk (below_step (bl HB) hb); clear BK349; clear HB; have BK349 := n0_; have HB := n1_; clear n0_ n1_; (try clear hb); (try clear hb2); (try clear hk); (try clear hi)) | ((with_reducible refine gate_callee (f := 10) rfl ?_); refine goesL_ (some 27) rfl rfl Tryd.func10 (by kernel_rfl) rfl #[.string t350] rfl (by (try simp only [List.map_toArray, List.map_cons, List.map_nil]); first | done | rfl | (simp only [List.length_drop, List.length_take]; rfl)) ?_; (with_reducible refine (impl_RulRead.calls t350 t351 t352 t353 t354 t355 t356 t357 t358 _ A8.out (Env.below hE (bl HB))).mono ?_); rintro e w15 ⟨rfl, hb⟩; refine ⟨_, rfl, ?_⟩; have n0_ := bkB BK349 hb; have n1_ := Aside0.mk (below_step (bl HB) hb); clear BK349; clear HB; have BK349 := n0_; have HB := n1_; clear n0_ n1_; (try clear hb); (try clear hb2); (try clear hk); (try clear hi)) | ((with_reducible refine gate_dst (N := 7) rfl ?_); refine box_event ?hg (N := 7) ?hd (cs := #[.bool false, .int .i64 0, .int .i64 0, .int .i64 0, .int .i64 0, .int .i64 0, .int .i64 0]) (t := 25) ?hr ?_; (case hd => rfl); (case hg => rfl); (case hr => first | (go_simp; done) | (go_simp; rfl)); intro gb359 hg w16 hbox hb; have n0_ := bkB BK349 hb; have n1_ := Aside0.mk (below_step (bl HB) hb); have n2_ := Aside0.mk (hbox); have n3_ := Aside0.mk ((by rw [hg]; exact (below_size (bl HB)) : w.heap.size ≤ gb359)); have n4_ := Aside0.mk ((by rw [hg]; exact (below_size (bl HB)) : w.heap.size ≤ gb359)); have n5_ := Aside0.mk ((by rw [hg]; exact Nat.ne_of_lt (bkL BK349) : gb349 ≠ gb359)); have n6_ := Aside0.mk ((by rw [hg]; exact Nat.ne_of_gt (bkL BK349) : gb359 ≠ gb349)); clear BK349; clear HB; have BK349 := n0_; have HB := n1_; have BK359 := n2_; have GW359 := n3_; have GE359 := n4_; have NB349_359 := n5_; have NB359_349 := n6_; clear n0_ n1_ n2_ n3_ n4_ n5_ n6_; clear hb hbox hg; have hnb17 := NB359_349.out; have hnc17 := NB349_359.out; have hcz18_0 : w16.cell? ⟨gb359, 0, none⟩ = some (.bool false) := (blk_cell BK359.out 0).trans rfl; have hcz18_1 : w16.cell? ⟨gb359, 1, none⟩ = some (.int .i64 0) := (blk_cell BK359.out 1).trans rfl; have hcz18_2 : w16.cell? ⟨gb359, 2, none⟩ = some (.int .i64 0) := (blk_cell BK359.out 2).trans rfl; have hcz18_3 : w16.cell? ⟨gb359, 3, none⟩ = some (.int .i64 0) := (blk_cell BK359.out 3).trans rfl; have hcz18_4 : w16.cell? ⟨gb359, 4, none⟩ = some (.int .i64 0) := (blk_cell BK359.out 4).trans rfl; have hcz18_5 : w16.cell? ⟨gb359, 5, none⟩ = some (.int .i64 0) := (blk_cell BK359.out 5).trans rfl; have hcz18_6 : w16.cell? ⟨gb359, 6, none⟩ = some (.int .i64 0) := (blk_cell BK359.out 6).trans rfl; have hfz18_0 := blk_frozen BK359.out 0; have hfz18_1 := blk_frozen BK359.out 1; have hfz18_2 := blk_frozen BK359.out 2; have hfz18_3 := blk_frozen BK359.out 3; have hfz18_4 := blk_frozen BK359.out 4; have hfz18_5 := blk_frozen BK359.out 5; have hfz18_6 := blk_frozen BK359.out 6) | ((with_reducible refine gate_callee (f := 9) rfl ?_); refine goesL_ (some 32) rfl rfl Tryd.func9 (by kernel_rfl) rfl #[.string t350] rfl (by (try simp only [List.map_toArray, List.map_cons, List.map_nil]); first | done | rfl | (simp only [List.length_drop, List.length_take]; rfl)) ?_; (with_reducible refine (spec_RulRead.calls kj2 t350 t360 t361 t362 t363 t364 t365 t366 t367 _ A9.out).mono ?_); rintro e w19 ⟨rfl, hb⟩; refine ⟨_, rfl, ?_⟩; have n0_ := Aside0.mk (blk_below (g := gb349) (o := .cells #[.bool t342, .int .i64 t343, .int .i64 t344, .int .i64 t345, .int .i64 t346, .int .i64 t347, .int .i64 t348] 25 (0, 0)) (by (with_reducible repeat refine bu ?_); refine blk_far ?_ NB349_359.out _; (with_reducible repeat refine bu ?_); refine blk_far ?_ NB349_359.out _; (with_reducible repeat refine bu ?_); refine blk_far ?_ NB349_359.out _; (with_reducible repeat refine bu ?_); refine blk_far ?_ NB349_359.out _; (with_reducible repeat refine bu ?_); refine blk_far ?_ NB349_359.out _; (with_reducible repeat refine bu ?_); refine blk_far ?_ NB349_359.out _; (with_reducible repeat refine bu ?_); refine blk_far ?_ NB349_359.out _; (with_reducible repeat refine bu ?_); exact BK349.out) hb); have n1_ := Aside0.mk (blk_below (g := gb359) (o := .cells #[.bool t351, .int .i64 t352, .int .i64 t353, .int .i64 t354, .int .i64 t355, .int .i64 t356, .int .i64 t357] 25 (0, 0)) (by (with_reducible repeat refine bu ?_); refine blk_put (cs := #[.bool t351, .int .i64 t352, .int .i64 t353, .int .i64 t354, .int .i64 t355, .int .i64 t356, .int .i64 0]) ?_ 6 _ rfl; (with_reducible repeat refine bu ?_); refine blk_put (cs := #[.bool t351, .int .i64 t352, .int .i64 t353, .int .i64 t354, .int .i64 t355, .int .i64 0, .int .i64 0]) ?_ 5 _ rfl; (with_reducible repeat refine bu ?_); refine blk_put (cs := #[.bool t351, .int .i64 t352, .int .i64 t353, .int .i64 t354, .int .i64 0, .int .i64 0, .int .i64 0]) ?_ 4 _ rfl; (with_reducible repeat refine bu ?_); refine blk_put (cs := #[.bool t351, .int .i64 t352, .int .i64 t353, .int .i64 0, .int .i64 0, .int .i64 0, .int .i64 0]) ?_ 3 _ rfl; (with_reducible repeat refine bu ?_); refine blk_put (cs := #[.bool t351, .int .i64 t352, .int .i64 0, .int .i64 0, .int .i64 0, .int .i64 0, .int .i64 0]) ?_ 2 _ rfl; (with_reducible repeat refine bu ?_); refine blk_put (cs := #[.bool t351, .int .i64 0, .int .i64 0, .int .i64 0, .int .i64 0, .int .i64 0, .int .i64 0]) ?_ 1 _ rfl; (with_reducible repeat refine bu ?_); refine blk_put (cs := #[.bool false, .int .i64 0, .int .i64 0, .int .i64 0, .int .i64 0, .int .i64 0, .int .i64 0]) ?_ 0 _ rfl; (with_reducible repeat refine bu ?_); exact BK359.out) hb); have n2_ := Aside0.mk (below_step (bl HB) hb); clear BK349; clear BK359; clear HB; have BK349 := n0_; have BK359 := n1_; have HB := n2_; clear n0_ n1_ n2_; (try clear hb); (try clear hb2); (try clear hk); (try clear hi)) | ((with_reducible refine gate_dst (N := 9) rfl ?_); refine box_event ?hg (N := 9) ?hd (cs := #[.bool false, .int .i64 0, .int .i64 0, .int .i64 0, .int .i64 0, .int .i64 0, .int .i64 0]) (t := 25) ?hr ?_; (case hd => rfl); (case hg => rfl); (case hr => first | (go_simp; done) | (go_simp; rfl)); intro gb368 hg w20 hbox hb; have n0_ := bkB BK349 hb; have n1_ := bkB BK359 hb; have n2_ := Aside0.mk (below_step (bl HB) hb); have n3_ := Aside0.mk (hbox); have n4_ := Aside0.mk ((by rw [hg]; exact (below_size (bl HB)) : w.heap.size ≤ gb368)); have n5_ := Aside0.mk ((by rw [hg]; exact (below_size (bl HB)) : w.heap.size ≤ gb368)); have n6_ := Aside0.mk ((by rw [hg]; exact Nat.ne_of_lt (bkL BK349) : gb349 ≠ gb368)); have n7_ := Aside0.mk ((by rw [hg]; exact Nat.ne_of_gt (bkL BK349) : gb368 ≠ gb349)); have n8_ := Aside0.mk ((by rw [hg]; exact Nat.ne_of_lt (bkL BK359) : gb359 ≠ gb368)); have n9_ := Aside0.mk ((by rw [hg]; exact Nat.ne_of_gt (bkL BK359) : gb368 ≠ gb359)); clear BK349; clear BK359; clear HB; have BK349 := n0_; have BK359 := n1_; have HB := n2_; have BK368 := n3_; have GW368 := n4_; have GE368 := n5_; have NB349_368 := n6_; have NB368_349 := n7_; have NB359_368 := n8_; have NB368_359 := n9_; clear n0_ n1_ n2_ n3_ n4_ n5_ n6_ n7_ n8_ n9_; clear hb hbox hg; have hnb21 := NB368_349.out; have hnc21 := NB349_368.out; have hnb22 := NB368_359.out; have hnc22 := NB359_368.out; have hcz23_0 : w20.cell? ⟨gb368, 0, none⟩ = some (.bool false) := (blk_cell BK368.out 0).trans rfl; have hcz23_1 : w20.cell? ⟨gb368, 1, none⟩ = some (.int .i64 0) := (blk_cell BK368.out 1).trans rfl; have hcz23_2 : w20.cell? ⟨gb368, 2, none⟩ = some (.int .i64 0) := (blk_cell BK368.out 2).trans rfl; have hcz23_3 : w20.cell? ⟨gb368, 3, none⟩ = some (.int .i64 0) := (blk_cell BK368.out 3).trans rfl; have hcz23_4 : w20.cell? ⟨gb368, 4, none⟩ = some (.int .i64 0) := (blk_cell BK368.out 4).trans rfl; have hcz23_5 : w20.cell? ⟨gb368, 5, none⟩ = some (.int .i64 0) := (blk_cell BK368.out 5).trans rfl; have hcz23_6 : w20.cell? ⟨gb368, 6, none⟩ = some (.int .i64 0) := (blk_cell BK368.out 6).trans rfl; have hfz23_0 := blk_frozen BK368.out 0; have hfz23_1 := blk_frozen BK368.out 1; have hfz23_2 := blk_frozen BK368.out 2; have hfz23_3 := blk_frozen BK368.out 3; have hfz23_4 := blk_frozen BK368.out 4; have hfz23_5 := blk_frozen BK368.out 5; have hfz23_6 := blk_frozen BK368.out 6))
        (try simp only [Act.put, List.setIfInBounds_toArray, List.set_cons_zero, List.set_cons_succ])
        go_cut [56] (fun v56 wc => ∃ (kq : Nat) (x56_9 : Bool), v56 = .bool x56_9 ∧ Aside0 (laws_FnRulText.j1 kq t350 t358 x56_9 t342 t343 t344 t345 t346 t347 t348 t351 t352 t353 t354 t355 t356 t357 = some r) ∧ Aside0 (kq ≤ kj2) ∧ Aside0 (wc.heap[gb349]? = some (.cells #[.bool t342, .int .i64 t343, .int .i64 t344, .int .i64 t345, .int .i64 t346, .int .i64 t347, .int .i64 t348] 25 (0, 0))) ∧ Aside0 (wc.heap[gb359]? = some (.cells #[.bool t351, .int .i64 t352, .int .i64 t353, .int .i64 t354, .int .i64 t355, .int .i64 t356, .int .i64 t357] 25 (0, 0))) ∧ Aside0 (wc.heap[gb368]? = some (.cells #[.bool t360, .int .i64 t361, .int .i64 t362, .int .i64 t363, .int .i64 t364, .int .i64 t365, .int .i64 t366] 25 (0, 0))) ∧ Aside0 (Below w.heap.size w wc))
        case first =>
          have H := HC10.out
          clear HC10
          replace H := Option.bind_eq_some_iff.mp H
          obtain ⟨t369, A240, H⟩ := H
          replace H : ((spec_RulText.f kj2 t342 t343 t344 t345 t346 t347 t348).bind fun t370 => (if t369.toList = t370.toList then (if (!(t351 == t360) || (!(t352 == t361) || (!(t353 == t362) || (!(t354 == t363) || (!(t355 == t364) || (!(t356 == t365) || (!(t357 == t366)))))))) = true then (laws_FnRulText.j1 kj2 t350 t358 true t342 t343 t344 t345 t346 t347 t348 t351 t352 t353 t354 t355 t356 t357) else (if (t358 != t367) = true then (laws_FnRulText.j1 kj2 t350 t358 true t342 t343 t344 t345 t346 t347 t348 t351 t352 t353 t354 t355 t356 t357) else ((impl_RulOk.f t342 t343 t344 t345 t346 t347 t348).bind fun t371 => ((spec_RulOk.f t342 t343 t344 t345 t346 t347 t348).bind fun t372 => (laws_FnRulText.j1 kj2 t350 t358 (t371 != t372) t342 t343 t344 t345 t346 t347 t348 t351 t352 t353 t354 t355 t356 t357))))) else (laws_FnRulText.j1 kj2 t350 t358 true t342 t343 t344 t345 t346 t347 t348 t351 t352 t353 t354 t355 t356 t357))) = some r := H
          have A24 := Aside0.mk A240
          clear A240
          replace H := Option.bind_eq_some_iff.mp H
          obtain ⟨t370, A250, H⟩ := H
          replace H : (if t369.toList = t370.toList then (if (!(t351 == t360) || (!(t352 == t361) || (!(t353 == t362) || (!(t354 == t363) || (!(t355 == t364) || (!(t356 == t365) || (!(t357 == t366)))))))) = true then (laws_FnRulText.j1 kj2 t350 t358 true t342 t343 t344 t345 t346 t347 t348 t351 t352 t353 t354 t355 t356 t357) else (if (t358 != t367) = true then (laws_FnRulText.j1 kj2 t350 t358 true t342 t343 t344 t345 t346 t347 t348 t351 t352 t353 t354 t355 t356 t357) else ((impl_RulOk.f t342 t343 t344 t345 t346 t347 t348).bind fun t371 => ((spec_RulOk.f t342 t343 t344 t345 t346 t347 t348).bind fun t372 => (laws_FnRulText.j1 kj2 t350 t358 (t371 != t372) t342 t343 t344 t345 t346 t347 t348 t351 t352 t353 t354 t355 t356 t357))))) else (laws_FnRulText.j1 kj2 t350 t358 true t342 t343 t344 t345 t346 t347 t348 t351 t352 t353 t354 t355 t356 t357)) = some r := H
          have A25 := Aside0.mk A250
          clear A250
          by_cases c26 : t369.toList = t370.toList
          · rw [if_pos c26] at H
            have c26b0 : (t369.toList == t370.toList) = true := beq_iff_eq.mpr c26
            have c26b1 : (t369.toList != t370.toList) = false := bne_eq_false_iff_eq.mpr c26
            clear c26
            (first | rw [c26b0] | (simp only [i64_w, i32_w]; rw [c26b0]) | skip)
            by_cases c27 : (!(t351 == t360) || (!(t352 == t361) || (!(t353 == t362) || (!(t354 == t363) || (!(t355 == t364) || (!(t356 == t365) || (!(t357 == t366)))))))) = true
            · rw [if_pos c27] at H
              have c27b0 : (!(t351 == t360) || (!(t352 == t361) || (!(t353 == t362) || (!(t354 == t363) || (!(t355 == t364) || (!(t356 == t365) || (!(t357 == t366)))))))) = true := c27
              clear c27
              have H' := Aside0.mk H
              clear H
              try go_wp2
              have n0_ : Aside0 ((((((((w20.setCell ⟨gb368, 0, none⟩ (.bool t360)).setCell ⟨gb368, 1, none⟩ (.int .i64 t361)).setCell ⟨gb368, 2, none⟩ (.int .i64 t362)).setCell ⟨gb368, 3, none⟩ (.int .i64 t363)).setCell ⟨gb368, 4, none⟩ (.int .i64 t364)).setCell ⟨gb368, 5, none⟩ (.int .i64 t365)).setCell ⟨gb368, 6, none⟩ (.int .i64 t366)).heap[gb349]? = some (.cells #[.bool t342, .int .i64 t343, .int .i64 t344, .int .i64 t345, .int .i64 t346, .int .i64 t347, .int .i64 t348] 25 (0, 0))) := ⟨by (with_reducible repeat refine bu ?_); refine blk_far ?_ NB349_368.out _; (with_reducible repeat refine bu ?_); refine blk_far ?_ NB349_368.out _; (with_reducible repeat refine bu ?_); refine blk_far ?_ NB349_368.out _; (with_reducible repeat refine bu ?_); refine blk_far ?_ NB349_368.out _; (with_reducible repeat refine bu ?_); refine blk_far ?_ NB349_368.out _; (with_reducible repeat refine bu ?_); refine blk_far ?_ NB349_368.out _; (with_reducible repeat refine bu ?_); refine blk_far ?_ NB349_368.out _; (with_reducible repeat refine bu ?_); exact BK349.out⟩
              have n1_ : Aside0 ((((((((w20.setCell ⟨gb368, 0, none⟩ (.bool t360)).setCell ⟨gb368, 1, none⟩ (.int .i64 t361)).setCell ⟨gb368, 2, none⟩ (.int .i64 t362)).setCell ⟨gb368, 3, none⟩ (.int .i64 t363)).setCell ⟨gb368, 4, none⟩ (.int .i64 t364)).setCell ⟨gb368, 5, none⟩ (.int .i64 t365)).setCell ⟨gb368, 6, none⟩ (.int .i64 t366)).heap[gb359]? = some (.cells #[.bool t351, .int .i64 t352, .int .i64 t353, .int .i64 t354, .int .i64 t355, .int .i64 t356, .int .i64 t357] 25 (0, 0))) := ⟨by (with_reducible repeat refine bu ?_); refine blk_far ?_ NB359_368.out _; (with_reducible repeat refine bu ?_); refine blk_far ?_ NB359_368.out _; (with_reducible repeat refine bu ?_); refine blk_far ?_ NB359_368.out _; (with_reducible repeat refine bu ?_); refine blk_far ?_ NB359_368.out _; (with_reducible repeat refine bu ?_); refine blk_far ?_ NB359_368.out _; (with_reducible repeat refine bu ?_); refine blk_far ?_ NB359_368.out _; (with_reducible repeat refine bu ?_); refine blk_far ?_ NB359_368.out _; (with_reducible repeat refine bu ?_); exact BK359.out⟩
              have n2_ : Aside0 ((((((((w20.setCell ⟨gb368, 0, none⟩ (.bool t360)).setCell ⟨gb368, 1, none⟩ (.int .i64 t361)).setCell ⟨gb368, 2, none⟩ (.int .i64 t362)).setCell ⟨gb368, 3, none⟩ (.int .i64 t363)).setCell ⟨gb368, 4, none⟩ (.int .i64 t364)).setCell ⟨gb368, 5, none⟩ (.int .i64 t365)).setCell ⟨gb368, 6, none⟩ (.int .i64 t366)).heap[gb368]? = some (.cells #[.bool t360, .int .i64 t361, .int .i64 t362, .int .i64 t363, .int .i64 t364, .int .i64 t365, .int .i64 t366] 25 (0, 0))) := ⟨by (with_reducible repeat refine bu ?_); refine blk_put (cs := #[.bool t360, .int .i64 t361, .int .i64 t362, .int .i64 t363, .int .i64 t364, .int .i64 t365, .int .i64 0]) ?_ 6 _ rfl; (with_reducible repeat refine bu ?_); refine blk_put (cs := #[.bool t360, .int .i64 t361, .int .i64 t362, .int .i64 t363, .int .i64 t364, .int .i64 0, .int .i64 0]) ?_ 5 _ rfl; (with_reducible repeat refine bu ?_); refine blk_put (cs := #[.bool t360, .int .i64 t361, .int .i64 t362, .int .i64 t363, .int .i64 0, .int .i64 0, .int .i64 0]) ?_ 4 _ rfl; (with_reducible repeat refine bu ?_); refine blk_put (cs := #[.bool t360, .int .i64 t361, .int .i64 t362, .int .i64 0, .int .i64 0, .int .i64 0, .int .i64 0]) ?_ 3 _ rfl; (with_reducible repeat refine bu ?_); refine blk_put (cs := #[.bool t360, .int .i64 t361, .int .i64 0, .int .i64 0, .int .i64 0, .int .i64 0, .int .i64 0]) ?_ 2 _ rfl; (with_reducible repeat refine bu ?_); refine blk_put (cs := #[.bool t360, .int .i64 0, .int .i64 0, .int .i64 0, .int .i64 0, .int .i64 0, .int .i64 0]) ?_ 1 _ rfl; (with_reducible repeat refine bu ?_); refine blk_put (cs := #[.bool false, .int .i64 0, .int .i64 0, .int .i64 0, .int .i64 0, .int .i64 0, .int .i64 0]) ?_ 0 _ rfl; (with_reducible repeat refine bu ?_); exact BK368.out⟩
              have n3_ : Aside0 (Below w.heap.size w (((((((w20.setCell ⟨gb368, 0, none⟩ (.bool t360)).setCell ⟨gb368, 1, none⟩ (.int .i64 t361)).setCell ⟨gb368, 2, none⟩ (.int .i64 t362)).setCell ⟨gb368, 3, none⟩ (.int .i64 t363)).setCell ⟨gb368, 4, none⟩ (.int .i64 t364)).setCell ⟨gb368, 5, none⟩ (.int .i64 t365)).setCell ⟨gb368, 6, none⟩ (.int .i64 t366))) := ⟨by repeat (first | (with_reducible first | exact HB.out | apply below_alloc | apply pw_below_drewN | apply below_drew1 | refine below_set ?_ GE349.out | refine below_set ?_ GE359.out | refine below_set ?_ GE368.out) | exact HB.out)⟩
              (try clear BK349)
              (try clear BK359)
              (try clear BK368)
              (try clear HB)
              generalize (((((((w20.setCell ⟨gb368, 0, none⟩ (.bool t360)).setCell ⟨gb368, 1, none⟩ (.int .i64 t361)).setCell ⟨gb368, 2, none⟩ (.int .i64 t362)).setCell ⟨gb368, 3, none⟩ (.int .i64 t363)).setCell ⟨gb368, 4, none⟩ (.int .i64 t364)).setCell ⟨gb368, 5, none⟩ (.int .i64 t365)).setCell ⟨gb368, 6, none⟩ (.int .i64 t366)) = w28 at n0_ n1_ n2_ n3_ ⊢
              have BK349 := n0_
              have BK359 := n1_
              have BK368 := n2_
              have HB := n3_
              clear n0_ n1_ n2_ n3_
              have n0_ := Aside0.mk (blk_drew BK349.out)
              have n1_ := Aside0.mk (blk_drew BK359.out)
              have n2_ := Aside0.mk (blk_drew BK368.out)
              have n3_ := Aside0.mk (below_drew1 HB.out)
              clear BK349
              clear BK359
              clear BK368
              clear HB
              have BK349 := n0_
              have BK359 := n1_
              have BK368 := n2_
              have HB := n3_
              clear n0_ n1_ n2_ n3_
              refine start_ (n := 22) (S := fun w' => w'.cell? ⟨gb349, 0, none⟩ = some (.bool t342) ∧ w'.cell? ⟨gb349, 1, none⟩ = some (.int .i64 t343) ∧ w'.cell? ⟨gb349, 2, none⟩ = some (.int .i64 t344) ∧ w'.cell? ⟨gb349, 3, none⟩ = some (.int .i64 t345) ∧ w'.cell? ⟨gb349, 4, none⟩ = some (.int .i64 t346) ∧ w'.cell? ⟨gb349, 5, none⟩ = some (.int .i64 t347) ∧ w'.cell? ⟨gb349, 6, none⟩ = some (.int .i64 t348) ∧ w'.cell? ⟨gb359, 0, none⟩ = some (.bool t351) ∧ w'.cell? ⟨gb359, 1, none⟩ = some (.int .i64 t352) ∧ w'.cell? ⟨gb359, 2, none⟩ = some (.int .i64 t353) ∧ w'.cell? ⟨gb359, 3, none⟩ = some (.int .i64 t354) ∧ w'.cell? ⟨gb359, 4, none⟩ = some (.int .i64 t355) ∧ w'.cell? ⟨gb359, 5, none⟩ = some (.int .i64 t356) ∧ w'.cell? ⟨gb359, 6, none⟩ = some (.int .i64 t357) ∧ w'.cell? ⟨gb368, 0, none⟩ = some (.bool t360) ∧ w'.cell? ⟨gb368, 1, none⟩ = some (.int .i64 t361) ∧ w'.cell? ⟨gb368, 2, none⟩ = some (.int .i64 t362) ∧ w'.cell? ⟨gb368, 3, none⟩ = some (.int .i64 t363) ∧ w'.cell? ⟨gb368, 4, none⟩ = some (.int .i64 t364) ∧ w'.cell? ⟨gb368, 5, none⟩ = some (.int .i64 t365) ∧ w'.cell? ⟨gb368, 6, none⟩ = some (.int .i64 t366)) (ds := []) #[false, false, false, false, false, false, false, false, false, false, false, false, false, false, false, false, false, false, false, false, false, false] (by kernel_rfl) rfl rfl ⟨(blk_cell BK349.out 0).trans rfl, (blk_cell BK349.out 1).trans rfl, (blk_cell BK349.out 2).trans rfl, (blk_cell BK349.out 3).trans rfl, (blk_cell BK349.out 4).trans rfl, (blk_cell BK349.out 5).trans rfl, (blk_cell BK349.out 6).trans rfl, (blk_cell BK359.out 0).trans rfl, (blk_cell BK359.out 1).trans rfl, (blk_cell BK359.out 2).trans rfl, (blk_cell BK359.out 3).trans rfl, (blk_cell BK359.out 4).trans rfl, (blk_cell BK359.out 5).trans rfl, (blk_cell BK359.out 6).trans rfl, (blk_cell BK368.out 0).trans rfl, (blk_cell BK368.out 1).trans rfl, (blk_cell BK368.out 2).trans rfl, (blk_cell BK368.out 3).trans rfl, (blk_cell BK368.out 4).trans rfl, (blk_cell BK368.out 5).trans rfl, (blk_cell BK368.out 6).trans rfl⟩ (fun hHeld => ?_); refine with_tabW laws_FnRulText.tab7 laws_FnRulText.bits7 (fun HT_ HW_ => ?_)
              generalize w28.drew = w29 at BK349 BK359 BK368 HB hHeld ⊢
              refine take_ (i := 0) (N := some 35) (v := ?_) (a' := ?_) #[true, false, false, false, false, false, false, false, false, false, false, false, false, false, false, false, false, false, false, false, false, false] rfl rfl (take_ofW HT_.out HW_.out (by kernel_rfl)) (fun _ _ _ h => h) (Or.inl ⟨by rfl, ?_⟩) hHeld ?_ ?_
              rotate_left
              · rintro w' ⟨s0, s1, s2, s3, s4, s5, s6, s7, s8, s9, s10, s11, s12, s13, s14, s15, s16, s17, s18, s19, s20⟩
                go_simp
                with_reducible rfl
              rotate_left
              · simp only [Act.put, List.setIfInBounds_toArray, List.set_cons_zero, List.set_cons_succ, i64_w, i32_w]
                rfl
              refine take_ (i := 2) (N := some 37) (v := ?_) (a' := ?_) #[true, false, true, false, false, false, false, false, false, false, false, false, false, false, false, false, false, false, false, false, false, false] rfl rfl (take_ofW HT_.out HW_.out (by kernel_rfl)) (fun _ _ _ h => h) (Or.inl ⟨by rfl, ?_⟩) hHeld ?_ ?_
              rotate_left
              · rintro w' ⟨s0, s1, s2, s3, s4, s5, s6, s7, s8, s9, s10, s11, s12, s13, s14, s15, s16, s17, s18, s19, s20⟩
                go_simp
                with_reducible rfl
              rotate_left
              · simp only [Act.put, List.setIfInBounds_toArray, List.set_cons_zero, List.set_cons_succ, i64_w, i32_w]
                rfl
              refine one_ (i := 1) (N := some 36) #[true, true, true, false, false, false, false, false, false, false, false, false, false, false, false, false, false, false, false, false, false, false] rfl rfl (one_of HT_.out (by kernel_rfl)) (by decide) (fun K hK => ?_)
              refine goes_ Tryd.func8 (by kernel_rfl) rfl #[.agg #[.bool t342, .int .i64 t343, .int .i64 t344, .int .i64 t345, .int .i64 t346, .int .i64 t347, .int .i64 t348]] (by rfl) rfl rfl (by (try simp only [List.map_toArray, List.map_cons, List.map_nil]); first | done | rfl | (simp only [List.length_drop, List.length_take]; rfl)) ?_
              with_reducible refine (impl_RulText.calls t342 t343 t344 t345 t346 t347 t348 t369 _ A24.out (EnvT.below hE.t (bl HB))).mono ?_
              rintro e w30 ⟨rfl, hb⟩
              refine ⟨_, rfl, ?_⟩
              have n0_ := bkB BK349 hb
              have n1_ := bkB BK359 hb
              have n2_ := bkB BK368 hb
              have n3_ := Aside0.mk (below_step (bl HB) hb)
              clear BK349
              clear BK359
              clear BK368
              clear HB
              have BK349 := n0_
              have BK359 := n1_
              have BK368 := n2_
              have HB := n3_
              clear n0_ n1_ n2_ n3_
              (try clear hb)
              (try clear hb2)
              (try clear hk)
              (try clear hi)
              refine hK.out _ _ ⟨(blk_cell BK349.out 0).trans rfl, (blk_cell BK349.out 1).trans rfl, (blk_cell BK349.out 2).trans rfl, (blk_cell BK349.out 3).trans rfl, (blk_cell BK349.out 4).trans rfl, (blk_cell BK349.out 5).trans rfl, (blk_cell BK349.out 6).trans rfl, (blk_cell BK359.out 0).trans rfl, (blk_cell BK359.out 1).trans rfl, (blk_cell BK359.out 2).trans rfl, (blk_cell BK359.out 3).trans rfl, (blk_cell BK359.out 4).trans rfl, (blk_cell BK359.out 5).trans rfl, (blk_cell BK359.out 6).trans rfl, (blk_cell BK368.out 0).trans rfl, (blk_cell BK368.out 1).trans rfl, (blk_cell BK368.out 2).trans rfl, (blk_cell BK368.out 3).trans rfl, (blk_cell BK368.out 4).trans rfl, (blk_cell BK368.out 5).trans rfl, (blk_cell BK368.out 6).trans rfl⟩ (fun hHeld => ?_)
              clear hK K
              refine norm_ (a' := ?_) ?_ ?_
              rotate_left
              · show Act.put _ (some 36) _ = _
                simp only [Act.put, List.setIfInBounds_toArray, List.set_cons_zero, List.set_cons_succ, i64_w, i32_w]
                rfl
              refine one_ (i := 3) (N := some 38) #[true, true, true, true, false, false, false, false, false, false, false, false, false, false, false, false, false, false, false, false, false, false] rfl rfl (one_of HT_.out (by kernel_rfl)) (by decide) (fun K hK => ?_)
              refine goes_ Tryd.func6 (by kernel_rfl) rfl #[.agg #[.bool t342, .int .i64 t343, .int .i64 t344, .int .i64 t345, .int .i64 t346, .int .i64 t347, .int .i64 t348]] (by rfl) rfl rfl (by (try simp only [List.map_toArray, List.map_cons, List.map_nil]); first | done | rfl | (simp only [List.length_drop, List.length_take]; rfl)) ?_
              with_reducible refine (spec_RulText.calls kj2 t342 t343 t344 t345 t346 t347 t348 t370 _ A25.out).mono ?_
              rintro e w31 ⟨rfl, hb⟩
              refine ⟨_, rfl, ?_⟩
              have n0_ := bkB BK349 hb
              have n1_ := bkB BK359 hb
              have n2_ := bkB BK368 hb
              have n3_ := Aside0.mk (below_step (bl HB) hb)
              clear BK349
              clear BK359
              clear BK368
              clear HB
              have BK349 := n0_
              have BK359 := n1_
              have BK368 := n2_
              have HB := n3_
              clear n0_ n1_ n2_ n3_
              (try clear hb)
              (try clear hb2)
              (try clear hk)
              (try clear hi)
              refine hK.out _ _ ⟨(blk_cell BK349.out 0).trans rfl, (blk_cell BK349.out 1).trans rfl, (blk_cell BK349.out 2).trans rfl, (blk_cell BK349.out 3).trans rfl, (blk_cell BK349.out 4).trans rfl, (blk_cell BK349.out 5).trans rfl, (blk_cell BK349.out 6).trans rfl, (blk_cell BK359.out 0).trans rfl, (blk_cell BK359.out 1).trans rfl, (blk_cell BK359.out 2).trans rfl, (blk_cell BK359.out 3).trans rfl, (blk_cell BK359.out 4).trans rfl, (blk_cell BK359.out 5).trans rfl, (blk_cell BK359.out 6).trans rfl, (blk_cell BK368.out 0).trans rfl, (blk_cell BK368.out 1).trans rfl, (blk_cell BK368.out 2).trans rfl, (blk_cell BK368.out 3).trans rfl, (blk_cell BK368.out 4).trans rfl, (blk_cell BK368.out 5).trans rfl, (blk_cell BK368.out 6).trans rfl⟩ (fun hHeld => ?_)
              clear hK K
              refine norm_ (a' := ?_) ?_ ?_
              rotate_left
              · show Act.put _ (some 38) _ = _
                simp only [Act.put, List.setIfInBounds_toArray, List.set_cons_zero, List.set_cons_succ, i64_w, i32_w]
                rfl
              refine pure_ (i := 4) (N := some 39) (v := ?_) (a' := ?_) #[true, true, true, true, true, false, false, false, false, false, false, false, false, false, false, false, false, false, false, false, false, false] rfl rfl (any_of HT_.out (by kernel_rfl)) (fun _ _ _ h => h) (Or.inl ⟨by rfl, ?_⟩) ?_ ?_
              rotate_left
              · intro w'
                go_simp
                with_reducible rfl
              rotate_left
              · simp only [Act.put, List.setIfInBounds_toArray, List.set_cons_zero, List.set_cons_succ, i64_w, i32_w]
                rfl
              refine pure_ (i := 5) (N := some 40) (v := ?_) (a' := ?_) #[true, true, true, true, true, true, false, false, false, false, false, false, false, false, false, false, false, false, false, false, false, false] rfl rfl (any_of HT_.out (by kernel_rfl)) (fun _ _ _ h => h) (Or.inl ⟨by rfl, ?_⟩) ?_ ?_
              rotate_left
              · intro w'
                go_simp
                with_reducible rfl
              rotate_left
              · simp only [Act.put, List.setIfInBounds_toArray, List.set_cons_zero, List.set_cons_succ, i64_w, i32_w]
                rfl
              refine take_ (i := 6) (N := some 41) (v := ?_) (a' := ?_) #[true, true, true, true, true, true, true, false, false, false, false, false, false, false, false, false, false, false, false, false, false, false] rfl rfl (take_ofW HT_.out HW_.out (by kernel_rfl)) (fun _ _ _ h => h) (Or.inl ⟨by rfl, ?_⟩) hHeld ?_ ?_
              rotate_left
              · rintro w' ⟨s0, s1, s2, s3, s4, s5, s6, s7, s8, s9, s10, s11, s12, s13, s14, s15, s16, s17, s18, s19, s20⟩
                go_simp
                with_reducible rfl
              rotate_left
              · simp only [Act.put, List.setIfInBounds_toArray, List.set_cons_zero, List.set_cons_succ, i64_w, i32_w]
                rfl
              refine take_ (i := 7) (N := some 42) (v := ?_) (a' := ?_) #[true, true, true, true, true, true, true, true, false, false, false, false, false, false, false, false, false, false, false, false, false, false] rfl rfl (take_ofW HT_.out HW_.out (by kernel_rfl)) (fun _ _ _ h => h) (Or.inl ⟨by rfl, ?_⟩) hHeld ?_ ?_
              rotate_left
              · rintro w' ⟨s0, s1, s2, s3, s4, s5, s6, s7, s8, s9, s10, s11, s12, s13, s14, s15, s16, s17, s18, s19, s20⟩
                go_simp
                with_reducible rfl
              rotate_left
              · simp only [Act.put, List.setIfInBounds_toArray, List.set_cons_zero, List.set_cons_succ, i64_w, i32_w]
                rfl
              refine pure_ (i := 8) (N := some 43) (v := ?_) (a' := ?_) #[true, true, true, true, true, true, true, true, true, false, false, false, false, false, false, false, false, false, false, false, false, false] rfl rfl (any_of HT_.out (by kernel_rfl)) (fun _ _ _ h => h) (Or.inl ⟨by rfl, ?_⟩) ?_ ?_
              rotate_left
              · intro w'
                go_simp
                with_reducible rfl
              rotate_left
              · simp only [Act.put, List.setIfInBounds_toArray, List.set_cons_zero, List.set_cons_succ, i64_w, i32_w]
                rfl
              refine pure_ (i := 9) (N := some 44) (v := ?_) (a' := ?_) #[true, true, true, true, true, true, true, true, true, true, false, false, false, false, false, false, false, false, false, false, false, false] rfl rfl (any_of HT_.out (by kernel_rfl)) (fun _ _ _ h => h) (Or.inl ⟨by rfl, ?_⟩) ?_ ?_
              rotate_left
              · intro w'
                go_simp
                with_reducible rfl
              rotate_left
              · simp only [Act.put, List.setIfInBounds_toArray, List.set_cons_zero, List.set_cons_succ, i64_w, i32_w]
                rfl
              refine pure_ (i := 10) (N := some 45) (v := ?_) (a' := ?_) #[true, true, true, true, true, true, true, true, true, true, true, false, false, false, false, false, false, false, false, false, false, false] rfl rfl (any_of HT_.out (by kernel_rfl)) (fun _ _ _ h => h) (Or.inl ⟨by rfl, ?_⟩) ?_ ?_
              rotate_left
              · intro w'
                go_simp
                with_reducible rfl
              rotate_left
              · simp only [Act.put, List.setIfInBounds_toArray, List.set_cons_zero, List.set_cons_succ, i64_w, i32_w]
                rfl
              refine pure_ (i := 11) (N := some 46) (v := undef) (a' := ?_) #[true, true, true, true, true, true, true, true, true, true, true, true, false, false, false, false, false, false, false, false, false, false] rfl rfl (any_of HT_.out (by kernel_rfl)) (fun _ _ _ h => h) (Or.inr ⟨by rfl, rfl⟩) ?_ ?_
              rotate_left
              · simp only [Act.put, List.setIfInBounds_toArray, List.set_cons_zero, List.set_cons_succ, i64_w, i32_w]
                rfl
              refine pure_ (i := 12) (N := some 47) (v := undef) (a' := ?_) #[true, true, true, true, true, true, true, true, true, true, true, true, true, false, false, false, false, false, false, false, false, false] rfl rfl (any_of HT_.out (by kernel_rfl)) (fun _ _ _ h => h) (Or.inr ⟨by rfl, rfl⟩) ?_ ?_
              rotate_left
              · simp only [Act.put, List.setIfInBounds_toArray, List.set_cons_zero, List.set_cons_succ, i64_w, i32_w]
                rfl
              refine pure_ (i := 13) (N := some 48) (v := undef) (a' := ?_) #[true, true, true, true, true, true, true, true, true, true, true, true, true, true, false, false, false, false, false, false, false, false] rfl rfl (any_of HT_.out (by kernel_rfl)) (fun _ _ _ h => h) (Or.inr ⟨by rfl, rfl⟩) ?_ ?_
              rotate_left
              · simp only [Act.put, List.setIfInBounds_toArray, List.set_cons_zero, List.set_cons_succ, i64_w, i32_w]
                rfl
              refine pure_ (i := 14) (N := some 49) (v := ?_) (a' := ?_) #[true, true, true, true, true, true, true, true, true, true, true, true, true, true, true, false, false, false, false, false, false, false] rfl rfl (any_of HT_.out (by kernel_rfl)) (fun _ _ _ h => h) (Or.inl ⟨by rfl, ?_⟩) ?_ ?_
              rotate_left
              · intro w'
                go_simp
                with_reducible rfl
              rotate_left
              · simp only [Act.put, List.setIfInBounds_toArray, List.set_cons_zero, List.set_cons_succ, i64_w, i32_w]
                rfl
              refine pure_ (i := 15) (N := some 50) (v := ?_) (a' := ?_) #[true, true, true, true, true, true, true, true, true, true, true, true, true, true, true, true, false, false, false, false, false, false] rfl rfl (any_of HT_.out (by kernel_rfl)) (fun _ _ _ h => h) (Or.inl ⟨by rfl, ?_⟩) ?_ ?_
              rotate_left
              · intro w'
                go_simp
                with_reducible rfl
              rotate_left
              · simp only [Act.put, List.setIfInBounds_toArray, List.set_cons_zero, List.set_cons_succ, i64_w, i32_w]
                rfl
              refine pure_ (i := 16) (N := some 51) (v := undef) (a' := ?_) #[true, true, true, true, true, true, true, true, true, true, true, true, true, true, true, true, true, false, false, false, false, false] rfl rfl (any_of HT_.out (by kernel_rfl)) (fun _ _ _ h => h) (Or.inr ⟨by rfl, rfl⟩) ?_ ?_
              rotate_left
              · simp only [Act.put, List.setIfInBounds_toArray, List.set_cons_zero, List.set_cons_succ, i64_w, i32_w]
                rfl
              refine pure_ (i := 17) (N := some 52) (v := undef) (a' := ?_) #[true, true, true, true, true, true, true, true, true, true, true, true, true, true, true, true, true, true, false, false, false, false] rfl rfl (any_of HT_.out (by kernel_rfl)) (fun _ _ _ h => h) (Or.inr ⟨by rfl, rfl⟩) ?_ ?_
              rotate_left
              · simp only [Act.put, List.setIfInBounds_toArray, List.set_cons_zero, List.set_cons_succ, i64_w, i32_w]
                rfl
              refine pure_ (i := 18) (N := some 53) (v := undef) (a' := ?_) #[true, true, true, true, true, true, true, true, true, true, true, true, true, true, true, true, true, true, true, false, false, false] rfl rfl (any_of HT_.out (by kernel_rfl)) (fun _ _ _ h => h) (Or.inr ⟨by rfl, rfl⟩) ?_ ?_
              rotate_left
              · simp only [Act.put, List.setIfInBounds_toArray, List.set_cons_zero, List.set_cons_succ, i64_w, i32_w]
                rfl
              refine pure_ (i := 19) (N := some 54) (v := undef) (a' := ?_) #[true, true, true, true, true, true, true, true, true, true, true, true, true, true, true, true, true, true, true, true, false, false] rfl rfl (any_of HT_.out (by kernel_rfl)) (fun _ _ _ h => h) (Or.inr ⟨by rfl, rfl⟩) ?_ ?_
              rotate_left
              · simp only [Act.put, List.setIfInBounds_toArray, List.set_cons_zero, List.set_cons_succ, i64_w, i32_w]
                rfl
              refine pure_ (i := 20) (N := some 55) (v := undef) (a' := ?_) #[true, true, true, true, true, true, true, true, true, true, true, true, true, true, true, true, true, true, true, true, true, false] rfl rfl (any_of HT_.out (by kernel_rfl)) (fun _ _ _ h => h) (Or.inr ⟨by rfl, rfl⟩) ?_ ?_
              rotate_left
              · simp only [Act.put, List.setIfInBounds_toArray, List.set_cons_zero, List.set_cons_succ, i64_w, i32_w]
                rfl
              refine pure_ (i := 21) (N := some 56) (v := ?_) (a' := ?_) #[true, true, true, true, true, true, true, true, true, true, true, true, true, true, true, true, true, true, true, true, true, true] rfl rfl (any_of HT_.out (by kernel_rfl)) (fun _ _ _ h => h) (Or.inl ⟨by rfl, ?_⟩) ?_ ?_
              rotate_left
              · intro w'
                go_simp
                with_reducible rfl
              rotate_left
              · simp only [Act.put, List.setIfInBounds_toArray, List.set_cons_zero, List.set_cons_succ, i64_w, i32_w]
                rfl
              refine done_ (done_of HT_.out (by kernel_rfl)) ?_
              try go_wp2
              go_meet
              case rel => exact ⟨_, (true), (by first | rfl | (simp; done) | (simp [*]; done)), H', ⟨by have := HJ2.out; first | omega | exact Nat.le_refl _⟩, ⟨by (with_reducible repeat refine bu ?_); exact BK349.out⟩, ⟨by (with_reducible repeat refine bu ?_); exact BK359.out⟩, ⟨by (with_reducible repeat refine bu ?_); exact BK368.out⟩, ⟨by repeat (first | (with_reducible first | exact HB.out | apply below_alloc | apply pw_below_drewN | apply below_drew1 | refine below_set ?_ GE349.out | refine below_set ?_ GE359.out | refine below_set ?_ GE368.out) | exact HB.out)⟩⟩
            · rw [if_neg c27] at H
              have c27b0 : (!(t351 == t360) || (!(t352 == t361) || (!(t353 == t362) || (!(t354 == t363) || (!(t355 == t364) || (!(t356 == t365) || (!(t357 == t366)))))))) = false := by simpa using c27
              clear c27
              by_cases c32 : (t358 != t367) = true
              · rw [if_pos c32] at H
                have c32b0 : (t358 != t367) = true := c32
                (try (have c32b1 : decide (t358 = t367) = false := by simpa using c32))
                (try (have c32b2 : (t358 == t367) = false := by simpa using c32))
                (try (have c32b3 : ¬ (t358 = t367) := by simpa using c32))
                clear c32
                have H' := Aside0.mk H
                clear H
                try go_wp2
                have n0_ : Aside0 ((((((((w20.setCell ⟨gb368, 0, none⟩ (.bool t360)).setCell ⟨gb368, 1, none⟩ (.int .i64 t361)).setCell ⟨gb368, 2, none⟩ (.int .i64 t362)).setCell ⟨gb368, 3, none⟩ (.int .i64 t363)).setCell ⟨gb368, 4, none⟩ (.int .i64 t364)).setCell ⟨gb368, 5, none⟩ (.int .i64 t365)).setCell ⟨gb368, 6, none⟩ (.int .i64 t366)).heap[gb349]? = some (.cells #[.bool t342, .int .i64 t343, .int .i64 t344, .int .i64 t345, .int .i64 t346, .int .i64 t347, .int .i64 t348] 25 (0, 0))) := ⟨by (with_reducible repeat refine bu ?_); refine blk_far ?_ NB349_368.out _; (with_reducible repeat refine bu ?_); refine blk_far ?_ NB349_368.out _; (with_reducible repeat refine bu ?_); refine blk_far ?_ NB349_368.out _; (with_reducible repeat refine bu ?_); refine blk_far ?_ NB349_368.out _; (with_reducible repeat refine bu ?_); refine blk_far ?_ NB349_368.out _; (with_reducible repeat refine bu ?_); refine blk_far ?_ NB349_368.out _; (with_reducible repeat refine bu ?_); refine blk_far ?_ NB349_368.out _; (with_reducible repeat refine bu ?_); exact BK349.out⟩
                have n1_ : Aside0 ((((((((w20.setCell ⟨gb368, 0, none⟩ (.bool t360)).setCell ⟨gb368, 1, none⟩ (.int .i64 t361)).setCell ⟨gb368, 2, none⟩ (.int .i64 t362)).setCell ⟨gb368, 3, none⟩ (.int .i64 t363)).setCell ⟨gb368, 4, none⟩ (.int .i64 t364)).setCell ⟨gb368, 5, none⟩ (.int .i64 t365)).setCell ⟨gb368, 6, none⟩ (.int .i64 t366)).heap[gb359]? = some (.cells #[.bool t351, .int .i64 t352, .int .i64 t353, .int .i64 t354, .int .i64 t355, .int .i64 t356, .int .i64 t357] 25 (0, 0))) := ⟨by (with_reducible repeat refine bu ?_); refine blk_far ?_ NB359_368.out _; (with_reducible repeat refine bu ?_); refine blk_far ?_ NB359_368.out _; (with_reducible repeat refine bu ?_); refine blk_far ?_ NB359_368.out _; (with_reducible repeat refine bu ?_); refine blk_far ?_ NB359_368.out _; (with_reducible repeat refine bu ?_); refine blk_far ?_ NB359_368.out _; (with_reducible repeat refine bu ?_); refine blk_far ?_ NB359_368.out _; (with_reducible repeat refine bu ?_); refine blk_far ?_ NB359_368.out _; (with_reducible repeat refine bu ?_); exact BK359.out⟩
                have n2_ : Aside0 ((((((((w20.setCell ⟨gb368, 0, none⟩ (.bool t360)).setCell ⟨gb368, 1, none⟩ (.int .i64 t361)).setCell ⟨gb368, 2, none⟩ (.int .i64 t362)).setCell ⟨gb368, 3, none⟩ (.int .i64 t363)).setCell ⟨gb368, 4, none⟩ (.int .i64 t364)).setCell ⟨gb368, 5, none⟩ (.int .i64 t365)).setCell ⟨gb368, 6, none⟩ (.int .i64 t366)).heap[gb368]? = some (.cells #[.bool t360, .int .i64 t361, .int .i64 t362, .int .i64 t363, .int .i64 t364, .int .i64 t365, .int .i64 t366] 25 (0, 0))) := ⟨by (with_reducible repeat refine bu ?_); refine blk_put (cs := #[.bool t360, .int .i64 t361, .int .i64 t362, .int .i64 t363, .int .i64 t364, .int .i64 t365, .int .i64 0]) ?_ 6 _ rfl; (with_reducible repeat refine bu ?_); refine blk_put (cs := #[.bool t360, .int .i64 t361, .int .i64 t362, .int .i64 t363, .int .i64 t364, .int .i64 0, .int .i64 0]) ?_ 5 _ rfl; (with_reducible repeat refine bu ?_); refine blk_put (cs := #[.bool t360, .int .i64 t361, .int .i64 t362, .int .i64 t363, .int .i64 0, .int .i64 0, .int .i64 0]) ?_ 4 _ rfl; (with_reducible repeat refine bu ?_); refine blk_put (cs := #[.bool t360, .int .i64 t361, .int .i64 t362, .int .i64 0, .int .i64 0, .int .i64 0, .int .i64 0]) ?_ 3 _ rfl; (with_reducible repeat refine bu ?_); refine blk_put (cs := #[.bool t360, .int .i64 t361, .int .i64 0, .int .i64 0, .int .i64 0, .int .i64 0, .int .i64 0]) ?_ 2 _ rfl; (with_reducible repeat refine bu ?_); refine blk_put (cs := #[.bool t360, .int .i64 0, .int .i64 0, .int .i64 0, .int .i64 0, .int .i64 0, .int .i64 0]) ?_ 1 _ rfl; (with_reducible repeat refine bu ?_); refine blk_put (cs := #[.bool false, .int .i64 0, .int .i64 0, .int .i64 0, .int .i64 0, .int .i64 0, .int .i64 0]) ?_ 0 _ rfl; (with_reducible repeat refine bu ?_); exact BK368.out⟩
                have n3_ : Aside0 (Below w.heap.size w (((((((w20.setCell ⟨gb368, 0, none⟩ (.bool t360)).setCell ⟨gb368, 1, none⟩ (.int .i64 t361)).setCell ⟨gb368, 2, none⟩ (.int .i64 t362)).setCell ⟨gb368, 3, none⟩ (.int .i64 t363)).setCell ⟨gb368, 4, none⟩ (.int .i64 t364)).setCell ⟨gb368, 5, none⟩ (.int .i64 t365)).setCell ⟨gb368, 6, none⟩ (.int .i64 t366))) := ⟨by repeat (first | (with_reducible first | exact HB.out | apply below_alloc | apply pw_below_drewN | apply below_drew1 | refine below_set ?_ GE349.out | refine below_set ?_ GE359.out | refine below_set ?_ GE368.out) | exact HB.out)⟩
                (try clear BK349)
                (try clear BK359)
                (try clear BK368)
                (try clear HB)
                generalize (((((((w20.setCell ⟨gb368, 0, none⟩ (.bool t360)).setCell ⟨gb368, 1, none⟩ (.int .i64 t361)).setCell ⟨gb368, 2, none⟩ (.int .i64 t362)).setCell ⟨gb368, 3, none⟩ (.int .i64 t363)).setCell ⟨gb368, 4, none⟩ (.int .i64 t364)).setCell ⟨gb368, 5, none⟩ (.int .i64 t365)).setCell ⟨gb368, 6, none⟩ (.int .i64 t366)) = w33 at n0_ n1_ n2_ n3_ ⊢
                have BK349 := n0_
                have BK359 := n1_
                have BK368 := n2_
                have HB := n3_
                clear n0_ n1_ n2_ n3_
                have n0_ := Aside0.mk (blk_drew BK349.out)
                have n1_ := Aside0.mk (blk_drew BK359.out)
                have n2_ := Aside0.mk (blk_drew BK368.out)
                have n3_ := Aside0.mk (below_drew1 HB.out)
                clear BK349
                clear BK359
                clear BK368
                clear HB
                have BK349 := n0_
                have BK359 := n1_
                have BK368 := n2_
                have HB := n3_
                clear n0_ n1_ n2_ n3_
                refine start_ (n := 22) (S := fun w' => w'.cell? ⟨gb349, 0, none⟩ = some (.bool t342) ∧ w'.cell? ⟨gb349, 1, none⟩ = some (.int .i64 t343) ∧ w'.cell? ⟨gb349, 2, none⟩ = some (.int .i64 t344) ∧ w'.cell? ⟨gb349, 3, none⟩ = some (.int .i64 t345) ∧ w'.cell? ⟨gb349, 4, none⟩ = some (.int .i64 t346) ∧ w'.cell? ⟨gb349, 5, none⟩ = some (.int .i64 t347) ∧ w'.cell? ⟨gb349, 6, none⟩ = some (.int .i64 t348) ∧ w'.cell? ⟨gb359, 0, none⟩ = some (.bool t351) ∧ w'.cell? ⟨gb359, 1, none⟩ = some (.int .i64 t352) ∧ w'.cell? ⟨gb359, 2, none⟩ = some (.int .i64 t353) ∧ w'.cell? ⟨gb359, 3, none⟩ = some (.int .i64 t354) ∧ w'.cell? ⟨gb359, 4, none⟩ = some (.int .i64 t355) ∧ w'.cell? ⟨gb359, 5, none⟩ = some (.int .i64 t356) ∧ w'.cell? ⟨gb359, 6, none⟩ = some (.int .i64 t357) ∧ w'.cell? ⟨gb368, 0, none⟩ = some (.bool t360) ∧ w'.cell? ⟨gb368, 1, none⟩ = some (.int .i64 t361) ∧ w'.cell? ⟨gb368, 2, none⟩ = some (.int .i64 t362) ∧ w'.cell? ⟨gb368, 3, none⟩ = some (.int .i64 t363) ∧ w'.cell? ⟨gb368, 4, none⟩ = some (.int .i64 t364) ∧ w'.cell? ⟨gb368, 5, none⟩ = some (.int .i64 t365) ∧ w'.cell? ⟨gb368, 6, none⟩ = some (.int .i64 t366)) (ds := []) #[false, false, false, false, false, false, false, false, false, false, false, false, false, false, false, false, false, false, false, false, false, false] (by kernel_rfl) rfl rfl ⟨(blk_cell BK349.out 0).trans rfl, (blk_cell BK349.out 1).trans rfl, (blk_cell BK349.out 2).trans rfl, (blk_cell BK349.out 3).trans rfl, (blk_cell BK349.out 4).trans rfl, (blk_cell BK349.out 5).trans rfl, (blk_cell BK349.out 6).trans rfl, (blk_cell BK359.out 0).trans rfl, (blk_cell BK359.out 1).trans rfl, (blk_cell BK359.out 2).trans rfl, (blk_cell BK359.out 3).trans rfl, (blk_cell BK359.out 4).trans rfl, (blk_cell BK359.out 5).trans rfl, (blk_cell BK359.out 6).trans rfl, (blk_cell BK368.out 0).trans rfl, (blk_cell BK368.out 1).trans rfl, (blk_cell BK368.out 2).trans rfl, (blk_cell BK368.out 3).trans rfl, (blk_cell BK368.out 4).trans rfl, (blk_cell BK368.out 5).trans rfl, (blk_cell BK368.out 6).trans rfl⟩ (fun hHeld => ?_); refine with_tabW laws_FnRulText.tab7 laws_FnRulText.bits7 (fun HT_ HW_ => ?_)
                generalize w33.drew = w34 at BK349 BK359 BK368 HB hHeld ⊢
                refine take_ (i := 0) (N := some 35) (v := ?_) (a' := ?_) #[true, false, false, false, false, false, false, false, false, false, false, false, false, false, false, false, false, false, false, false, false, false] rfl rfl (take_ofW HT_.out HW_.out (by kernel_rfl)) (fun _ _ _ h => h) (Or.inl ⟨by rfl, ?_⟩) hHeld ?_ ?_
                rotate_left
                · rintro w' ⟨s0, s1, s2, s3, s4, s5, s6, s7, s8, s9, s10, s11, s12, s13, s14, s15, s16, s17, s18, s19, s20⟩
                  go_simp
                  with_reducible rfl
                rotate_left
                · simp only [Act.put, List.setIfInBounds_toArray, List.set_cons_zero, List.set_cons_succ, i64_w, i32_w]
                  rfl
                refine take_ (i := 2) (N := some 37) (v := ?_) (a' := ?_) #[true, false, true, false, false, false, false, false, false, false, false, false, false, false, false, false, false, false, false, false, false, false] rfl rfl (take_ofW HT_.out HW_.out (by kernel_rfl)) (fun _ _ _ h => h) (Or.inl ⟨by rfl, ?_⟩) hHeld ?_ ?_
                rotate_left
                · rintro w' ⟨s0, s1, s2, s3, s4, s5, s6, s7, s8, s9, s10, s11, s12, s13, s14, s15, s16, s17, s18, s19, s20⟩
                  go_simp
                  with_reducible rfl
                rotate_left
                · simp only [Act.put, List.setIfInBounds_toArray, List.set_cons_zero, List.set_cons_succ, i64_w, i32_w]
                  rfl
                refine one_ (i := 1) (N := some 36) #[true, true, true, false, false, false, false, false, false, false, false, false, false, false, false, false, false, false, false, false, false, false] rfl rfl (one_of HT_.out (by kernel_rfl)) (by decide) (fun K hK => ?_)
                refine goes_ Tryd.func8 (by kernel_rfl) rfl #[.agg #[.bool t342, .int .i64 t343, .int .i64 t344, .int .i64 t345, .int .i64 t346, .int .i64 t347, .int .i64 t348]] (by rfl) rfl rfl (by (try simp only [List.map_toArray, List.map_cons, List.map_nil]); first | done | rfl | (simp only [List.length_drop, List.length_take]; rfl)) ?_
                with_reducible refine (impl_RulText.calls t342 t343 t344 t345 t346 t347 t348 t369 _ A24.out (EnvT.below hE.t (bl HB))).mono ?_
                rintro e w35 ⟨rfl, hb⟩
                refine ⟨_, rfl, ?_⟩
                have n0_ := bkB BK349 hb
                have n1_ := bkB BK359 hb
                have n2_ := bkB BK368 hb
                have n3_ := Aside0.mk (below_step (bl HB) hb)
                clear BK349
                clear BK359
                clear BK368
                clear HB
                have BK349 := n0_
                have BK359 := n1_
                have BK368 := n2_
                have HB := n3_
                clear n0_ n1_ n2_ n3_
                (try clear hb)
                (try clear hb2)
                (try clear hk)
                (try clear hi)
                refine hK.out _ _ ⟨(blk_cell BK349.out 0).trans rfl, (blk_cell BK349.out 1).trans rfl, (blk_cell BK349.out 2).trans rfl, (blk_cell BK349.out 3).trans rfl, (blk_cell BK349.out 4).trans rfl, (blk_cell BK349.out 5).trans rfl, (blk_cell BK349.out 6).trans rfl, (blk_cell BK359.out 0).trans rfl, (blk_cell BK359.out 1).trans rfl, (blk_cell BK359.out 2).trans rfl, (blk_cell BK359.out 3).trans rfl, (blk_cell BK359.out 4).trans rfl, (blk_cell BK359.out 5).trans rfl, (blk_cell BK359.out 6).trans rfl, (blk_cell BK368.out 0).trans rfl, (blk_cell BK368.out 1).trans rfl, (blk_cell BK368.out 2).trans rfl, (blk_cell BK368.out 3).trans rfl, (blk_cell BK368.out 4).trans rfl, (blk_cell BK368.out 5).trans rfl, (blk_cell BK368.out 6).trans rfl⟩ (fun hHeld => ?_)
                clear hK K
                refine norm_ (a' := ?_) ?_ ?_
                rotate_left
                · show Act.put _ (some 36) _ = _
                  simp only [Act.put, List.setIfInBounds_toArray, List.set_cons_zero, List.set_cons_succ, i64_w, i32_w]
                  rfl
                refine one_ (i := 3) (N := some 38) #[true, true, true, true, false, false, false, false, false, false, false, false, false, false, false, false, false, false, false, false, false, false] rfl rfl (one_of HT_.out (by kernel_rfl)) (by decide) (fun K hK => ?_)
                refine goes_ Tryd.func6 (by kernel_rfl) rfl #[.agg #[.bool t342, .int .i64 t343, .int .i64 t344, .int .i64 t345, .int .i64 t346, .int .i64 t347, .int .i64 t348]] (by rfl) rfl rfl (by (try simp only [List.map_toArray, List.map_cons, List.map_nil]); first | done | rfl | (simp only [List.length_drop, List.length_take]; rfl)) ?_
                with_reducible refine (spec_RulText.calls kj2 t342 t343 t344 t345 t346 t347 t348 t370 _ A25.out).mono ?_
                rintro e w36 ⟨rfl, hb⟩
                refine ⟨_, rfl, ?_⟩
                have n0_ := bkB BK349 hb
                have n1_ := bkB BK359 hb
                have n2_ := bkB BK368 hb
                have n3_ := Aside0.mk (below_step (bl HB) hb)
                clear BK349
                clear BK359
                clear BK368
                clear HB
                have BK349 := n0_
                have BK359 := n1_
                have BK368 := n2_
                have HB := n3_
                clear n0_ n1_ n2_ n3_
                (try clear hb)
                (try clear hb2)
                (try clear hk)
                (try clear hi)
                refine hK.out _ _ ⟨(blk_cell BK349.out 0).trans rfl, (blk_cell BK349.out 1).trans rfl, (blk_cell BK349.out 2).trans rfl, (blk_cell BK349.out 3).trans rfl, (blk_cell BK349.out 4).trans rfl, (blk_cell BK349.out 5).trans rfl, (blk_cell BK349.out 6).trans rfl, (blk_cell BK359.out 0).trans rfl, (blk_cell BK359.out 1).trans rfl, (blk_cell BK359.out 2).trans rfl, (blk_cell BK359.out 3).trans rfl, (blk_cell BK359.out 4).trans rfl, (blk_cell BK359.out 5).trans rfl, (blk_cell BK359.out 6).trans rfl, (blk_cell BK368.out 0).trans rfl, (blk_cell BK368.out 1).trans rfl, (blk_cell BK368.out 2).trans rfl, (blk_cell BK368.out 3).trans rfl, (blk_cell BK368.out 4).trans rfl, (blk_cell BK368.out 5).trans rfl, (blk_cell BK368.out 6).trans rfl⟩ (fun hHeld => ?_)
                clear hK K
                refine norm_ (a' := ?_) ?_ ?_
                rotate_left
                · show Act.put _ (some 38) _ = _
                  simp only [Act.put, List.setIfInBounds_toArray, List.set_cons_zero, List.set_cons_succ, i64_w, i32_w]
                  rfl
                refine pure_ (i := 4) (N := some 39) (v := ?_) (a' := ?_) #[true, true, true, true, true, false, false, false, false, false, false, false, false, false, false, false, false, false, false, false, false, false] rfl rfl (any_of HT_.out (by kernel_rfl)) (fun _ _ _ h => h) (Or.inl ⟨by rfl, ?_⟩) ?_ ?_
                rotate_left
                · intro w'
                  go_simp
                  with_reducible rfl
                rotate_left
                · simp only [Act.put, List.setIfInBounds_toArray, List.set_cons_zero, List.set_cons_succ, i64_w, i32_w]
                  rfl
                refine pure_ (i := 5) (N := some 40) (v := ?_) (a' := ?_) #[true, true, true, true, true, true, false, false, false, false, false, false, false, false, false, false, false, false, false, false, false, false] rfl rfl (any_of HT_.out (by kernel_rfl)) (fun _ _ _ h => h) (Or.inl ⟨by rfl, ?_⟩) ?_ ?_
                rotate_left
                · intro w'
                  go_simp
                  with_reducible rfl
                rotate_left
                · simp only [Act.put, List.setIfInBounds_toArray, List.set_cons_zero, List.set_cons_succ, i64_w, i32_w]
                  rfl
                refine take_ (i := 6) (N := some 41) (v := ?_) (a' := ?_) #[true, true, true, true, true, true, true, false, false, false, false, false, false, false, false, false, false, false, false, false, false, false] rfl rfl (take_ofW HT_.out HW_.out (by kernel_rfl)) (fun _ _ _ h => h) (Or.inl ⟨by rfl, ?_⟩) hHeld ?_ ?_
                rotate_left
                · rintro w' ⟨s0, s1, s2, s3, s4, s5, s6, s7, s8, s9, s10, s11, s12, s13, s14, s15, s16, s17, s18, s19, s20⟩
                  go_simp
                  with_reducible rfl
                rotate_left
                · simp only [Act.put, List.setIfInBounds_toArray, List.set_cons_zero, List.set_cons_succ, i64_w, i32_w]
                  rfl
                refine take_ (i := 7) (N := some 42) (v := ?_) (a' := ?_) #[true, true, true, true, true, true, true, true, false, false, false, false, false, false, false, false, false, false, false, false, false, false] rfl rfl (take_ofW HT_.out HW_.out (by kernel_rfl)) (fun _ _ _ h => h) (Or.inl ⟨by rfl, ?_⟩) hHeld ?_ ?_
                rotate_left
                · rintro w' ⟨s0, s1, s2, s3, s4, s5, s6, s7, s8, s9, s10, s11, s12, s13, s14, s15, s16, s17, s18, s19, s20⟩
                  go_simp
                  with_reducible rfl
                rotate_left
                · simp only [Act.put, List.setIfInBounds_toArray, List.set_cons_zero, List.set_cons_succ, i64_w, i32_w]
                  rfl
                refine pure_ (i := 8) (N := some 43) (v := ?_) (a' := ?_) #[true, true, true, true, true, true, true, true, true, false, false, false, false, false, false, false, false, false, false, false, false, false] rfl rfl (any_of HT_.out (by kernel_rfl)) (fun _ _ _ h => h) (Or.inl ⟨by rfl, ?_⟩) ?_ ?_
                rotate_left
                · intro w'
                  go_simp
                  with_reducible rfl
                rotate_left
                · simp only [Act.put, List.setIfInBounds_toArray, List.set_cons_zero, List.set_cons_succ, i64_w, i32_w]
                  rfl
                refine pure_ (i := 9) (N := some 44) (v := ?_) (a' := ?_) #[true, true, true, true, true, true, true, true, true, true, false, false, false, false, false, false, false, false, false, false, false, false] rfl rfl (any_of HT_.out (by kernel_rfl)) (fun _ _ _ h => h) (Or.inl ⟨by rfl, ?_⟩) ?_ ?_
                rotate_left
                · intro w'
                  go_simp
                  with_reducible rfl
                rotate_left
                · simp only [Act.put, List.setIfInBounds_toArray, List.set_cons_zero, List.set_cons_succ, i64_w, i32_w]
                  rfl
                refine pure_ (i := 10) (N := some 45) (v := ?_) (a' := ?_) #[true, true, true, true, true, true, true, true, true, true, true, false, false, false, false, false, false, false, false, false, false, false] rfl rfl (any_of HT_.out (by kernel_rfl)) (fun _ _ _ h => h) (Or.inl ⟨by rfl, ?_⟩) ?_ ?_
                rotate_left
                · intro w'
                  go_simp
                  with_reducible rfl
                rotate_left
                · simp only [Act.put, List.setIfInBounds_toArray, List.set_cons_zero, List.set_cons_succ, i64_w, i32_w]
                  rfl
                refine pure_ (i := 11) (N := some 46) (v := ?_) (a' := ?_) #[true, true, true, true, true, true, true, true, true, true, true, true, false, false, false, false, false, false, false, false, false, false] rfl rfl (any_of HT_.out (by kernel_rfl)) (fun _ _ _ h => h) (Or.inl ⟨by rfl, ?_⟩) ?_ ?_
                rotate_left
                · intro w'
                  go_simp
                  with_reducible rfl
                rotate_left
                · simp only [Act.put, List.setIfInBounds_toArray, List.set_cons_zero, List.set_cons_succ, i64_w, i32_w]
                  rfl
                refine pure_ (i := 12) (N := some 47) (v := ?_) (a' := ?_) #[true, true, true, true, true, true, true, true, true, true, true, true, true, false, false, false, false, false, false, false, false, false] rfl rfl (any_of HT_.out (by kernel_rfl)) (fun _ _ _ h => h) (Or.inl ⟨by rfl, ?_⟩) ?_ ?_
                rotate_left
                · intro w'
                  go_simp
                  with_reducible rfl
                rotate_left
                · simp only [Act.put, List.setIfInBounds_toArray, List.set_cons_zero, List.set_cons_succ, i64_w, i32_w]
                  rfl
                refine pure_ (i := 13) (N := some 48) (v := ?_) (a' := ?_) #[true, true, true, true, true, true, true, true, true, true, true, true, true, true, false, false, false, false, false, false, false, false] rfl rfl (any_of HT_.out (by kernel_rfl)) (fun _ _ _ h => h) (Or.inl ⟨by rfl, ?_⟩) ?_ ?_
                rotate_left
                · intro w'
                  go_simp
                  with_reducible rfl
                rotate_left
                · simp only [Act.put, List.setIfInBounds_toArray, List.set_cons_zero, List.set_cons_succ, i64_w, i32_w]
                  rfl
                refine pure_ (i := 14) (N := some 49) (v := ?_) (a' := ?_) #[true, true, true, true, true, true, true, true, true, true, true, true, true, true, true, false, false, false, false, false, false, false] rfl rfl (any_of HT_.out (by kernel_rfl)) (fun _ _ _ h => h) (Or.inl ⟨by rfl, ?_⟩) ?_ ?_
                rotate_left
                · intro w'
                  go_simp
                  with_reducible rfl
                rotate_left
                · simp only [Act.put, List.setIfInBounds_toArray, List.set_cons_zero, List.set_cons_succ, i64_w, i32_w]
                  rfl
                refine pure_ (i := 15) (N := some 50) (v := ?_) (a' := ?_) #[true, true, true, true, true, true, true, true, true, true, true, true, true, true, true, true, false, false, false, false, false, false] rfl rfl (any_of HT_.out (by kernel_rfl)) (fun _ _ _ h => h) (Or.inl ⟨by rfl, ?_⟩) ?_ ?_
                rotate_left
                · intro w'
                  go_simp
                  with_reducible rfl
                rotate_left
                · simp only [Act.put, List.setIfInBounds_toArray, List.set_cons_zero, List.set_cons_succ, i64_w, i32_w]
                  rfl
                refine pure_ (i := 16) (N := some 51) (v := undef) (a' := ?_) #[true, true, true, true, true, true, true, true, true, true, true, true, true, true, true, true, true, false, false, false, false, false] rfl rfl (any_of HT_.out (by kernel_rfl)) (fun _ _ _ h => h) (Or.inr ⟨by rfl, rfl⟩) ?_ ?_
                rotate_left
                · simp only [Act.put, List.setIfInBounds_toArray, List.set_cons_zero, List.set_cons_succ, i64_w, i32_w]
                  rfl
                refine pure_ (i := 17) (N := some 52) (v := undef) (a' := ?_) #[true, true, true, true, true, true, true, true, true, true, true, true, true, true, true, true, true, true, false, false, false, false] rfl rfl (any_of HT_.out (by kernel_rfl)) (fun _ _ _ h => h) (Or.inr ⟨by rfl, rfl⟩) ?_ ?_
                rotate_left
                · simp only [Act.put, List.setIfInBounds_toArray, List.set_cons_zero, List.set_cons_succ, i64_w, i32_w]
                  rfl
                refine pure_ (i := 18) (N := some 53) (v := undef) (a' := ?_) #[true, true, true, true, true, true, true, true, true, true, true, true, true, true, true, true, true, true, true, false, false, false] rfl rfl (any_of HT_.out (by kernel_rfl)) (fun _ _ _ h => h) (Or.inr ⟨by rfl, rfl⟩) ?_ ?_
                rotate_left
                · simp only [Act.put, List.setIfInBounds_toArray, List.set_cons_zero, List.set_cons_succ, i64_w, i32_w]
                  rfl
                refine pure_ (i := 19) (N := some 54) (v := undef) (a' := ?_) #[true, true, true, true, true, true, true, true, true, true, true, true, true, true, true, true, true, true, true, true, false, false] rfl rfl (any_of HT_.out (by kernel_rfl)) (fun _ _ _ h => h) (Or.inr ⟨by rfl, rfl⟩) ?_ ?_
                rotate_left
                · simp only [Act.put, List.setIfInBounds_toArray, List.set_cons_zero, List.set_cons_succ, i64_w, i32_w]
                  rfl
                refine pure_ (i := 20) (N := some 55) (v := undef) (a' := ?_) #[true, true, true, true, true, true, true, true, true, true, true, true, true, true, true, true, true, true, true, true, true, false] rfl rfl (any_of HT_.out (by kernel_rfl)) (fun _ _ _ h => h) (Or.inr ⟨by rfl, rfl⟩) ?_ ?_
                rotate_left
                · simp only [Act.put, List.setIfInBounds_toArray, List.set_cons_zero, List.set_cons_succ, i64_w, i32_w]
                  rfl
                refine pure_ (i := 21) (N := some 56) (v := ?_) (a' := ?_) #[true, true, true, true, true, true, true, true, true, true, true, true, true, true, true, true, true, true, true, true, true, true] rfl rfl (any_of HT_.out (by kernel_rfl)) (fun _ _ _ h => h) (Or.inl ⟨by rfl, ?_⟩) ?_ ?_
                rotate_left
                · intro w'
                  go_simp
                  with_reducible rfl
                rotate_left
                · simp only [Act.put, List.setIfInBounds_toArray, List.set_cons_zero, List.set_cons_succ, i64_w, i32_w]
                  rfl
                refine done_ (done_of HT_.out (by kernel_rfl)) ?_
                try go_wp2
                go_meet
                case rel => exact ⟨_, (true), (by first | rfl | (simp; done) | (simp [*]; done)), H', ⟨by have := HJ2.out; first | omega | exact Nat.le_refl _⟩, ⟨by (with_reducible repeat refine bu ?_); exact BK349.out⟩, ⟨by (with_reducible repeat refine bu ?_); exact BK359.out⟩, ⟨by (with_reducible repeat refine bu ?_); exact BK368.out⟩, ⟨by repeat (first | (with_reducible first | exact HB.out | apply below_alloc | apply pw_below_drewN | apply below_drew1 | refine below_set ?_ GE349.out | refine below_set ?_ GE359.out | refine below_set ?_ GE368.out) | exact HB.out)⟩⟩
              · rw [if_neg c32] at H
                have c32b0 : (t358 != t367) = false := by simpa using c32
                (try (have c32b1 : decide (t358 = t367) = true := by simpa using c32))
                (try (have c32b2 : (t358 == t367) = true := by simpa using c32))
                clear c32
                replace H := Option.bind_eq_some_iff.mp H
                obtain ⟨t371, A370, H⟩ := H
                replace H : ((spec_RulOk.f t342 t343 t344 t345 t346 t347 t348).bind fun t372 => (laws_FnRulText.j1 kj2 t350 t358 (t371 != t372) t342 t343 t344 t345 t346 t347 t348 t351 t352 t353 t354 t355 t356 t357)) = some r := H
                have A37 := Aside0.mk A370
                clear A370
                replace H := Option.bind_eq_some_iff.mp H
                obtain ⟨t372, A380, H⟩ := H
                replace H : (laws_FnRulText.j1 kj2 t350 t358 (t371 != t372) t342 t343 t344 t345 t346 t347 t348 t351 t352 t353 t354 t355 t356 t357) = some r := H
                have A38 := Aside0.mk A380
                clear A380
                have H' := Aside0.mk H
                clear H
                try go_wp2
                have n0_ : Aside0 ((((((((w20.setCell ⟨gb368, 0, none⟩ (.bool t360)).setCell ⟨gb368, 1, none⟩ (.int .i64 t361)).setCell ⟨gb368, 2, none⟩ (.int .i64 t362)).setCell ⟨gb368, 3, none⟩ (.int .i64 t363)).setCell ⟨gb368, 4, none⟩ (.int .i64 t364)).setCell ⟨gb368, 5, none⟩ (.int .i64 t365)).setCell ⟨gb368, 6, none⟩ (.int .i64 t366)).heap[gb349]? = some (.cells #[.bool t342, .int .i64 t343, .int .i64 t344, .int .i64 t345, .int .i64 t346, .int .i64 t347, .int .i64 t348] 25 (0, 0))) := ⟨by (with_reducible repeat refine bu ?_); refine blk_far ?_ NB349_368.out _; (with_reducible repeat refine bu ?_); refine blk_far ?_ NB349_368.out _; (with_reducible repeat refine bu ?_); refine blk_far ?_ NB349_368.out _; (with_reducible repeat refine bu ?_); refine blk_far ?_ NB349_368.out _; (with_reducible repeat refine bu ?_); refine blk_far ?_ NB349_368.out _; (with_reducible repeat refine bu ?_); refine blk_far ?_ NB349_368.out _; (with_reducible repeat refine bu ?_); refine blk_far ?_ NB349_368.out _; (with_reducible repeat refine bu ?_); exact BK349.out⟩
                have n1_ : Aside0 ((((((((w20.setCell ⟨gb368, 0, none⟩ (.bool t360)).setCell ⟨gb368, 1, none⟩ (.int .i64 t361)).setCell ⟨gb368, 2, none⟩ (.int .i64 t362)).setCell ⟨gb368, 3, none⟩ (.int .i64 t363)).setCell ⟨gb368, 4, none⟩ (.int .i64 t364)).setCell ⟨gb368, 5, none⟩ (.int .i64 t365)).setCell ⟨gb368, 6, none⟩ (.int .i64 t366)).heap[gb359]? = some (.cells #[.bool t351, .int .i64 t352, .int .i64 t353, .int .i64 t354, .int .i64 t355, .int .i64 t356, .int .i64 t357] 25 (0, 0))) := ⟨by (with_reducible repeat refine bu ?_); refine blk_far ?_ NB359_368.out _; (with_reducible repeat refine bu ?_); refine blk_far ?_ NB359_368.out _; (with_reducible repeat refine bu ?_); refine blk_far ?_ NB359_368.out _; (with_reducible repeat refine bu ?_); refine blk_far ?_ NB359_368.out _; (with_reducible repeat refine bu ?_); refine blk_far ?_ NB359_368.out _; (with_reducible repeat refine bu ?_); refine blk_far ?_ NB359_368.out _; (with_reducible repeat refine bu ?_); refine blk_far ?_ NB359_368.out _; (with_reducible repeat refine bu ?_); exact BK359.out⟩
                have n2_ : Aside0 ((((((((w20.setCell ⟨gb368, 0, none⟩ (.bool t360)).setCell ⟨gb368, 1, none⟩ (.int .i64 t361)).setCell ⟨gb368, 2, none⟩ (.int .i64 t362)).setCell ⟨gb368, 3, none⟩ (.int .i64 t363)).setCell ⟨gb368, 4, none⟩ (.int .i64 t364)).setCell ⟨gb368, 5, none⟩ (.int .i64 t365)).setCell ⟨gb368, 6, none⟩ (.int .i64 t366)).heap[gb368]? = some (.cells #[.bool t360, .int .i64 t361, .int .i64 t362, .int .i64 t363, .int .i64 t364, .int .i64 t365, .int .i64 t366] 25 (0, 0))) := ⟨by (with_reducible repeat refine bu ?_); refine blk_put (cs := #[.bool t360, .int .i64 t361, .int .i64 t362, .int .i64 t363, .int .i64 t364, .int .i64 t365, .int .i64 0]) ?_ 6 _ rfl; (with_reducible repeat refine bu ?_); refine blk_put (cs := #[.bool t360, .int .i64 t361, .int .i64 t362, .int .i64 t363, .int .i64 t364, .int .i64 0, .int .i64 0]) ?_ 5 _ rfl; (with_reducible repeat refine bu ?_); refine blk_put (cs := #[.bool t360, .int .i64 t361, .int .i64 t362, .int .i64 t363, .int .i64 0, .int .i64 0, .int .i64 0]) ?_ 4 _ rfl; (with_reducible repeat refine bu ?_); refine blk_put (cs := #[.bool t360, .int .i64 t361, .int .i64 t362, .int .i64 0, .int .i64 0, .int .i64 0, .int .i64 0]) ?_ 3 _ rfl; (with_reducible repeat refine bu ?_); refine blk_put (cs := #[.bool t360, .int .i64 t361, .int .i64 0, .int .i64 0, .int .i64 0, .int .i64 0, .int .i64 0]) ?_ 2 _ rfl; (with_reducible repeat refine bu ?_); refine blk_put (cs := #[.bool t360, .int .i64 0, .int .i64 0, .int .i64 0, .int .i64 0, .int .i64 0, .int .i64 0]) ?_ 1 _ rfl; (with_reducible repeat refine bu ?_); refine blk_put (cs := #[.bool false, .int .i64 0, .int .i64 0, .int .i64 0, .int .i64 0, .int .i64 0, .int .i64 0]) ?_ 0 _ rfl; (with_reducible repeat refine bu ?_); exact BK368.out⟩
                have n3_ : Aside0 (Below w.heap.size w (((((((w20.setCell ⟨gb368, 0, none⟩ (.bool t360)).setCell ⟨gb368, 1, none⟩ (.int .i64 t361)).setCell ⟨gb368, 2, none⟩ (.int .i64 t362)).setCell ⟨gb368, 3, none⟩ (.int .i64 t363)).setCell ⟨gb368, 4, none⟩ (.int .i64 t364)).setCell ⟨gb368, 5, none⟩ (.int .i64 t365)).setCell ⟨gb368, 6, none⟩ (.int .i64 t366))) := ⟨by repeat (first | (with_reducible first | exact HB.out | apply below_alloc | apply pw_below_drewN | apply below_drew1 | refine below_set ?_ GE349.out | refine below_set ?_ GE359.out | refine below_set ?_ GE368.out) | exact HB.out)⟩
                (try clear BK349)
                (try clear BK359)
                (try clear BK368)
                (try clear HB)
                generalize (((((((w20.setCell ⟨gb368, 0, none⟩ (.bool t360)).setCell ⟨gb368, 1, none⟩ (.int .i64 t361)).setCell ⟨gb368, 2, none⟩ (.int .i64 t362)).setCell ⟨gb368, 3, none⟩ (.int .i64 t363)).setCell ⟨gb368, 4, none⟩ (.int .i64 t364)).setCell ⟨gb368, 5, none⟩ (.int .i64 t365)).setCell ⟨gb368, 6, none⟩ (.int .i64 t366)) = w39 at n0_ n1_ n2_ n3_ ⊢
                have BK349 := n0_
                have BK359 := n1_
                have BK368 := n2_
                have HB := n3_
                clear n0_ n1_ n2_ n3_
                have n0_ := Aside0.mk (blk_drew BK349.out)
                have n1_ := Aside0.mk (blk_drew BK359.out)
                have n2_ := Aside0.mk (blk_drew BK368.out)
                have n3_ := Aside0.mk (below_drew1 HB.out)
                clear BK349
                clear BK359
                clear BK368
                clear HB
                have BK349 := n0_
                have BK359 := n1_
                have BK368 := n2_
                have HB := n3_
                clear n0_ n1_ n2_ n3_
                refine start_ (n := 22) (S := fun w' => w'.cell? ⟨gb349, 0, none⟩ = some (.bool t342) ∧ w'.cell? ⟨gb349, 1, none⟩ = some (.int .i64 t343) ∧ w'.cell? ⟨gb349, 2, none⟩ = some (.int .i64 t344) ∧ w'.cell? ⟨gb349, 3, none⟩ = some (.int .i64 t345) ∧ w'.cell? ⟨gb349, 4, none⟩ = some (.int .i64 t346) ∧ w'.cell? ⟨gb349, 5, none⟩ = some (.int .i64 t347) ∧ w'.cell? ⟨gb349, 6, none⟩ = some (.int .i64 t348) ∧ w'.cell? ⟨gb359, 0, none⟩ = some (.bool t351) ∧ w'.cell? ⟨gb359, 1, none⟩ = some (.int .i64 t352) ∧ w'.cell? ⟨gb359, 2, none⟩ = some (.int .i64 t353) ∧ w'.cell? ⟨gb359, 3, none⟩ = some (.int .i64 t354) ∧ w'.cell? ⟨gb359, 4, none⟩ = some (.int .i64 t355) ∧ w'.cell? ⟨gb359, 5, none⟩ = some (.int .i64 t356) ∧ w'.cell? ⟨gb359, 6, none⟩ = some (.int .i64 t357) ∧ w'.cell? ⟨gb368, 0, none⟩ = some (.bool t360) ∧ w'.cell? ⟨gb368, 1, none⟩ = some (.int .i64 t361) ∧ w'.cell? ⟨gb368, 2, none⟩ = some (.int .i64 t362) ∧ w'.cell? ⟨gb368, 3, none⟩ = some (.int .i64 t363) ∧ w'.cell? ⟨gb368, 4, none⟩ = some (.int .i64 t364) ∧ w'.cell? ⟨gb368, 5, none⟩ = some (.int .i64 t365) ∧ w'.cell? ⟨gb368, 6, none⟩ = some (.int .i64 t366)) (ds := []) #[false, false, false, false, false, false, false, false, false, false, false, false, false, false, false, false, false, false, false, false, false, false] (by kernel_rfl) rfl rfl ⟨(blk_cell BK349.out 0).trans rfl, (blk_cell BK349.out 1).trans rfl, (blk_cell BK349.out 2).trans rfl, (blk_cell BK349.out 3).trans rfl, (blk_cell BK349.out 4).trans rfl, (blk_cell BK349.out 5).trans rfl, (blk_cell BK349.out 6).trans rfl, (blk_cell BK359.out 0).trans rfl, (blk_cell BK359.out 1).trans rfl, (blk_cell BK359.out 2).trans rfl, (blk_cell BK359.out 3).trans rfl, (blk_cell BK359.out 4).trans rfl, (blk_cell BK359.out 5).trans rfl, (blk_cell BK359.out 6).trans rfl, (blk_cell BK368.out 0).trans rfl, (blk_cell BK368.out 1).trans rfl, (blk_cell BK368.out 2).trans rfl, (blk_cell BK368.out 3).trans rfl, (blk_cell BK368.out 4).trans rfl, (blk_cell BK368.out 5).trans rfl, (blk_cell BK368.out 6).trans rfl⟩ (fun hHeld => ?_); refine with_tabW laws_FnRulText.tab7 laws_FnRulText.bits7 (fun HT_ HW_ => ?_)
                generalize w39.drew = w40 at BK349 BK359 BK368 HB hHeld ⊢
                refine take_ (i := 0) (N := some 35) (v := ?_) (a' := ?_) #[true, false, false, false, false, false, false, false, false, false, false, false, false, false, false, false, false, false, false, false, false, false] rfl rfl (take_ofW HT_.out HW_.out (by kernel_rfl)) (fun _ _ _ h => h) (Or.inl ⟨by rfl, ?_⟩) hHeld ?_ ?_
                rotate_left
                · rintro w' ⟨s0, s1, s2, s3, s4, s5, s6, s7, s8, s9, s10, s11, s12, s13, s14, s15, s16, s17, s18, s19, s20⟩
                  go_simp
                  with_reducible rfl
                rotate_left
                · simp only [Act.put, List.setIfInBounds_toArray, List.set_cons_zero, List.set_cons_succ, i64_w, i32_w]
                  rfl
                refine take_ (i := 2) (N := some 37) (v := ?_) (a' := ?_) #[true, false, true, false, false, false, false, false, false, false, false, false, false, false, false, false, false, false, false, false, false, false] rfl rfl (take_ofW HT_.out HW_.out (by kernel_rfl)) (fun _ _ _ h => h) (Or.inl ⟨by rfl, ?_⟩) hHeld ?_ ?_
                rotate_left
                · rintro w' ⟨s0, s1, s2, s3, s4, s5, s6, s7, s8, s9, s10, s11, s12, s13, s14, s15, s16, s17, s18, s19, s20⟩
                  go_simp
                  with_reducible rfl
                rotate_left
                · simp only [Act.put, List.setIfInBounds_toArray, List.set_cons_zero, List.set_cons_succ, i64_w, i32_w]
                  rfl
                refine one_ (i := 1) (N := some 36) #[true, true, true, false, false, false, false, false, false, false, false, false, false, false, false, false, false, false, false, false, false, false] rfl rfl (one_of HT_.out (by kernel_rfl)) (by decide) (fun K hK => ?_)
                refine goes_ Tryd.func8 (by kernel_rfl) rfl #[.agg #[.bool t342, .int .i64 t343, .int .i64 t344, .int .i64 t345, .int .i64 t346, .int .i64 t347, .int .i64 t348]] (by rfl) rfl rfl (by (try simp only [List.map_toArray, List.map_cons, List.map_nil]); first | done | rfl | (simp only [List.length_drop, List.length_take]; rfl)) ?_
                with_reducible refine (impl_RulText.calls t342 t343 t344 t345 t346 t347 t348 t369 _ A24.out (EnvT.below hE.t (bl HB))).mono ?_
                rintro e w41 ⟨rfl, hb⟩
                refine ⟨_, rfl, ?_⟩
                have n0_ := bkB BK349 hb
                have n1_ := bkB BK359 hb
                have n2_ := bkB BK368 hb
                have n3_ := Aside0.mk (below_step (bl HB) hb)
                clear BK349
                clear BK359
                clear BK368
                clear HB
                have BK349 := n0_
                have BK359 := n1_
                have BK368 := n2_
                have HB := n3_
                clear n0_ n1_ n2_ n3_
                (try clear hb)
                (try clear hb2)
                (try clear hk)
                (try clear hi)
                refine hK.out _ _ ⟨(blk_cell BK349.out 0).trans rfl, (blk_cell BK349.out 1).trans rfl, (blk_cell BK349.out 2).trans rfl, (blk_cell BK349.out 3).trans rfl, (blk_cell BK349.out 4).trans rfl, (blk_cell BK349.out 5).trans rfl, (blk_cell BK349.out 6).trans rfl, (blk_cell BK359.out 0).trans rfl, (blk_cell BK359.out 1).trans rfl, (blk_cell BK359.out 2).trans rfl, (blk_cell BK359.out 3).trans rfl, (blk_cell BK359.out 4).trans rfl, (blk_cell BK359.out 5).trans rfl, (blk_cell BK359.out 6).trans rfl, (blk_cell BK368.out 0).trans rfl, (blk_cell BK368.out 1).trans rfl, (blk_cell BK368.out 2).trans rfl, (blk_cell BK368.out 3).trans rfl, (blk_cell BK368.out 4).trans rfl, (blk_cell BK368.out 5).trans rfl, (blk_cell BK368.out 6).trans rfl⟩ (fun hHeld => ?_)
                clear hK K
                refine norm_ (a' := ?_) ?_ ?_
                rotate_left
                · show Act.put _ (some 36) _ = _
                  simp only [Act.put, List.setIfInBounds_toArray, List.set_cons_zero, List.set_cons_succ, i64_w, i32_w]
                  rfl
                refine one_ (i := 3) (N := some 38) #[true, true, true, true, false, false, false, false, false, false, false, false, false, false, false, false, false, false, false, false, false, false] rfl rfl (one_of HT_.out (by kernel_rfl)) (by decide) (fun K hK => ?_)
                refine goes_ Tryd.func6 (by kernel_rfl) rfl #[.agg #[.bool t342, .int .i64 t343, .int .i64 t344, .int .i64 t345, .int .i64 t346, .int .i64 t347, .int .i64 t348]] (by rfl) rfl rfl (by (try simp only [List.map_toArray, List.map_cons, List.map_nil]); first | done | rfl | (simp only [List.length_drop, List.length_take]; rfl)) ?_
                with_reducible refine (spec_RulText.calls kj2 t342 t343 t344 t345 t346 t347 t348 t370 _ A25.out).mono ?_
                rintro e w42 ⟨rfl, hb⟩
                refine ⟨_, rfl, ?_⟩
                have n0_ := bkB BK349 hb
                have n1_ := bkB BK359 hb
                have n2_ := bkB BK368 hb
                have n3_ := Aside0.mk (below_step (bl HB) hb)
                clear BK349
                clear BK359
                clear BK368
                clear HB
                have BK349 := n0_
                have BK359 := n1_
                have BK368 := n2_
                have HB := n3_
                clear n0_ n1_ n2_ n3_
                (try clear hb)
                (try clear hb2)
                (try clear hk)
                (try clear hi)
                refine hK.out _ _ ⟨(blk_cell BK349.out 0).trans rfl, (blk_cell BK349.out 1).trans rfl, (blk_cell BK349.out 2).trans rfl, (blk_cell BK349.out 3).trans rfl, (blk_cell BK349.out 4).trans rfl, (blk_cell BK349.out 5).trans rfl, (blk_cell BK349.out 6).trans rfl, (blk_cell BK359.out 0).trans rfl, (blk_cell BK359.out 1).trans rfl, (blk_cell BK359.out 2).trans rfl, (blk_cell BK359.out 3).trans rfl, (blk_cell BK359.out 4).trans rfl, (blk_cell BK359.out 5).trans rfl, (blk_cell BK359.out 6).trans rfl, (blk_cell BK368.out 0).trans rfl, (blk_cell BK368.out 1).trans rfl, (blk_cell BK368.out 2).trans rfl, (blk_cell BK368.out 3).trans rfl, (blk_cell BK368.out 4).trans rfl, (blk_cell BK368.out 5).trans rfl, (blk_cell BK368.out 6).trans rfl⟩ (fun hHeld => ?_)
                clear hK K
                refine norm_ (a' := ?_) ?_ ?_
                rotate_left
                · show Act.put _ (some 38) _ = _
                  simp only [Act.put, List.setIfInBounds_toArray, List.set_cons_zero, List.set_cons_succ, i64_w, i32_w]
                  rfl
                refine pure_ (i := 4) (N := some 39) (v := ?_) (a' := ?_) #[true, true, true, true, true, false, false, false, false, false, false, false, false, false, false, false, false, false, false, false, false, false] rfl rfl (any_of HT_.out (by kernel_rfl)) (fun _ _ _ h => h) (Or.inl ⟨by rfl, ?_⟩) ?_ ?_
                rotate_left
                · intro w'
                  go_simp
                  with_reducible rfl
                rotate_left
                · simp only [Act.put, List.setIfInBounds_toArray, List.set_cons_zero, List.set_cons_succ, i64_w, i32_w]
                  rfl
                refine pure_ (i := 5) (N := some 40) (v := ?_) (a' := ?_) #[true, true, true, true, true, true, false, false, false, false, false, false, false, false, false, false, false, false, false, false, false, false] rfl rfl (any_of HT_.out (by kernel_rfl)) (fun _ _ _ h => h) (Or.inl ⟨by rfl, ?_⟩) ?_ ?_
                rotate_left
                · intro w'
                  go_simp
                  with_reducible rfl
                rotate_left
                · simp only [Act.put, List.setIfInBounds_toArray, List.set_cons_zero, List.set_cons_succ, i64_w, i32_w]
                  rfl
                refine take_ (i := 6) (N := some 41) (v := ?_) (a' := ?_) #[true, true, true, true, true, true, true, false, false, false, false, false, false, false, false, false, false, false, false, false, false, false] rfl rfl (take_ofW HT_.out HW_.out (by kernel_rfl)) (fun _ _ _ h => h) (Or.inl ⟨by rfl, ?_⟩) hHeld ?_ ?_
                rotate_left
                · rintro w' ⟨s0, s1, s2, s3, s4, s5, s6, s7, s8, s9, s10, s11, s12, s13, s14, s15, s16, s17, s18, s19, s20⟩
                  go_simp
                  with_reducible rfl
                rotate_left
                · simp only [Act.put, List.setIfInBounds_toArray, List.set_cons_zero, List.set_cons_succ, i64_w, i32_w]
                  rfl
                refine take_ (i := 7) (N := some 42) (v := ?_) (a' := ?_) #[true, true, true, true, true, true, true, true, false, false, false, false, false, false, false, false, false, false, false, false, false, false] rfl rfl (take_ofW HT_.out HW_.out (by kernel_rfl)) (fun _ _ _ h => h) (Or.inl ⟨by rfl, ?_⟩) hHeld ?_ ?_
                rotate_left
                · rintro w' ⟨s0, s1, s2, s3, s4, s5, s6, s7, s8, s9, s10, s11, s12, s13, s14, s15, s16, s17, s18, s19, s20⟩
                  go_simp
                  with_reducible rfl
                rotate_left
                · simp only [Act.put, List.setIfInBounds_toArray, List.set_cons_zero, List.set_cons_succ, i64_w, i32_w]
                  rfl
                refine pure_ (i := 8) (N := some 43) (v := ?_) (a' := ?_) #[true, true, true, true, true, true, true, true, true, false, false, false, false, false, false, false, false, false, false, false, false, false] rfl rfl (any_of HT_.out (by kernel_rfl)) (fun _ _ _ h => h) (Or.inl ⟨by rfl, ?_⟩) ?_ ?_
                rotate_left
                · intro w'
                  go_simp
                  with_reducible rfl
                rotate_left
                · simp only [Act.put, List.setIfInBounds_toArray, List.set_cons_zero, List.set_cons_succ, i64_w, i32_w]
                  rfl
                refine pure_ (i := 9) (N := some 44) (v := ?_) (a' := ?_) #[true, true, true, true, true, true, true, true, true, true, false, false, false, false, false, false, false, false, false, false, false, false] rfl rfl (any_of HT_.out (by kernel_rfl)) (fun _ _ _ h => h) (Or.inl ⟨by rfl, ?_⟩) ?_ ?_
                rotate_left
                · intro w'
                  go_simp
                  with_reducible rfl
                rotate_left
                · simp only [Act.put, List.setIfInBounds_toArray, List.set_cons_zero, List.set_cons_succ, i64_w, i32_w]
                  rfl
                refine pure_ (i := 10) (N := some 45) (v := ?_) (a' := ?_) #[true, true, true, true, true, true, true, true, true, true, true, false, false, false, false, false, false, false, false, false, false, false] rfl rfl (any_of HT_.out (by kernel_rfl)) (fun _ _ _ h => h) (Or.inl ⟨by rfl, ?_⟩) ?_ ?_
                rotate_left
                · intro w'
                  go_simp
                  with_reducible rfl
                rotate_left
                · simp only [Act.put, List.setIfInBounds_toArray, List.set_cons_zero, List.set_cons_succ, i64_w, i32_w]
                  rfl
                refine pure_ (i := 11) (N := some 46) (v := ?_) (a' := ?_) #[true, true, true, true, true, true, true, true, true, true, true, true, false, false, false, false, false, false, false, false, false, false] rfl rfl (any_of HT_.out (by kernel_rfl)) (fun _ _ _ h => h) (Or.inl ⟨by rfl, ?_⟩) ?_ ?_
                rotate_left
                · intro w'
                  go_simp
                  with_reducible rfl
                rotate_left
                · simp only [Act.put, List.setIfInBounds_toArray, List.set_cons_zero, List.set_cons_succ, i64_w, i32_w]
                  rfl
                refine pure_ (i := 12) (N := some 47) (v := ?_) (a' := ?_) #[true, true, true, true, true, true, true, true, true, true, true, true, true, false, false, false, false, false, false, false, false, false] rfl rfl (any_of HT_.out (by kernel_rfl)) (fun _ _ _ h => h) (Or.inl ⟨by rfl, ?_⟩) ?_ ?_
                rotate_left
                · intro w'
                  go_simp
                  with_reducible rfl
                rotate_left
                · simp only [Act.put, List.setIfInBounds_toArray, List.set_cons_zero, List.set_cons_succ, i64_w, i32_w]
                  rfl
                refine pure_ (i := 13) (N := some 48) (v := ?_) (a' := ?_) #[true, true, true, true, true, true, true, true, true, true, true, true, true, true, false, false, false, false, false, false, false, false] rfl rfl (any_of HT_.out (by kernel_rfl)) (fun _ _ _ h => h) (Or.inl ⟨by rfl, ?_⟩) ?_ ?_
                rotate_left
                · intro w'
                  go_simp
                  with_reducible rfl
                rotate_left
                · simp only [Act.put, List.setIfInBounds_toArray, List.set_cons_zero, List.set_cons_succ, i64_w, i32_w]
                  rfl
                refine pure_ (i := 14) (N := some 49) (v := ?_) (a' := ?_) #[true, true, true, true, true, true, true, true, true, true, true, true, true, true, true, false, false, false, false, false, false, false] rfl rfl (any_of HT_.out (by kernel_rfl)) (fun _ _ _ h => h) (Or.inl ⟨by rfl, ?_⟩) ?_ ?_
                rotate_left
                · intro w'
                  go_simp
                  with_reducible rfl
                rotate_left
                · simp only [Act.put, List.setIfInBounds_toArray, List.set_cons_zero, List.set_cons_succ, i64_w, i32_w]
                  rfl
                refine pure_ (i := 15) (N := some 50) (v := ?_) (a' := ?_) #[true, true, true, true, true, true, true, true, true, true, true, true, true, true, true, true, false, false, false, false, false, false] rfl rfl (any_of HT_.out (by kernel_rfl)) (fun _ _ _ h => h) (Or.inl ⟨by rfl, ?_⟩) ?_ ?_
                rotate_left
                · intro w'
                  go_simp
                  with_reducible rfl
                rotate_left
                · simp only [Act.put, List.setIfInBounds_toArray, List.set_cons_zero, List.set_cons_succ, i64_w, i32_w]
                  rfl
                refine take_ (i := 16) (N := some 51) (v := ?_) (a' := ?_) #[true, true, true, true, true, true, true, true, true, true, true, true, true, true, true, true, true, false, false, false, false, false] rfl rfl (take_ofW HT_.out HW_.out (by kernel_rfl)) (fun _ _ _ h => h) (Or.inl ⟨by rfl, ?_⟩) hHeld ?_ ?_
                rotate_left
                · rintro w' ⟨s0, s1, s2, s3, s4, s5, s6, s7, s8, s9, s10, s11, s12, s13, s14, s15, s16, s17, s18, s19, s20⟩
                  go_simp
                  with_reducible rfl
                rotate_left
                · simp only [Act.put, List.setIfInBounds_toArray, List.set_cons_zero, List.set_cons_succ, i64_w, i32_w]
                  rfl
                refine take_ (i := 18) (N := some 53) (v := ?_) (a' := ?_) #[true, true, true, true, true, true, true, true, true, true, true, true, true, true, true, true, true, false, true, false, false, false] rfl rfl (take_ofW HT_.out HW_.out (by kernel_rfl)) (fun _ _ _ h => h) (Or.inl ⟨by rfl, ?_⟩) hHeld ?_ ?_
                rotate_left
                · rintro w' ⟨s0, s1, s2, s3, s4, s5, s6, s7, s8, s9, s10, s11, s12, s13, s14, s15, s16, s17, s18, s19, s20⟩
                  go_simp
                  with_reducible rfl
                rotate_left
                · simp only [Act.put, List.setIfInBounds_toArray, List.set_cons_zero, List.set_cons_succ, i64_w, i32_w]
                  rfl
                refine one_ (i := 17) (N := some 52) #[true, true, true, true, true, true, true, true, true, true, true, true, true, true, true, true, true, true, true, false, false, false] rfl rfl (one_of HT_.out (by kernel_rfl)) (by decide) (fun K hK => ?_)
                refine goes_ Tryd.func14 (by kernel_rfl) rfl #[.agg #[.bool t342, .int .i64 t343, .int .i64 t344, .int .i64 t345, .int .i64 t346, .int .i64 t347, .int .i64 t348]] (by rfl) rfl rfl (by (try simp only [List.map_toArray, List.map_cons, List.map_nil]); first | done | rfl | (simp only [List.length_drop, List.length_take]; rfl)) ?_
                with_reducible refine (impl_RulOk.calls t342 t343 t344 t345 t346 t347 t348 t371 _ A37.out).mono ?_
                rintro e w43 ⟨rfl, hb⟩
                refine ⟨_, rfl, ?_⟩
                have n0_ := bkB BK349 hb
                have n1_ := bkB BK359 hb
                have n2_ := bkB BK368 hb
                have n3_ := Aside0.mk (below_step (bl HB) hb)
                clear BK349
                clear BK359
                clear BK368
                clear HB
                have BK349 := n0_
                have BK359 := n1_
                have BK368 := n2_
                have HB := n3_
                clear n0_ n1_ n2_ n3_
                (try clear hb)
                (try clear hb2)
                (try clear hk)
                (try clear hi)
                refine hK.out _ _ ⟨(blk_cell BK349.out 0).trans rfl, (blk_cell BK349.out 1).trans rfl, (blk_cell BK349.out 2).trans rfl, (blk_cell BK349.out 3).trans rfl, (blk_cell BK349.out 4).trans rfl, (blk_cell BK349.out 5).trans rfl, (blk_cell BK349.out 6).trans rfl, (blk_cell BK359.out 0).trans rfl, (blk_cell BK359.out 1).trans rfl, (blk_cell BK359.out 2).trans rfl, (blk_cell BK359.out 3).trans rfl, (blk_cell BK359.out 4).trans rfl, (blk_cell BK359.out 5).trans rfl, (blk_cell BK359.out 6).trans rfl, (blk_cell BK368.out 0).trans rfl, (blk_cell BK368.out 1).trans rfl, (blk_cell BK368.out 2).trans rfl, (blk_cell BK368.out 3).trans rfl, (blk_cell BK368.out 4).trans rfl, (blk_cell BK368.out 5).trans rfl, (blk_cell BK368.out 6).trans rfl⟩ (fun hHeld => ?_)
                clear hK K
                refine norm_ (a' := ?_) ?_ ?_
                rotate_left
                · show Act.put _ (some 52) _ = _
                  simp only [Act.put, List.setIfInBounds_toArray, List.set_cons_zero, List.set_cons_succ, i64_w, i32_w]
                  rfl
                refine one_ (i := 19) (N := some 54) #[true, true, true, true, true, true, true, true, true, true, true, true, true, true, true, true, true, true, true, true, false, false] rfl rfl (one_of HT_.out (by kernel_rfl)) (by decide) (fun K hK => ?_)
                refine goes_ Tryd.func15 (by kernel_rfl) rfl #[.agg #[.bool t342, .int .i64 t343, .int .i64 t344, .int .i64 t345, .int .i64 t346, .int .i64 t347, .int .i64 t348]] (by rfl) rfl rfl (by (try simp only [List.map_toArray, List.map_cons, List.map_nil]); first | done | rfl | (simp only [List.length_drop, List.length_take]; rfl)) ?_
                with_reducible refine (spec_RulOk.calls t342 t343 t344 t345 t346 t347 t348 t372 _ A38.out).mono ?_
                rintro e w44 ⟨rfl, hb⟩
                refine ⟨_, rfl, ?_⟩
                have n0_ := bkB BK349 hb
                have n1_ := bkB BK359 hb
                have n2_ := bkB BK368 hb
                have n3_ := Aside0.mk (below_step (bl HB) hb)
                clear BK349
                clear BK359
                clear BK368
                clear HB
                have BK349 := n0_
                have BK359 := n1_
                have BK368 := n2_
                have HB := n3_
                clear n0_ n1_ n2_ n3_
                (try clear hb)
                (try clear hb2)
                (try clear hk)
                (try clear hi)
                refine hK.out _ _ ⟨(blk_cell BK349.out 0).trans rfl, (blk_cell BK349.out 1).trans rfl, (blk_cell BK349.out 2).trans rfl, (blk_cell BK349.out 3).trans rfl, (blk_cell BK349.out 4).trans rfl, (blk_cell BK349.out 5).trans rfl, (blk_cell BK349.out 6).trans rfl, (blk_cell BK359.out 0).trans rfl, (blk_cell BK359.out 1).trans rfl, (blk_cell BK359.out 2).trans rfl, (blk_cell BK359.out 3).trans rfl, (blk_cell BK359.out 4).trans rfl, (blk_cell BK359.out 5).trans rfl, (blk_cell BK359.out 6).trans rfl, (blk_cell BK368.out 0).trans rfl, (blk_cell BK368.out 1).trans rfl, (blk_cell BK368.out 2).trans rfl, (blk_cell BK368.out 3).trans rfl, (blk_cell BK368.out 4).trans rfl, (blk_cell BK368.out 5).trans rfl, (blk_cell BK368.out 6).trans rfl⟩ (fun hHeld => ?_)
                clear hK K
                refine norm_ (a' := ?_) ?_ ?_
                rotate_left
                · show Act.put _ (some 54) _ = _
                  simp only [Act.put, List.setIfInBounds_toArray, List.set_cons_zero, List.set_cons_succ, i64_w, i32_w]
                  rfl
                refine pure_ (i := 20) (N := some 55) (v := ?_) (a' := ?_) #[true, true, true, true, true, true, true, true, true, true, true, true, true, true, true, true, true, true, true, true, true, false] rfl rfl (any_of HT_.out (by kernel_rfl)) (fun _ _ _ h => h) (Or.inl ⟨by rfl, ?_⟩) ?_ ?_
                rotate_left
                · intro w'
                  go_simp
                  with_reducible rfl
                rotate_left
                · simp only [Act.put, List.setIfInBounds_toArray, List.set_cons_zero, List.set_cons_succ, i64_w, i32_w]
                  rfl
                refine pure_ (i := 21) (N := some 56) (v := ?_) (a' := ?_) #[true, true, true, true, true, true, true, true, true, true, true, true, true, true, true, true, true, true, true, true, true, true] rfl rfl (any_of HT_.out (by kernel_rfl)) (fun _ _ _ h => h) (Or.inl ⟨by rfl, ?_⟩) ?_ ?_
                rotate_left
                · intro w'
                  go_simp
                  with_reducible rfl
                rotate_left
                · simp only [Act.put, List.setIfInBounds_toArray, List.set_cons_zero, List.set_cons_succ, i64_w, i32_w]
                  rfl
                refine done_ (done_of HT_.out (by kernel_rfl)) ?_
                try go_wp2
                go_meet
                case rel => exact ⟨_, ((t371 != t372)), (by first | rfl | (simp; done) | (simp [*]; done)), H', ⟨by have := HJ2.out; first | omega | exact Nat.le_refl _⟩, ⟨by (with_reducible repeat refine bu ?_); exact BK349.out⟩, ⟨by (with_reducible repeat refine bu ?_); exact BK359.out⟩, ⟨by (with_reducible repeat refine bu ?_); exact BK368.out⟩, ⟨by repeat (first | (with_reducible first | exact HB.out | apply below_alloc | apply pw_below_drewN | apply below_drew1 | refine below_set ?_ GE349.out | refine below_set ?_ GE359.out | refine below_set ?_ GE368.out) | exact HB.out)⟩⟩
          · rw [if_neg c26] at H
            have c26b0 : (t369.toList == t370.toList) = false := beq_eq_false_iff_ne.mpr c26
            have c26b1 : (t369.toList != t370.toList) = true := bne_iff_ne.mpr c26
            (first | rw [c26b0] | (simp only [i64_w, i32_w]; rw [c26b0]) | skip)
            have H' := Aside0.mk H
            clear H
            try go_wp2
            have n0_ : Aside0 ((((((((w20.setCell ⟨gb368, 0, none⟩ (.bool t360)).setCell ⟨gb368, 1, none⟩ (.int .i64 t361)).setCell ⟨gb368, 2, none⟩ (.int .i64 t362)).setCell ⟨gb368, 3, none⟩ (.int .i64 t363)).setCell ⟨gb368, 4, none⟩ (.int .i64 t364)).setCell ⟨gb368, 5, none⟩ (.int .i64 t365)).setCell ⟨gb368, 6, none⟩ (.int .i64 t366)).heap[gb349]? = some (.cells #[.bool t342, .int .i64 t343, .int .i64 t344, .int .i64 t345, .int .i64 t346, .int .i64 t347, .int .i64 t348] 25 (0, 0))) := ⟨by (with_reducible repeat refine bu ?_); refine blk_far ?_ NB349_368.out _; (with_reducible repeat refine bu ?_); refine blk_far ?_ NB349_368.out _; (with_reducible repeat refine bu ?_); refine blk_far ?_ NB349_368.out _; (with_reducible repeat refine bu ?_); refine blk_far ?_ NB349_368.out _; (with_reducible repeat refine bu ?_); refine blk_far ?_ NB349_368.out _; (with_reducible repeat refine bu ?_); refine blk_far ?_ NB349_368.out _; (with_reducible repeat refine bu ?_); refine blk_far ?_ NB349_368.out _; (with_reducible repeat refine bu ?_); exact BK349.out⟩
            have n1_ : Aside0 ((((((((w20.setCell ⟨gb368, 0, none⟩ (.bool t360)).setCell ⟨gb368, 1, none⟩ (.int .i64 t361)).setCell ⟨gb368, 2, none⟩ (.int .i64 t362)).setCell ⟨gb368, 3, none⟩ (.int .i64 t363)).setCell ⟨gb368, 4, none⟩ (.int .i64 t364)).setCell ⟨gb368, 5, none⟩ (.int .i64 t365)).setCell ⟨gb368, 6, none⟩ (.int .i64 t366)).heap[gb359]? = some (.cells #[.bool t351, .int .i64 t352, .int .i64 t353, .int .i64 t354, .int .i64 t355, .int .i64 t356, .int .i64 t357] 25 (0, 0))) := ⟨by (with_reducible repeat refine bu ?_); refine blk_far ?_ NB359_368.out _; (with_reducible repeat refine bu ?_); refine blk_far ?_ NB359_368.out _; (with_reducible repeat refine bu ?_); refine blk_far ?_ NB359_368.out _; (with_reducible repeat refine bu ?_); refine blk_far ?_ NB359_368.out _; (with_reducible repeat refine bu ?_); refine blk_far ?_ NB359_368.out _; (with_reducible repeat refine bu ?_); refine blk_far ?_ NB359_368.out _; (with_reducible repeat refine bu ?_); refine blk_far ?_ NB359_368.out _; (with_reducible repeat refine bu ?_); exact BK359.out⟩
            have n2_ : Aside0 ((((((((w20.setCell ⟨gb368, 0, none⟩ (.bool t360)).setCell ⟨gb368, 1, none⟩ (.int .i64 t361)).setCell ⟨gb368, 2, none⟩ (.int .i64 t362)).setCell ⟨gb368, 3, none⟩ (.int .i64 t363)).setCell ⟨gb368, 4, none⟩ (.int .i64 t364)).setCell ⟨gb368, 5, none⟩ (.int .i64 t365)).setCell ⟨gb368, 6, none⟩ (.int .i64 t366)).heap[gb368]? = some (.cells #[.bool t360, .int .i64 t361, .int .i64 t362, .int .i64 t363, .int .i64 t364, .int .i64 t365, .int .i64 t366] 25 (0, 0))) := ⟨by (with_reducible repeat refine bu ?_); refine blk_put (cs := #[.bool t360, .int .i64 t361, .int .i64 t362, .int .i64 t363, .int .i64 t364, .int .i64 t365, .int .i64 0]) ?_ 6 _ rfl; (with_reducible repeat refine bu ?_); refine blk_put (cs := #[.bool t360, .int .i64 t361, .int .i64 t362, .int .i64 t363, .int .i64 t364, .int .i64 0, .int .i64 0]) ?_ 5 _ rfl; (with_reducible repeat refine bu ?_); refine blk_put (cs := #[.bool t360, .int .i64 t361, .int .i64 t362, .int .i64 t363, .int .i64 0, .int .i64 0, .int .i64 0]) ?_ 4 _ rfl; (with_reducible repeat refine bu ?_); refine blk_put (cs := #[.bool t360, .int .i64 t361, .int .i64 t362, .int .i64 0, .int .i64 0, .int .i64 0, .int .i64 0]) ?_ 3 _ rfl; (with_reducible repeat refine bu ?_); refine blk_put (cs := #[.bool t360, .int .i64 t361, .int .i64 0, .int .i64 0, .int .i64 0, .int .i64 0, .int .i64 0]) ?_ 2 _ rfl; (with_reducible repeat refine bu ?_); refine blk_put (cs := #[.bool t360, .int .i64 0, .int .i64 0, .int .i64 0, .int .i64 0, .int .i64 0, .int .i64 0]) ?_ 1 _ rfl; (with_reducible repeat refine bu ?_); refine blk_put (cs := #[.bool false, .int .i64 0, .int .i64 0, .int .i64 0, .int .i64 0, .int .i64 0, .int .i64 0]) ?_ 0 _ rfl; (with_reducible repeat refine bu ?_); exact BK368.out⟩
            have n3_ : Aside0 (Below w.heap.size w (((((((w20.setCell ⟨gb368, 0, none⟩ (.bool t360)).setCell ⟨gb368, 1, none⟩ (.int .i64 t361)).setCell ⟨gb368, 2, none⟩ (.int .i64 t362)).setCell ⟨gb368, 3, none⟩ (.int .i64 t363)).setCell ⟨gb368, 4, none⟩ (.int .i64 t364)).setCell ⟨gb368, 5, none⟩ (.int .i64 t365)).setCell ⟨gb368, 6, none⟩ (.int .i64 t366))) := ⟨by repeat (first | (with_reducible first | exact HB.out | apply below_alloc | apply pw_below_drewN | apply below_drew1 | refine below_set ?_ GE349.out | refine below_set ?_ GE359.out | refine below_set ?_ GE368.out) | exact HB.out)⟩
            (try clear BK349)
            (try clear BK359)
            (try clear BK368)
            (try clear HB)
            generalize (((((((w20.setCell ⟨gb368, 0, none⟩ (.bool t360)).setCell ⟨gb368, 1, none⟩ (.int .i64 t361)).setCell ⟨gb368, 2, none⟩ (.int .i64 t362)).setCell ⟨gb368, 3, none⟩ (.int .i64 t363)).setCell ⟨gb368, 4, none⟩ (.int .i64 t364)).setCell ⟨gb368, 5, none⟩ (.int .i64 t365)).setCell ⟨gb368, 6, none⟩ (.int .i64 t366)) = w45 at n0_ n1_ n2_ n3_ ⊢
            have BK349 := n0_
            have BK359 := n1_
            have BK368 := n2_
            have HB := n3_
            clear n0_ n1_ n2_ n3_
            have n0_ := Aside0.mk (blk_drew BK349.out)
            have n1_ := Aside0.mk (blk_drew BK359.out)
            have n2_ := Aside0.mk (blk_drew BK368.out)
            have n3_ := Aside0.mk (below_drew1 HB.out)
            clear BK349
            clear BK359
            clear BK368
            clear HB
            have BK349 := n0_
            have BK359 := n1_
            have BK368 := n2_
            have HB := n3_
            clear n0_ n1_ n2_ n3_
            refine start_ (n := 22) (S := fun w' => w'.cell? ⟨gb349, 0, none⟩ = some (.bool t342) ∧ w'.cell? ⟨gb349, 1, none⟩ = some (.int .i64 t343) ∧ w'.cell? ⟨gb349, 2, none⟩ = some (.int .i64 t344) ∧ w'.cell? ⟨gb349, 3, none⟩ = some (.int .i64 t345) ∧ w'.cell? ⟨gb349, 4, none⟩ = some (.int .i64 t346) ∧ w'.cell? ⟨gb349, 5, none⟩ = some (.int .i64 t347) ∧ w'.cell? ⟨gb349, 6, none⟩ = some (.int .i64 t348)) (ds := []) #[false, false, false, false, false, false, false, false, false, false, false, false, false, false, false, false, false, false, false, false, false, false] (by kernel_rfl) rfl rfl ⟨(blk_cell BK349.out 0).trans rfl, (blk_cell BK349.out 1).trans rfl, (blk_cell BK349.out 2).trans rfl, (blk_cell BK349.out 3).trans rfl, (blk_cell BK349.out 4).trans rfl, (blk_cell BK349.out 5).trans rfl, (blk_cell BK349.out 6).trans rfl⟩ (fun hHeld => ?_); refine with_tabW laws_FnRulText.tab7 laws_FnRulText.bits7 (fun HT_ HW_ => ?_)
            generalize w45.drew = w46 at BK349 BK359 BK368 HB hHeld ⊢
            refine take_ (i := 0) (N := some 35) (v := ?_) (a' := ?_) #[true, false, false, false, false, false, false, false, false, false, false, false, false, false, false, false, false, false, false, false, false, false] rfl rfl (take_ofW HT_.out HW_.out (by kernel_rfl)) (fun _ _ _ h => h) (Or.inl ⟨by rfl, ?_⟩) hHeld ?_ ?_
            rotate_left
            · rintro w' ⟨s0, s1, s2, s3, s4, s5, s6⟩
              go_simp
              with_reducible rfl
            rotate_left
            · simp only [Act.put, List.setIfInBounds_toArray, List.set_cons_zero, List.set_cons_succ, i64_w, i32_w]
              rfl
            refine take_ (i := 2) (N := some 37) (v := ?_) (a' := ?_) #[true, false, true, false, false, false, false, false, false, false, false, false, false, false, false, false, false, false, false, false, false, false] rfl rfl (take_ofW HT_.out HW_.out (by kernel_rfl)) (fun _ _ _ h => h) (Or.inl ⟨by rfl, ?_⟩) hHeld ?_ ?_
            rotate_left
            · rintro w' ⟨s0, s1, s2, s3, s4, s5, s6⟩
              go_simp
              with_reducible rfl
            rotate_left
            · simp only [Act.put, List.setIfInBounds_toArray, List.set_cons_zero, List.set_cons_succ, i64_w, i32_w]
              rfl
            refine one_ (i := 1) (N := some 36) #[true, true, true, false, false, false, false, false, false, false, false, false, false, false, false, false, false, false, false, false, false, false] rfl rfl (one_of HT_.out (by kernel_rfl)) (by decide) (fun K hK => ?_)
            refine goes_ Tryd.func8 (by kernel_rfl) rfl #[.agg #[.bool t342, .int .i64 t343, .int .i64 t344, .int .i64 t345, .int .i64 t346, .int .i64 t347, .int .i64 t348]] (by rfl) rfl rfl (by (try simp only [List.map_toArray, List.map_cons, List.map_nil]); first | done | rfl | (simp only [List.length_drop, List.length_take]; rfl)) ?_
            with_reducible refine (impl_RulText.calls t342 t343 t344 t345 t346 t347 t348 t369 _ A24.out (EnvT.below hE.t (bl HB))).mono ?_
            rintro e w47 ⟨rfl, hb⟩
            refine ⟨_, rfl, ?_⟩
            have n0_ := bkB BK349 hb
            have n1_ := bkB BK359 hb
            have n2_ := bkB BK368 hb
            have n3_ := Aside0.mk (below_step (bl HB) hb)
            clear BK349
            clear BK359
            clear BK368
            clear HB
            have BK349 := n0_
            have BK359 := n1_
            have BK368 := n2_
            have HB := n3_
            clear n0_ n1_ n2_ n3_
            (try clear hb)
            (try clear hb2)
            (try clear hk)
            (try clear hi)
            refine hK.out _ _ ⟨(blk_cell BK349.out 0).trans rfl, (blk_cell BK349.out 1).trans rfl, (blk_cell BK349.out 2).trans rfl, (blk_cell BK349.out 3).trans rfl, (blk_cell BK349.out 4).trans rfl, (blk_cell BK349.out 5).trans rfl, (blk_cell BK349.out 6).trans rfl⟩ (fun hHeld => ?_)
            clear hK K
            refine norm_ (a' := ?_) ?_ ?_
            rotate_left
            · show Act.put _ (some 36) _ = _
              simp only [Act.put, List.setIfInBounds_toArray, List.set_cons_zero, List.set_cons_succ, i64_w, i32_w]
              rfl
            refine one_ (i := 3) (N := some 38) #[true, true, true, true, false, false, false, false, false, false, false, false, false, false, false, false, false, false, false, false, false, false] rfl rfl (one_of HT_.out (by kernel_rfl)) (by decide) (fun K hK => ?_)
            refine goes_ Tryd.func6 (by kernel_rfl) rfl #[.agg #[.bool t342, .int .i64 t343, .int .i64 t344, .int .i64 t345, .int .i64 t346, .int .i64 t347, .int .i64 t348]] (by rfl) rfl rfl (by (try simp only [List.map_toArray, List.map_cons, List.map_nil]); first | done | rfl | (simp only [List.length_drop, List.length_take]; rfl)) ?_
            with_reducible refine (spec_RulText.calls kj2 t342 t343 t344 t345 t346 t347 t348 t370 _ A25.out).mono ?_
            rintro e w48 ⟨rfl, hb⟩
            refine ⟨_, rfl, ?_⟩
            have n0_ := bkB BK349 hb
            have n1_ := bkB BK359 hb
            have n2_ := bkB BK368 hb
            have n3_ := Aside0.mk (below_step (bl HB) hb)
            clear BK349
            clear BK359
            clear BK368
            clear HB
            have BK349 := n0_
            have BK359 := n1_
            have BK368 := n2_
            have HB := n3_
            clear n0_ n1_ n2_ n3_
            (try clear hb)
            (try clear hb2)
            (try clear hk)
            (try clear hi)
            refine hK.out _ _ ⟨(blk_cell BK349.out 0).trans rfl, (blk_cell BK349.out 1).trans rfl, (blk_cell BK349.out 2).trans rfl, (blk_cell BK349.out 3).trans rfl, (blk_cell BK349.out 4).trans rfl, (blk_cell BK349.out 5).trans rfl, (blk_cell BK349.out 6).trans rfl⟩ (fun hHeld => ?_)
            clear hK K
            refine norm_ (a' := ?_) ?_ ?_
            rotate_left
            · show Act.put _ (some 38) _ = _
              simp only [Act.put, List.setIfInBounds_toArray, List.set_cons_zero, List.set_cons_succ, i64_w, i32_w]
              rfl
            refine pure_ (i := 4) (N := some 39) (v := ?_) (a' := ?_) #[true, true, true, true, true, false, false, false, false, false, false, false, false, false, false, false, false, false, false, false, false, false] rfl rfl (any_of HT_.out (by kernel_rfl)) (fun _ _ _ h => h) (Or.inl ⟨by rfl, ?_⟩) ?_ ?_
            rotate_left
            · intro w'
              go_simp
              with_reducible rfl
            rotate_left
            · simp only [Act.put, List.setIfInBounds_toArray, List.set_cons_zero, List.set_cons_succ, i64_w, i32_w]
              rfl
            refine pure_ (i := 5) (N := some 40) (v := ?_) (a' := ?_) #[true, true, true, true, true, true, false, false, false, false, false, false, false, false, false, false, false, false, false, false, false, false] rfl rfl (any_of HT_.out (by kernel_rfl)) (fun _ _ _ h => h) (Or.inl ⟨by rfl, ?_⟩) ?_ ?_
            rotate_left
            · intro w'
              go_simp
              with_reducible rfl
            rotate_left
            · simp only [Act.put, List.setIfInBounds_toArray, List.set_cons_zero, List.set_cons_succ, i64_w, i32_w]
              rfl
            refine pure_ (i := 6) (N := some 41) (v := undef) (a' := ?_) #[true, true, true, true, true, true, true, false, false, false, false, false, false, false, false, false, false, false, false, false, false, false] rfl rfl (any_of HT_.out (by kernel_rfl)) (fun _ _ _ h => h) (Or.inr ⟨by rfl, rfl⟩) ?_ ?_
            rotate_left
            · simp only [Act.put, List.setIfInBounds_toArray, List.set_cons_zero, List.set_cons_succ, i64_w, i32_w]
              rfl
            refine pure_ (i := 7) (N := some 42) (v := undef) (a' := ?_) #[true, true, true, true, true, true, true, true, false, false, false, false, false, false, false, false, false, false, false, false, false, false] rfl rfl (any_of HT_.out (by kernel_rfl)) (fun _ _ _ h => h) (Or.inr ⟨by rfl, rfl⟩) ?_ ?_
            rotate_left
            · simp only [Act.put, List.setIfInBounds_toArray, List.set_cons_zero, List.set_cons_succ, i64_w, i32_w]
              rfl
            refine pure_ (i := 8) (N := some 43) (v := undef) (a' := ?_) #[true, true, true, true, true, true, true, true, true, false, false, false, false, false, false, false, false, false, false, false, false, false] rfl rfl (any_of HT_.out (by kernel_rfl)) (fun _ _ _ h => h) (Or.inr ⟨by rfl, rfl⟩) ?_ ?_
            rotate_left
            · simp only [Act.put, List.setIfInBounds_toArray, List.set_cons_zero, List.set_cons_succ, i64_w, i32_w]
              rfl
            refine pure_ (i := 9) (N := some 44) (v := ?_) (a' := ?_) #[true, true, true, true, true, true, true, true, true, true, false, false, false, false, false, false, false, false, false, false, false, false] rfl rfl (any_of HT_.out (by kernel_rfl)) (fun _ _ _ h => h) (Or.inl ⟨by rfl, ?_⟩) ?_ ?_
            rotate_left
            · intro w'
              go_simp
              with_reducible rfl
            rotate_left
            · simp only [Act.put, List.setIfInBounds_toArray, List.set_cons_zero, List.set_cons_succ, i64_w, i32_w]
              rfl
            refine pure_ (i := 10) (N := some 45) (v := ?_) (a' := ?_) #[true, true, true, true, true, true, true, true, true, true, true, false, false, false, false, false, false, false, false, false, false, false] rfl rfl (any_of HT_.out (by kernel_rfl)) (fun _ _ _ h => h) (Or.inl ⟨by rfl, ?_⟩) ?_ ?_
            rotate_left
            · intro w'
              go_simp
              with_reducible rfl
            rotate_left
            · simp only [Act.put, List.setIfInBounds_toArray, List.set_cons_zero, List.set_cons_succ, i64_w, i32_w]
              rfl
            refine pure_ (i := 11) (N := some 46) (v := undef) (a' := ?_) #[true, true, true, true, true, true, true, true, true, true, true, true, false, false, false, false, false, false, false, false, false, false] rfl rfl (any_of HT_.out (by kernel_rfl)) (fun _ _ _ h => h) (Or.inr ⟨by rfl, rfl⟩) ?_ ?_
            rotate_left
            · simp only [Act.put, List.setIfInBounds_toArray, List.set_cons_zero, List.set_cons_succ, i64_w, i32_w]
              rfl
            refine pure_ (i := 12) (N := some 47) (v := undef) (a' := ?_) #[true, true, true, true, true, true, true, true, true, true, true, true, true, false, false, false, false, false, false, false, false, false] rfl rfl (any_of HT_.out (by kernel_rfl)) (fun _ _ _ h => h) (Or.inr ⟨by rfl, rfl⟩) ?_ ?_
            rotate_left
            · simp only [Act.put, List.setIfInBounds_toArray, List.set_cons_zero, List.set_cons_succ, i64_w, i32_w]
              rfl
            refine pure_ (i := 13) (N := some 48) (v := undef) (a' := ?_) #[true, true, true, true, true, true, true, true, true, true, true, true, true, true, false, false, false, false, false, false, false, false] rfl rfl (any_of HT_.out (by kernel_rfl)) (fun _ _ _ h => h) (Or.inr ⟨by rfl, rfl⟩) ?_ ?_
            rotate_left
            · simp only [Act.put, List.setIfInBounds_toArray, List.set_cons_zero, List.set_cons_succ, i64_w, i32_w]
              rfl
            refine pure_ (i := 14) (N := some 49) (v := ?_) (a' := ?_) #[true, true, true, true, true, true, true, true, true, true, true, true, true, true, true, false, false, false, false, false, false, false] rfl rfl (any_of HT_.out (by kernel_rfl)) (fun _ _ _ h => h) (Or.inl ⟨by rfl, ?_⟩) ?_ ?_
            rotate_left
            · intro w'
              go_simp
              with_reducible rfl
            rotate_left
            · simp only [Act.put, List.setIfInBounds_toArray, List.set_cons_zero, List.set_cons_succ, i64_w, i32_w]
              rfl
            refine pure_ (i := 15) (N := some 50) (v := ?_) (a' := ?_) #[true, true, true, true, true, true, true, true, true, true, true, true, true, true, true, true, false, false, false, false, false, false] rfl rfl (any_of HT_.out (by kernel_rfl)) (fun _ _ _ h => h) (Or.inl ⟨by rfl, ?_⟩) ?_ ?_
            rotate_left
            · intro w'
              go_simp
              with_reducible rfl
            rotate_left
            · simp only [Act.put, List.setIfInBounds_toArray, List.set_cons_zero, List.set_cons_succ, i64_w, i32_w]
              rfl
            refine pure_ (i := 16) (N := some 51) (v := undef) (a' := ?_) #[true, true, true, true, true, true, true, true, true, true, true, true, true, true, true, true, true, false, false, false, false, false] rfl rfl (any_of HT_.out (by kernel_rfl)) (fun _ _ _ h => h) (Or.inr ⟨by rfl, rfl⟩) ?_ ?_
            rotate_left
            · simp only [Act.put, List.setIfInBounds_toArray, List.set_cons_zero, List.set_cons_succ, i64_w, i32_w]
              rfl
            refine pure_ (i := 17) (N := some 52) (v := undef) (a' := ?_) #[true, true, true, true, true, true, true, true, true, true, true, true, true, true, true, true, true, true, false, false, false, false] rfl rfl (any_of HT_.out (by kernel_rfl)) (fun _ _ _ h => h) (Or.inr ⟨by rfl, rfl⟩) ?_ ?_
            rotate_left
            · simp only [Act.put, List.setIfInBounds_toArray, List.set_cons_zero, List.set_cons_succ, i64_w, i32_w]
              rfl
            refine pure_ (i := 18) (N := some 53) (v := undef) (a' := ?_) #[true, true, true, true, true, true, true, true, true, true, true, true, true, true, true, true, true, true, true, false, false, false] rfl rfl (any_of HT_.out (by kernel_rfl)) (fun _ _ _ h => h) (Or.inr ⟨by rfl, rfl⟩) ?_ ?_
            rotate_left
            · simp only [Act.put, List.setIfInBounds_toArray, List.set_cons_zero, List.set_cons_succ, i64_w, i32_w]
              rfl
            refine pure_ (i := 19) (N := some 54) (v := undef) (a' := ?_) #[true, true, true, true, true, true, true, true, true, true, true, true, true, true, true, true, true, true, true, true, false, false] rfl rfl (any_of HT_.out (by kernel_rfl)) (fun _ _ _ h => h) (Or.inr ⟨by rfl, rfl⟩) ?_ ?_
            rotate_left
            · simp only [Act.put, List.setIfInBounds_toArray, List.set_cons_zero, List.set_cons_succ, i64_w, i32_w]
              rfl
            refine pure_ (i := 20) (N := some 55) (v := undef) (a' := ?_) #[true, true, true, true, true, true, true, true, true, true, true, true, true, true, true, true, true, true, true, true, true, false] rfl rfl (any_of HT_.out (by kernel_rfl)) (fun _ _ _ h => h) (Or.inr ⟨by rfl, rfl⟩) ?_ ?_
            rotate_left
            · simp only [Act.put, List.setIfInBounds_toArray, List.set_cons_zero, List.set_cons_succ, i64_w, i32_w]
              rfl
            refine pure_ (i := 21) (N := some 56) (v := ?_) (a' := ?_) #[true, true, true, true, true, true, true, true, true, true, true, true, true, true, true, true, true, true, true, true, true, true] rfl rfl (any_of HT_.out (by kernel_rfl)) (fun _ _ _ h => h) (Or.inl ⟨by rfl, ?_⟩) ?_ ?_
            rotate_left
            · intro w'
              go_simp
              with_reducible rfl
            rotate_left
            · simp only [Act.put, List.setIfInBounds_toArray, List.set_cons_zero, List.set_cons_succ, i64_w, i32_w]
              rfl
            refine done_ (done_of HT_.out (by kernel_rfl)) ?_
            try go_wp2
            go_meet
            case rel => exact ⟨_, (true), (by first | rfl | (simp; done) | (simp [*]; done)), H', ⟨by have := HJ2.out; first | omega | exact Nat.le_refl _⟩, ⟨by (with_reducible repeat refine bu ?_); exact BK349.out⟩, ⟨by (with_reducible repeat refine bu ?_); exact BK359.out⟩, ⟨by (with_reducible repeat refine bu ?_); exact BK368.out⟩, ⟨by repeat (first | (with_reducible first | exact HB.out | apply below_alloc | apply pw_below_drewN | apply below_drew1 | refine below_set ?_ GE349.out | refine below_set ?_ GE359.out | refine below_set ?_ GE368.out) | exact HB.out)⟩⟩
        case rest =>
          clear HC10
          try clear c1
          try clear c2
          try clear p2
          try clear c3
          try clear c6
          try clear c8
          try clear c14
          try clear c15
          try clear c26
          try clear c26b0
          try clear c26b1
          try clear c32
          try clear c32b0
          try clear c32b1
          try clear c32b2
          obtain ⟨kq, x56_9, rfl, HA, HJ9, BK349, BK359, BK368, HB⟩ := hcut
          cases kq with
          | zero => exact absurd HA.out (by simp [laws_FnRulText.j1])
          | succ kj9 =>
            have H := HA.out
            clear HA
            simp only [laws_FnRulText.j1] at H
            by_cases c49 : x56_9 = true
            · subst c49
              have H1 : (some false) = some r := by rw [if_pos rfl] at H; exact H
              clear H
              have H := H1
              clear H1
              exact absurd ((Option.some.inj H).trans hrt.out) (by decide)
            · replace c49 := Bool.eq_false_iff.mpr c49
              subst c49
              have H1 : (if t358 = true then ((impl_RulOk.f t351 t352 t353 t354 t355 t356 t357).bind fun t373 => (if t373 = true then ((impl_RulText.f t351 t352 t353 t354 t355 t356 t357).bind fun t374 => (laws_FnRulText.j2 kj9 (t374.toList != t350.toList) t342 t343 t344 t345 t346 t347 t348)) else (laws_FnRulText.j2 kj9 true t342 t343 t344 t345 t346 t347 t348))) else (laws_FnRulText.j2 kj9 false t342 t343 t344 t345 t346 t347 t348)) = some r := by rw [if_neg (show ¬ (false = true) by decide)] at H; exact H
              clear H
              have H := H1
              clear H1
              have HC50 := Aside0.mk H
              clear H
              go_upto_region 9 with (fail)
              go_cut [68] (fun v68 wc => ∃ (kq : Nat) (x68_49 : Bool), v68 = .bool x68_49 ∧ Aside0 (laws_FnRulText.j2 kq x68_49 t342 t343 t344 t345 t346 t347 t348 = some r) ∧ Aside0 (kq ≤ kj9) ∧ Aside0 (wc.heap[gb349]? = some (.cells #[.bool t342, .int .i64 t343, .int .i64 t344, .int .i64 t345, .int .i64 t346, .int .i64 t347, .int .i64 t348] 25 (0, 0))) ∧ Aside0 (wc.heap[gb359]? = some (.cells #[.bool t351, .int .i64 t352, .int .i64 t353, .int .i64 t354, .int .i64 t355, .int .i64 t356, .int .i64 t357] 25 (0, 0))) ∧ Aside0 (wc.heap[gb368]? = some (.cells #[.bool t360, .int .i64 t361, .int .i64 t362, .int .i64 t363, .int .i64 t364, .int .i64 t365, .int .i64 t366] 25 (0, 0))) ∧ Aside0 (Below w.heap.size w wc))
              case first =>
                have H := HC50.out
                clear HC50
                by_cases c51 : t358 = true
                · subst c51
                  have H1 : ((impl_RulOk.f t351 t352 t353 t354 t355 t356 t357).bind fun t373 => (if t373 = true then ((impl_RulText.f t351 t352 t353 t354 t355 t356 t357).bind fun t374 => (laws_FnRulText.j2 kj9 (t374.toList != t350.toList) t342 t343 t344 t345 t346 t347 t348)) else (laws_FnRulText.j2 kj9 true t342 t343 t344 t345 t346 t347 t348))) = some r := by rw [if_pos rfl] at H; exact H
                  clear H
                  have H := H1
                  clear H1
                  replace H := Option.bind_eq_some_iff.mp H
                  obtain ⟨t373, A520, H⟩ := H
                  replace H : (if t373 = true then ((impl_RulText.f t351 t352 t353 t354 t355 t356 t357).bind fun t374 => (laws_FnRulText.j2 kj9 (t374.toList != t350.toList) t342 t343 t344 t345 t346 t347 t348)) else (laws_FnRulText.j2 kj9 true t342 t343 t344 t345 t346 t347 t348)) = some r := H
                  have A52 := Aside0.mk A520
                  clear A520
                  by_cases c53 : t373 = true
                  · subst c53
                    have H1 : ((impl_RulText.f t351 t352 t353 t354 t355 t356 t357).bind fun t374 => (laws_FnRulText.j2 kj9 (t374.toList != t350.toList) t342 t343 t344 t345 t346 t347 t348)) = some r := by rw [if_pos rfl] at H; exact H
                    clear H
                    have H := H1
                    clear H1
                    replace H := Option.bind_eq_some_iff.mp H
                    obtain ⟨t374, A540, H⟩ := H
                    replace H : (laws_FnRulText.j2 kj9 (t374.toList != t350.toList) t342 t343 t344 t345 t346 t347 t348) = some r := H
                    have A54 := Aside0.mk A540
                    clear A540
                    have H' := Aside0.mk H
                    clear H
                    have hnb55 := NB359_349.out
                    have hnc55 := NB349_359.out
                    have hnb56 := NB359_368.out
                    have hnc56 := NB368_359.out
                    have hcz57_0 : wc.cell? ⟨gb359, 0, none⟩ = some (.bool t351) := (blk_cell BK359.out 0).trans rfl
                    have hcz57_1 : wc.cell? ⟨gb359, 1, none⟩ = some (.int .i64 t352) := (blk_cell BK359.out 1).trans rfl
                    have hcz57_2 : wc.cell? ⟨gb359, 2, none⟩ = some (.int .i64 t353) := (blk_cell BK359.out 2).trans rfl
                    have hcz57_3 : wc.cell? ⟨gb359, 3, none⟩ = some (.int .i64 t354) := (blk_cell BK359.out 3).trans rfl
                    have hcz57_4 : wc.cell? ⟨gb359, 4, none⟩ = some (.int .i64 t355) := (blk_cell BK359.out 4).trans rfl
                    have hcz57_5 : wc.cell? ⟨gb359, 5, none⟩ = some (.int .i64 t356) := (blk_cell BK359.out 5).trans rfl
                    have hcz57_6 : wc.cell? ⟨gb359, 6, none⟩ = some (.int .i64 t357) := (blk_cell BK359.out 6).trans rfl
                    have hfz57_0 := blk_frozen BK359.out 0
                    have hfz57_1 := blk_frozen BK359.out 1
                    have hfz57_2 := blk_frozen BK359.out 2
                    have hfz57_3 := blk_frozen BK359.out 3
                    have hfz57_4 := blk_frozen BK359.out 4
                    have hfz57_5 := blk_frozen BK359.out 5
                    have hfz57_6 := blk_frozen BK359.out 6
                    go_wp2_with (first | (go_at_call 14; (with_reducible refine (impl_RulOk.calls t351 t352 t353 t354 t355 t356 t357 true _ A52.out).mono ?_); rintro e w58 ⟨rfl, hb⟩; have n0_ := bkB BK349 hb; have n1_ := bkB BK359 hb; have n2_ := bkB BK368 hb; have n3_ := Aside0.mk (below_step (bl HB) hb); clear BK349; clear BK359; clear BK368; clear HB; have BK349 := n0_; have BK359 := n1_; have BK368 := n2_; have HB := n3_; clear n0_ n1_ n2_ n3_; (try clear hb); (try clear hb2); (try clear hk); (try clear hi); have hcz59_0 : w58.cell? ⟨gb359, 0, none⟩ = some (.bool t351) := (blk_cell BK359.out 0).trans rfl; have hcz59_1 : w58.cell? ⟨gb359, 1, none⟩ = some (.int .i64 t352) := (blk_cell BK359.out 1).trans rfl; have hcz59_2 : w58.cell? ⟨gb359, 2, none⟩ = some (.int .i64 t353) := (blk_cell BK359.out 2).trans rfl; have hcz59_3 : w58.cell? ⟨gb359, 3, none⟩ = some (.int .i64 t354) := (blk_cell BK359.out 3).trans rfl; have hcz59_4 : w58.cell? ⟨gb359, 4, none⟩ = some (.int .i64 t355) := (blk_cell BK359.out 4).trans rfl; have hcz59_5 : w58.cell? ⟨gb359, 5, none⟩ = some (.int .i64 t356) := (blk_cell BK359.out 5).trans rfl; have hcz59_6 : w58.cell? ⟨gb359, 6, none⟩ = some (.int .i64 t357) := (blk_cell BK359.out 6).trans rfl; have hfz59_0 := blk_frozen BK359.out 0; have hfz59_1 := blk_frozen BK359.out 1; have hfz59_2 := blk_frozen BK359.out 2; have hfz59_3 := blk_frozen BK359.out 3; have hfz59_4 := blk_frozen BK359.out 4; have hfz59_5 := blk_frozen BK359.out 5; have hfz59_6 := blk_frozen BK359.out 6) | (go_at_call 8; (with_reducible refine (impl_RulText.calls t351 t352 t353 t354 t355 t356 t357 t374 _ A54.out (EnvT.below hE.t (bl HB))).mono ?_); rintro e w60 ⟨rfl, hb⟩; have n0_ := bkB BK349 hb; have n1_ := bkB BK359 hb; have n2_ := bkB BK368 hb; have n3_ := Aside0.mk (below_step (bl HB) hb); clear BK349; clear BK359; clear BK368; clear HB; have BK349 := n0_; have BK359 := n1_; have BK368 := n2_; have HB := n3_; clear n0_ n1_ n2_ n3_; (try clear hb); (try clear hb2); (try clear hk); (try clear hi)))
                    go_meet
                    case rel => exact ⟨_, ((t374.toList != t350.toList)), (by first | rfl | (simp; done) | (simp [*]; done)), H', ⟨by have := HJ2.out; have := HJ9.out; first | omega | exact Nat.le_refl _⟩, ⟨by (with_reducible repeat refine bu ?_); exact BK349.out⟩, ⟨by (with_reducible repeat refine bu ?_); exact BK359.out⟩, ⟨by (with_reducible repeat refine bu ?_); exact BK368.out⟩, ⟨by repeat (first | (with_reducible first | exact HB.out | apply below_alloc | apply pw_below_drewN | apply below_drew1 | refine below_set ?_ GE349.out | refine below_set ?_ GE359.out | refine below_set ?_ GE368.out) | exact HB.out)⟩⟩
                  · replace c53 := Bool.eq_false_iff.mpr c53
                    subst c53
                    have H1 : (laws_FnRulText.j2 kj9 true t342 t343 t344 t345 t346 t347 t348) = some r := by rw [if_neg (show ¬ (false = true) by decide)] at H; exact H
                    clear H
                    have H := H1
                    clear H1
                    have H' := Aside0.mk H
                    clear H
                    have hnb61 := NB359_349.out
                    have hnc61 := NB349_359.out
                    have hnb62 := NB359_368.out
                    have hnc62 := NB368_359.out
                    have hcz63_0 : wc.cell? ⟨gb359, 0, none⟩ = some (.bool t351) := (blk_cell BK359.out 0).trans rfl
                    have hcz63_1 : wc.cell? ⟨gb359, 1, none⟩ = some (.int .i64 t352) := (blk_cell BK359.out 1).trans rfl
                    have hcz63_2 : wc.cell? ⟨gb359, 2, none⟩ = some (.int .i64 t353) := (blk_cell BK359.out 2).trans rfl
                    have hcz63_3 : wc.cell? ⟨gb359, 3, none⟩ = some (.int .i64 t354) := (blk_cell BK359.out 3).trans rfl
                    have hcz63_4 : wc.cell? ⟨gb359, 4, none⟩ = some (.int .i64 t355) := (blk_cell BK359.out 4).trans rfl
                    have hcz63_5 : wc.cell? ⟨gb359, 5, none⟩ = some (.int .i64 t356) := (blk_cell BK359.out 5).trans rfl
                    have hcz63_6 : wc.cell? ⟨gb359, 6, none⟩ = some (.int .i64 t357) := (blk_cell BK359.out 6).trans rfl
                    have hfz63_0 := blk_frozen BK359.out 0
                    have hfz63_1 := blk_frozen BK359.out 1
                    have hfz63_2 := blk_frozen BK359.out 2
                    have hfz63_3 := blk_frozen BK359.out 3
                    have hfz63_4 := blk_frozen BK359.out 4
                    have hfz63_5 := blk_frozen BK359.out 5
                    have hfz63_6 := blk_frozen BK359.out 6
                    go_wp2_with (first | (go_at_call 14; (with_reducible refine (impl_RulOk.calls t351 t352 t353 t354 t355 t356 t357 false _ A52.out).mono ?_); rintro e w64 ⟨rfl, hb⟩; have n0_ := bkB BK349 hb; have n1_ := bkB BK359 hb; have n2_ := bkB BK368 hb; have n3_ := Aside0.mk (below_step (bl HB) hb); clear BK349; clear BK359; clear BK368; clear HB; have BK349 := n0_; have BK359 := n1_; have BK368 := n2_; have HB := n3_; clear n0_ n1_ n2_ n3_; (try clear hb); (try clear hb2); (try clear hk); (try clear hi)))
                    go_meet
                    case rel => exact ⟨_, (true), (by first | rfl | (simp; done) | (simp [*]; done)), H', ⟨by have := HJ2.out; have := HJ9.out; first | omega | exact Nat.le_refl _⟩, ⟨by (with_reducible repeat refine bu ?_); exact BK349.out⟩, ⟨by (with_reducible repeat refine bu ?_); exact BK359.out⟩, ⟨by (with_reducible repeat refine bu ?_); exact BK368.out⟩, ⟨by repeat (first | (with_reducible first | exact HB.out | apply below_alloc | apply pw_below_drewN | apply below_drew1 | refine below_set ?_ GE349.out | refine below_set ?_ GE359.out | refine below_set ?_ GE368.out) | exact HB.out)⟩⟩
                · replace c51 := Bool.eq_false_iff.mpr c51
                  subst c51
                  have H1 : (laws_FnRulText.j2 kj9 false t342 t343 t344 t345 t346 t347 t348) = some r := by rw [if_neg (show ¬ (false = true) by decide)] at H; exact H
                  clear H
                  have H := H1
                  clear H1
                  have H' := Aside0.mk H
                  clear H
                  go_wp2
                  go_meet
                  case rel => exact ⟨_, (false), (by first | rfl | (simp; done) | (simp [*]; done)), H', ⟨by have := HJ2.out; have := HJ9.out; first | omega | exact Nat.le_refl _⟩, ⟨by (with_reducible repeat refine bu ?_); exact BK349.out⟩, ⟨by (with_reducible repeat refine bu ?_); exact BK359.out⟩, ⟨by (with_reducible repeat refine bu ?_); exact BK368.out⟩, ⟨by repeat (first | (with_reducible first | exact HB.out | apply below_alloc | apply pw_below_drewN | apply below_drew1 | refine below_set ?_ GE349.out | refine below_set ?_ GE359.out | refine below_set ?_ GE368.out) | exact HB.out)⟩⟩
              case rest =>
                clear HC50
                try clear c1
                try clear c2
                try clear p2
                try clear c3
                try clear c4
                try clear c5
                try clear c6
                try clear c8
                try clear c14
                try clear c15
                try clear c26
                try clear c26b0
                try clear c26b1
                try clear c32
                try clear c32b0
                try clear c32b1
                try clear c32b2
                try clear c49
                try clear c51
                try clear c53
                try clear c55
                try clear c56
                try clear c61
                try clear c62
                try clear hcz57_0
                try clear hcz57_1
                try clear hcz57_2
                try clear hcz57_3
                try clear hcz57_4
                try clear hcz57_5
                try clear hcz57_6
                try clear hcz59_0
                try clear hcz59_1
                try clear hcz59_2
                try clear hcz59_3
                try clear hcz59_4
                try clear hcz59_5
                try clear hcz59_6
                try clear hcz63_0
                try clear hcz63_1
                try clear hcz63_2
                try clear hcz63_3
                try clear hcz63_4
                try clear hcz63_5
                try clear hcz63_6
                try clear hfz57_0
                try clear hfz57_1
                try clear hfz57_2
                try clear hfz57_3
                try clear hfz57_4
                try clear hfz57_5
                try clear hfz57_6
                try clear hfz59_0
                try clear hfz59_1
                try clear hfz59_2
                try clear hfz59_3
                try clear hfz59_4
                try clear hfz59_5
                try clear hfz59_6
                try clear hfz63_0
                try clear hfz63_1
                try clear hfz63_2
                try clear hfz63_3
                try clear hfz63_4
                try clear hfz63_5
                try clear hfz63_6
                try clear p2
                obtain ⟨kq, x68_49, rfl, HA, HJ49, BK349, BK359, BK368, HB⟩ := hcut
                cases kq with
                | zero => exact absurd HA.out (by simp [laws_FnRulText.j2])
                | succ kj49 =>
                  have H := HA.out
                  clear HA
                  simp only [laws_FnRulText.j2] at H
                  by_cases c65 : x68_49 = true
                  · subst c65
                    have H1 : (some false) = some r := by rw [if_pos rfl] at H; exact H
                    clear H
                    have H := H1
                    clear H1
                    exact absurd ((Option.some.inj H).trans hrt.out) (by decide)
                  · replace c65 := Bool.eq_false_iff.mpr c65
                    subst c65
                    have H1 : ((spec_RulOk.f t342 t343 t344 t345 t346 t347 t348).bind fun t375 => (if t375 = true then ((impl_RulText.f t342 t343 t344 t345 t346 t347 t348).bind fun t376 => ((impl_RulRead.f t376).bind fun bt377 => (if bt377.2.2.2.2.2.2.2 = true then (some (bt377.1 == t342 && (bt377.2.1 == t343 && (bt377.2.2.1 == t344 && (bt377.2.2.2.1 == t345 && (bt377.2.2.2.2.1 == t346 && (bt377.2.2.2.2.2.1 == t347 && (bt377.2.2.2.2.2.2.1 == t348)))))))) else (some false)))) else ((impl_RulText.f t342 t343 t344 t345 t346 t347 t348).bind fun t386 => (if t386.toList = ([] : List UInt8) then ((laws_haOk.f).bind fun t387 => (some t387)) else (some false))))) = some r := by rw [if_neg (show ¬ (false = true) by decide)] at H; exact H
                    clear H
                    have H := H1
                    clear H1
                    replace H := Option.bind_eq_some_iff.mp H
                    obtain ⟨t375, A660, H⟩ := H
                    replace H : (if t375 = true then ((impl_RulText.f t342 t343 t344 t345 t346 t347 t348).bind fun t376 => ((impl_RulRead.f t376).bind fun bt377 => (if bt377.2.2.2.2.2.2.2 = true then (some (bt377.1 == t342 && (bt377.2.1 == t343 && (bt377.2.2.1 == t344 && (bt377.2.2.2.1 == t345 && (bt377.2.2.2.2.1 == t346 && (bt377.2.2.2.2.2.1 == t347 && (bt377.2.2.2.2.2.2.1 == t348)))))))) else (some false)))) else ((impl_RulText.f t342 t343 t344 t345 t346 t347 t348).bind fun t386 => (if t386.toList = ([] : List UInt8) then ((laws_haOk.f).bind fun t387 => (some t387)) else (some false)))) = some r := H
                    have A66 := Aside0.mk A660
                    clear A660
                    by_cases c67 : t375 = true
                    · subst c67
                      have H1 : ((impl_RulText.f t342 t343 t344 t345 t346 t347 t348).bind fun t376 => ((impl_RulRead.f t376).bind fun bt377 => (if bt377.2.2.2.2.2.2.2 = true then (some (bt377.1 == t342 && (bt377.2.1 == t343 && (bt377.2.2.1 == t344 && (bt377.2.2.2.1 == t345 && (bt377.2.2.2.2.1 == t346 && (bt377.2.2.2.2.2.1 == t347 && (bt377.2.2.2.2.2.2.1 == t348)))))))) else (some false)))) = some r := by rw [if_pos rfl] at H; exact H
                      clear H
                      have H := H1
                      clear H1
                      replace H := Option.bind_eq_some_iff.mp H
                      obtain ⟨t376, A680, H⟩ := H
                      replace H : ((impl_RulRead.f t376).bind fun bt377 => (if bt377.2.2.2.2.2.2.2 = true then (some (bt377.1 == t342 && (bt377.2.1 == t343 && (bt377.2.2.1 == t344 && (bt377.2.2.2.1 == t345 && (bt377.2.2.2.2.1 == t346 && (bt377.2.2.2.2.2.1 == t347 && (bt377.2.2.2.2.2.2.1 == t348)))))))) else (some false))) = some r := H
                      have A68 := Aside0.mk A680
                      clear A680
                      replace H := Option.bind_eq_some_iff.mp H
                      obtain ⟨⟨t377, t378, t379, t380, t381, t382, t383, t384⟩, A690, H⟩ := H
                      replace H : (if t384 = true then (some (t377 == t342 && (t378 == t343 && (t379 == t344 && (t380 == t345 && (t381 == t346 && (t382 == t347 && (t383 == t348)))))))) else (some false)) = some r := H
                      have A69 := Aside0.mk A690
                      clear A690
                      by_cases c70 : t384 = true
                      · subst c70
                        have H1 : (some (t377 == t342 && (t378 == t343 && (t379 == t344 && (t380 == t345 && (t381 == t346 && (t382 == t347 && (t383 == t348)))))))) = some r := by rw [if_pos rfl] at H; exact H
                        clear H
                        have H := H1
                        clear H1
                        obtain rfl := Option.some.inj H
                        have hnb71 := NB349_359.out
                        have hnc71 := NB359_349.out
                        have hnb72 := NB349_368.out
                        have hnc72 := NB368_349.out
                        have hcz73_0 : wc.cell? ⟨gb349, 0, none⟩ = some (.bool t342) := (blk_cell BK349.out 0).trans rfl
                        have hcz73_1 : wc.cell? ⟨gb349, 1, none⟩ = some (.int .i64 t343) := (blk_cell BK349.out 1).trans rfl
                        have hcz73_2 : wc.cell? ⟨gb349, 2, none⟩ = some (.int .i64 t344) := (blk_cell BK349.out 2).trans rfl
                        have hcz73_3 : wc.cell? ⟨gb349, 3, none⟩ = some (.int .i64 t345) := (blk_cell BK349.out 3).trans rfl
                        have hcz73_4 : wc.cell? ⟨gb349, 4, none⟩ = some (.int .i64 t346) := (blk_cell BK349.out 4).trans rfl
                        have hcz73_5 : wc.cell? ⟨gb349, 5, none⟩ = some (.int .i64 t347) := (blk_cell BK349.out 5).trans rfl
                        have hcz73_6 : wc.cell? ⟨gb349, 6, none⟩ = some (.int .i64 t348) := (blk_cell BK349.out 6).trans rfl
                        have hfz73_0 := blk_frozen BK349.out 0
                        have hfz73_1 := blk_frozen BK349.out 1
                        have hfz73_2 := blk_frozen BK349.out 2
                        have hfz73_3 := blk_frozen BK349.out 3
                        have hfz73_4 := blk_frozen BK349.out 4
                        have hfz73_5 := blk_frozen BK349.out 5
                        have hfz73_6 := blk_frozen BK349.out 6
                        go_wp2_with (first | ((with_reducible refine gate_callee (f := 15) rfl ?_); refine goesL_ (some 70) rfl rfl Tryd.func15 (by kernel_rfl) rfl #[.agg #[.bool t342, .int .i64 t343, .int .i64 t344, .int .i64 t345, .int .i64 t346, .int .i64 t347, .int .i64 t348]] rfl (by (try simp only [List.map_toArray, List.map_cons, List.map_nil]); first | done | rfl | (simp only [List.length_drop, List.length_take]; rfl)) ?_; (with_reducible refine (spec_RulOk.calls t342 t343 t344 t345 t346 t347 t348 true _ A66.out).mono ?_); rintro e w74 ⟨rfl, hb⟩; refine ⟨_, rfl, ?_⟩; have n0_ := bkB BK349 hb; have n1_ := bkB BK359 hb; have n2_ := bkB BK368 hb; have n3_ := Aside0.mk (below_step (bl HB) hb); clear BK349; clear BK359; clear BK368; clear HB; have BK349 := n0_; have BK359 := n1_; have BK368 := n2_; have HB := n3_; clear n0_ n1_ n2_ n3_; (try clear hb); (try clear hb2); (try clear hk); (try clear hi); have hcz75_0 : w74.cell? ⟨gb349, 0, none⟩ = some (.bool t342) := (blk_cell BK349.out 0).trans rfl; have hcz75_1 : w74.cell? ⟨gb349, 1, none⟩ = some (.int .i64 t343) := (blk_cell BK349.out 1).trans rfl; have hcz75_2 : w74.cell? ⟨gb349, 2, none⟩ = some (.int .i64 t344) := (blk_cell BK349.out 2).trans rfl; have hcz75_3 : w74.cell? ⟨gb349, 3, none⟩ = some (.int .i64 t345) := (blk_cell BK349.out 3).trans rfl; have hcz75_4 : w74.cell? ⟨gb349, 4, none⟩ = some (.int .i64 t346) := (blk_cell BK349.out 4).trans rfl; have hcz75_5 : w74.cell? ⟨gb349, 5, none⟩ = some (.int .i64 t347) := (blk_cell BK349.out 5).trans rfl; have hcz75_6 : w74.cell? ⟨gb349, 6, none⟩ = some (.int .i64 t348) := (blk_cell BK349.out 6).trans rfl; have hfz75_0 := blk_frozen BK349.out 0; have hfz75_1 := blk_frozen BK349.out 1; have hfz75_2 := blk_frozen BK349.out 2; have hfz75_3 := blk_frozen BK349.out 3; have hfz75_4 := blk_frozen BK349.out 4; have hfz75_5 := blk_frozen BK349.out 5; have hfz75_6 := blk_frozen BK349.out 6) | ((with_reducible refine gate_callee (f := 8) rfl ?_); refine goesL_ (some 80) rfl rfl Tryd.func8 (by kernel_rfl) rfl #[.agg #[.bool t342, .int .i64 t343, .int .i64 t344, .int .i64 t345, .int .i64 t346, .int .i64 t347, .int .i64 t348]] rfl (by (try simp only [List.map_toArray, List.map_cons, List.map_nil]); first | done | rfl | (simp only [List.length_drop, List.length_take]; rfl)) ?_; (with_reducible refine (impl_RulText.calls t342 t343 t344 t345 t346 t347 t348 t376 _ A68.out (EnvT.below hE.t (bl HB))).mono ?_); rintro e w76 ⟨rfl, hb⟩; refine ⟨_, rfl, ?_⟩; have n0_ := bkB BK349 hb; have n1_ := bkB BK359 hb; have n2_ := bkB BK368 hb; have n3_ := Aside0.mk (below_step (bl HB) hb); clear BK349; clear BK359; clear BK368; clear HB; have BK349 := n0_; have BK359 := n1_; have BK368 := n2_; have HB := n3_; clear n0_ n1_ n2_ n3_; (try clear hb); (try clear hb2); (try clear hk); (try clear hi)) | ((with_reducible refine gate_callee (f := 10) rfl ?_); refine goesL_ (some 81) rfl rfl Tryd.func10 (by kernel_rfl) rfl #[.string t376] rfl (by (try simp only [List.map_toArray, List.map_cons, List.map_nil]); first | done | rfl | (simp only [List.length_drop, List.length_take]; rfl)) ?_; (with_reducible refine (impl_RulRead.calls t376 t377 t378 t379 t380 t381 t382 t383 true _ A69.out (Env.below hE (bl HB))).mono ?_); rintro e w77 ⟨rfl, hb⟩; refine ⟨_, rfl, ?_⟩; have n0_ := bkB BK349 hb; have n1_ := bkB BK359 hb; have n2_ := bkB BK368 hb; have n3_ := Aside0.mk (below_step (bl HB) hb); clear BK349; clear BK359; clear BK368; clear HB; have BK349 := n0_; have BK359 := n1_; have BK368 := n2_; have HB := n3_; clear n0_ n1_ n2_ n3_; (try clear hb); (try clear hb2); (try clear hk); (try clear hi)) | ((with_reducible refine gate_dst (N := 11) rfl ?_); refine box_event ?hg (N := 11) ?hd (cs := #[.bool false, .int .i64 0, .int .i64 0, .int .i64 0, .int .i64 0, .int .i64 0, .int .i64 0]) (t := 25) ?hr ?_; (case hd => rfl); (case hg => rfl); (case hr => first | (go_simp; done) | (go_simp; rfl)); intro gb385 hg w78 hbox hb; have n0_ := bkB BK349 hb; have n1_ := bkB BK359 hb; have n2_ := bkB BK368 hb; have n3_ := Aside0.mk (below_step (bl HB) hb); have n4_ := Aside0.mk (hbox); have n5_ := Aside0.mk ((by rw [hg]; exact (below_size (bl HB)) : w.heap.size ≤ gb385)); have n6_ := Aside0.mk ((by rw [hg]; exact (below_size (bl HB)) : w.heap.size ≤ gb385)); have n7_ := Aside0.mk ((by rw [hg]; exact Nat.ne_of_lt (bkL BK349) : gb349 ≠ gb385)); have n8_ := Aside0.mk ((by rw [hg]; exact Nat.ne_of_gt (bkL BK349) : gb385 ≠ gb349)); have n9_ := Aside0.mk ((by rw [hg]; exact Nat.ne_of_lt (bkL BK359) : gb359 ≠ gb385)); have n10_ := Aside0.mk ((by rw [hg]; exact Nat.ne_of_gt (bkL BK359) : gb385 ≠ gb359)); have n11_ := Aside0.mk ((by rw [hg]; exact Nat.ne_of_lt (bkL BK368) : gb368 ≠ gb385)); have n12_ := Aside0.mk ((by rw [hg]; exact Nat.ne_of_gt (bkL BK368) : gb385 ≠ gb368)); clear BK349; clear BK359; clear BK368; clear HB; have BK349 := n0_; have BK359 := n1_; have BK368 := n2_; have HB := n3_; have BK385 := n4_; have GW385 := n5_; have GE385 := n6_; have NB349_385 := n7_; have NB385_349 := n8_; have NB359_385 := n9_; have NB385_359 := n10_; have NB368_385 := n11_; have NB385_368 := n12_; clear n0_ n1_ n2_ n3_ n4_ n5_ n6_ n7_ n8_ n9_ n10_ n11_ n12_; clear hb hbox hg; have hnb79 := NB385_349.out; have hnc79 := NB349_385.out; have hnb80 := NB385_359.out; have hnc80 := NB359_385.out; have hnb81 := NB385_368.out; have hnc81 := NB368_385.out; have hcz82_0 : w78.cell? ⟨gb385, 0, none⟩ = some (.bool false) := (blk_cell BK385.out 0).trans rfl; have hcz82_1 : w78.cell? ⟨gb385, 1, none⟩ = some (.int .i64 0) := (blk_cell BK385.out 1).trans rfl; have hcz82_2 : w78.cell? ⟨gb385, 2, none⟩ = some (.int .i64 0) := (blk_cell BK385.out 2).trans rfl; have hcz82_3 : w78.cell? ⟨gb385, 3, none⟩ = some (.int .i64 0) := (blk_cell BK385.out 3).trans rfl; have hcz82_4 : w78.cell? ⟨gb385, 4, none⟩ = some (.int .i64 0) := (blk_cell BK385.out 4).trans rfl; have hcz82_5 : w78.cell? ⟨gb385, 5, none⟩ = some (.int .i64 0) := (blk_cell BK385.out 5).trans rfl; have hcz82_6 : w78.cell? ⟨gb385, 6, none⟩ = some (.int .i64 0) := (blk_cell BK385.out 6).trans rfl; have hfz82_0 := blk_frozen BK385.out 0; have hfz82_1 := blk_frozen BK385.out 1; have hfz82_2 := blk_frozen BK385.out 2; have hfz82_3 := blk_frozen BK385.out 3; have hfz82_4 := blk_frozen BK385.out 4; have hfz82_5 := blk_frozen BK385.out 5; have hfz82_6 := blk_frozen BK385.out 6; have hcz83_0 : w78.cell? ⟨gb349, 0, none⟩ = some (.bool t342) := (blk_cell BK349.out 0).trans rfl; have hcz83_1 : w78.cell? ⟨gb349, 1, none⟩ = some (.int .i64 t343) := (blk_cell BK349.out 1).trans rfl; have hcz83_2 : w78.cell? ⟨gb349, 2, none⟩ = some (.int .i64 t344) := (blk_cell BK349.out 2).trans rfl; have hcz83_3 : w78.cell? ⟨gb349, 3, none⟩ = some (.int .i64 t345) := (blk_cell BK349.out 3).trans rfl; have hcz83_4 : w78.cell? ⟨gb349, 4, none⟩ = some (.int .i64 t346) := (blk_cell BK349.out 4).trans rfl; have hcz83_5 : w78.cell? ⟨gb349, 5, none⟩ = some (.int .i64 t347) := (blk_cell BK349.out 5).trans rfl; have hcz83_6 : w78.cell? ⟨gb349, 6, none⟩ = some (.int .i64 t348) := (blk_cell BK349.out 6).trans rfl; have hfz83_0 := blk_frozen BK349.out 0; have hfz83_1 := blk_frozen BK349.out 1; have hfz83_2 := blk_frozen BK349.out 2; have hfz83_3 := blk_frozen BK349.out 3; have hfz83_4 := blk_frozen BK349.out 4; have hfz83_5 := blk_frozen BK349.out 5; have hfz83_6 := blk_frozen BK349.out 6))
                        go_ret
                        exact ⟨by first | rfl | (simp [errW_none, errW_some] <;> rfl) | (simp [*, errW_none, errW_some] <;> rfl), by repeat (first | (with_reducible first | exact HB.out | apply below_alloc | apply pw_below_drewN | apply below_drew1 | refine below_set ?_ GE349.out | refine below_set ?_ GE359.out | refine below_set ?_ GE368.out | refine below_set ?_ GE385.out) | exact HB.out)⟩
                      · replace c70 := Bool.eq_false_iff.mpr c70
                        subst c70
                        have H1 : (some false) = some r := by rw [if_neg (show ¬ (false = true) by decide)] at H; exact H
                        clear H
                        have H := H1
                        clear H1
                        exact absurd ((Option.some.inj H).trans hrt.out) (by decide)
                    · replace c67 := Bool.eq_false_iff.mpr c67
                      subst c67
                      have H1 : ((impl_RulText.f t342 t343 t344 t345 t346 t347 t348).bind fun t386 => (if t386.toList = ([] : List UInt8) then ((laws_haOk.f).bind fun t387 => (some t387)) else (some false))) = some r := by rw [if_neg (show ¬ (false = true) by decide)] at H; exact H
                      clear H
                      have H := H1
                      clear H1
                      replace H := Option.bind_eq_some_iff.mp H
                      obtain ⟨t386, A840, H⟩ := H
                      replace H : (if t386.toList = ([] : List UInt8) then ((laws_haOk.f).bind fun t387 => (some t387)) else (some false)) = some r := H
                      have A84 := Aside0.mk A840
                      clear A840
                      by_cases c85 : t386.toList = ([] : List UInt8)
                      · rw [if_pos c85] at H
                        have c85b0 : (t386.toList == ([] : List UInt8)) = true := beq_iff_eq.mpr c85
                        have c85b1 : (t386.toList != ([] : List UInt8)) = false := bne_eq_false_iff_eq.mpr c85
                        clear c85
                        replace H := Option.bind_eq_some_iff.mp H
                        obtain ⟨t387, A860, H⟩ := H
                        replace H : (some t387) = some r := H
                        have A86 := Aside0.mk A860
                        clear A860
                        obtain rfl := Option.some.inj H
                        have hnb87 := NB349_359.out
                        have hnc87 := NB359_349.out
                        have hnb88 := NB349_368.out
                        have hnc88 := NB368_349.out
                        have hcz89_0 : wc.cell? ⟨gb349, 0, none⟩ = some (.bool t342) := (blk_cell BK349.out 0).trans rfl
                        have hcz89_1 : wc.cell? ⟨gb349, 1, none⟩ = some (.int .i64 t343) := (blk_cell BK349.out 1).trans rfl
                        have hcz89_2 : wc.cell? ⟨gb349, 2, none⟩ = some (.int .i64 t344) := (blk_cell BK349.out 2).trans rfl
                        have hcz89_3 : wc.cell? ⟨gb349, 3, none⟩ = some (.int .i64 t345) := (blk_cell BK349.out 3).trans rfl
                        have hcz89_4 : wc.cell? ⟨gb349, 4, none⟩ = some (.int .i64 t346) := (blk_cell BK349.out 4).trans rfl
                        have hcz89_5 : wc.cell? ⟨gb349, 5, none⟩ = some (.int .i64 t347) := (blk_cell BK349.out 5).trans rfl
                        have hcz89_6 : wc.cell? ⟨gb349, 6, none⟩ = some (.int .i64 t348) := (blk_cell BK349.out 6).trans rfl
                        have hfz89_0 := blk_frozen BK349.out 0
                        have hfz89_1 := blk_frozen BK349.out 1
                        have hfz89_2 := blk_frozen BK349.out 2
                        have hfz89_3 := blk_frozen BK349.out 3
                        have hfz89_4 := blk_frozen BK349.out 4
                        have hfz89_5 := blk_frozen BK349.out 5
                        have hfz89_6 := blk_frozen BK349.out 6
                        go_wp2_with (first | ((with_reducible refine gate_callee (f := 15) rfl ?_); refine goesL_ (some 70) rfl rfl Tryd.func15 (by kernel_rfl) rfl #[.agg #[.bool t342, .int .i64 t343, .int .i64 t344, .int .i64 t345, .int .i64 t346, .int .i64 t347, .int .i64 t348]] rfl (by (try simp only [List.map_toArray, List.map_cons, List.map_nil]); first | done | rfl | (simp only [List.length_drop, List.length_take]; rfl)) ?_; (with_reducible refine (spec_RulOk.calls t342 t343 t344 t345 t346 t347 t348 false _ A66.out).mono ?_); rintro e w90 ⟨rfl, hb⟩; refine ⟨_, rfl, ?_⟩; have n0_ := bkB BK349 hb; have n1_ := bkB BK359 hb; have n2_ := bkB BK368 hb; have n3_ := Aside0.mk (below_step (bl HB) hb); clear BK349; clear BK359; clear BK368; clear HB; have BK349 := n0_; have BK359 := n1_; have BK368 := n2_; have HB := n3_; clear n0_ n1_ n2_ n3_; (try clear hb); (try clear hb2); (try clear hk); (try clear hi); have hcz91_0 : w90.cell? ⟨gb349, 0, none⟩ = some (.bool t342) := (blk_cell BK349.out 0).trans rfl; have hcz91_1 : w90.cell? ⟨gb349, 1, none⟩ = some (.int .i64 t343) := (blk_cell BK349.out 1).trans rfl; have hcz91_2 : w90.cell? ⟨gb349, 2, none⟩ = some (.int .i64 t344) := (blk_cell BK349.out 2).trans rfl; have hcz91_3 : w90.cell? ⟨gb349, 3, none⟩ = some (.int .i64 t345) := (blk_cell BK349.out 3).trans rfl; have hcz91_4 : w90.cell? ⟨gb349, 4, none⟩ = some (.int .i64 t346) := (blk_cell BK349.out 4).trans rfl; have hcz91_5 : w90.cell? ⟨gb349, 5, none⟩ = some (.int .i64 t347) := (blk_cell BK349.out 5).trans rfl; have hcz91_6 : w90.cell? ⟨gb349, 6, none⟩ = some (.int .i64 t348) := (blk_cell BK349.out 6).trans rfl; have hfz91_0 := blk_frozen BK349.out 0; have hfz91_1 := blk_frozen BK349.out 1; have hfz91_2 := blk_frozen BK349.out 2; have hfz91_3 := blk_frozen BK349.out 3; have hfz91_4 := blk_frozen BK349.out 4; have hfz91_5 := blk_frozen BK349.out 5; have hfz91_6 := blk_frozen BK349.out 6) | ((with_reducible refine gate_callee (f := 8) rfl ?_); refine goesL_ (some 73) rfl rfl Tryd.func8 (by kernel_rfl) rfl #[.agg #[.bool t342, .int .i64 t343, .int .i64 t344, .int .i64 t345, .int .i64 t346, .int .i64 t347, .int .i64 t348]] rfl (by (try simp only [List.map_toArray, List.map_cons, List.map_nil]); first | done | rfl | (simp only [List.length_drop, List.length_take]; rfl)) ?_; (with_reducible refine (impl_RulText.calls t342 t343 t344 t345 t346 t347 t348 t386 _ A84.out (EnvT.below hE.t (bl HB))).mono ?_); rintro e w92 ⟨rfl, hb⟩; refine ⟨_, rfl, ?_⟩; have n0_ := bkB BK349 hb; have n1_ := bkB BK359 hb; have n2_ := bkB BK368 hb; have n3_ := Aside0.mk (below_step (bl HB) hb); clear BK349; clear BK359; clear BK368; clear HB; have BK349 := n0_; have BK359 := n1_; have BK368 := n2_; have HB := n3_; clear n0_ n1_ n2_ n3_; (try clear hb); (try clear hb2); (try clear hk); (try clear hi)) | (go_at_call 16; (with_reducible refine (laws_haOk.calls  t387 _ A86.out).mono ?_); rintro e w93 ⟨rfl, hb⟩; have n0_ := bkB BK349 hb; have n1_ := bkB BK359 hb; have n2_ := bkB BK368 hb; have n3_ := Aside0.mk (below_step (bl HB) hb); clear BK349; clear BK359; clear BK368; clear HB; have BK349 := n0_; have BK359 := n1_; have BK368 := n2_; have HB := n3_; clear n0_ n1_ n2_ n3_; (try clear hb); (try clear hb2); (try clear hk); (try clear hi)))
                        go_ret
                        exact ⟨by first | rfl | (simp [errW_none, errW_some] <;> rfl) | (simp [*, errW_none, errW_some] <;> rfl), by repeat (first | (with_reducible first | exact HB.out | apply below_alloc | apply pw_below_drewN | apply below_drew1 | refine below_set ?_ GE349.out | refine below_set ?_ GE359.out | refine below_set ?_ GE368.out) | exact HB.out)⟩
                      · rw [if_neg c85] at H
                        have c85b0 : (t386.toList == ([] : List UInt8)) = false := beq_eq_false_iff_ne.mpr c85
                        have c85b1 : (t386.toList != ([] : List UInt8)) = true := bne_iff_ne.mpr c85
                        exact absurd ((Option.some.inj H).trans hrt.out) (by decide)

/-- THE ONE PURE STATEMENT of laws_FnRulText: yours. -/
def laws_FnRulText.Pure : Prop := ∀ (l0 : List Int) (l1 : List Int), l0.length ≤ maxLen → l0.length * 1 ≤ 140737488351232 → (∀ x ∈ l0, (Lit.int .u8 x).wf = true) → l1.length ≤ maxLen → l1.length * 1 ≤ 140737488351232 → (∀ x ∈ l1, (Lit.int .u8 x).wf = true) → ∃ k, laws_FnRulText.f k l0 l1 = some true
theorem laws_FnRulText.walk (P : laws_FnRulText.Pure) (a0 : Option Addr) (len0 cap0 : Nat) (z0 : List Int) (a1 : Option Addr) (len1 cap1 : Nat) (z1 : List Int) (w : World) (w0 : (a0 = none ∧ len0 = 0 ∧ cap0 = 0 ∧ z0 = []) ∨ ∃ x, a0 = some x ∧ len0 ≤ cap0 ∧ cap0 ≤ maxLen ∧ z0.length = cap0 ∧ (∀ i, i < z0.length → w.cell? (x.add i) = some (.int .u8 (z0.getD i 0))) ∧ ∀ n ∈ z0, (Lit.int .u8 n).wf = true) (y0 : len0 * 1 ≤ 140737488351232) (w1 : (a1 = none ∧ len1 = 0 ∧ cap1 = 0 ∧ z1 = []) ∨ ∃ x, a1 = some x ∧ len1 ≤ cap1 ∧ cap1 ≤ maxLen ∧ z1.length = cap1 ∧ (∀ i, i < z1.length → w.cell? (x.add i) = some (.int .u8 (z1.getD i 0))) ∧ ∀ n ∈ z1, (Lit.int .u8 n).wf = true) (y1 : len1 * 1 ≤ 140737488351232) (hE : Env w) :
    Calls Tryd.prog 5 #[.slice a0 len0 cap0, .slice a1 len1 cap1] w fun e w' => e = .returned (.bool true) ∧ Below w.heap.size w w' := by
  obtain ⟨l0, rfl, hr0, hm0, hw0, hc0⟩ := ReadsInt.ofRowC w0
  obtain ⟨l1, rfl, hr1, hm1, hw1, hc1⟩ := ReadsInt.ofRowC w1
  obtain ⟨k, h⟩ := P l0 l1 hm0 y0 hw0 hm1 y1 hw1
  refine (laws_FnRulText.calls k _ _ l0 _ _ l1 true w (Kd.C_of_reads (d := (0 : Int)) (h1 := fun _ => rfl) hr0) hc0 (Kd.C_of_reads (d := (0 : Int)) (h1 := fun _ => rfl) hr1) hc1 h ⟨rfl⟩ hE).mono ?_
  rintro e w' ⟨rfl, hd⟩
  exact ⟨rfl, hd⟩

end Go.Proofs.YtiocgkggegahhaaDoor.P
