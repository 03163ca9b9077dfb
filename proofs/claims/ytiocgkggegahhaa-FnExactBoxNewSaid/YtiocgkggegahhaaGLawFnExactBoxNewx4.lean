import Derived.Test.YtiocgkggegahhaaGLawFnExactBoxNewx3
-- written by hw.py for this claim
namespace Go.Proofs.Ytiocgkggegahhaa.P
open Go.RowKit Go.Proofs.YtiocgkggegahhaaUFnExactBoxNew.PrintWords Go.Proofs.YtiocgkggegahhaaUFnExactBoxNew.PrintLast Go.Proofs.YtiocgkggegahhaaUFnExactBoxNew.PrintMore
attribute [local go_sem] max2_int min2_int max_two min_two max_three min_three max_four min_four
set_option linter.unusedVariables false
set_option linter.unusedSimpArgs false

/-! ### laws_markBoxConnS: function 79 -/
def laws_markBoxConnS.l0 : Nat → List (S119) → Int → Int → Option (Int × (List (S119)))
  | 0, _, _, _ => none
  | k + 1, x0, x1, x5 => if x5 < (x0.length : Int) then (if 0 ≤ x5 then ((some (x0.set (x5 : Int).toNat (⟨(⟨x1, (rd_T119 x0 x5).f0.f1⟩ : S29), (⟨(rd_T119 x0 x5).f1.f0, (rd_T119 x0 x5).f1.f1⟩ : S29), (rd_T119 x0 x5).f2, (rd_T119 x0 x5).f3, (rd_T119 x0 x5).f4⟩ : S119) : List (S119))).bind fun y866 => ((some (y866.set (x5 : Int).toNat (⟨(⟨(rd_T119 y866 x5).f0.f0, wrap64 (x1 + 1)⟩ : S29), (⟨(rd_T119 y866 x5).f1.f0, (rd_T119 y866 x5).f1.f1⟩ : S29), (rd_T119 y866 x5).f2, (rd_T119 y866 x5).f3, (rd_T119 y866 x5).f4⟩ : S119) : List (S119))).bind fun y867 => ((some (y867.set (x5 : Int).toNat (⟨(⟨(rd_T119 y867 x5).f0.f0, (rd_T119 y867 x5).f0.f1⟩ : S29), (⟨wrap64 ((wrap64 (x1 + 1)) + 1), (rd_T119 y867 x5).f1.f1⟩ : S29), (rd_T119 y867 x5).f2, (rd_T119 y867 x5).f3, (rd_T119 y867 x5).f4⟩ : S119) : List (S119))).bind fun y868 => ((some (y868.set (x5 : Int).toNat (⟨(⟨(rd_T119 y868 x5).f0.f0, (rd_T119 y868 x5).f0.f1⟩ : S29), (⟨(rd_T119 y868 x5).f1.f0, wrap64 ((wrap64 ((wrap64 (x1 + 1)) + 1)) + 1)⟩ : S29), (rd_T119 y868 x5).f2, (rd_T119 y868 x5).f3, (rd_T119 y868 x5).f4⟩ : S119) : List (S119))).bind fun y869 => ((laws_markText.f k (wrap64 ((wrap64 ((wrap64 ((wrap64 (x1 + 1)) + 1)) + 1)) + 1))).bind fun t870 => ((some (y869.set (x5 : Int).toNat (⟨(⟨(rd_T119 y869 x5).f0.f0, (rd_T119 y869 x5).f0.f1⟩ : S29), (⟨(rd_T119 y869 x5).f1.f0, (rd_T119 y869 x5).f1.f1⟩ : S29), t870, (rd_T119 y869 x5).f3, (rd_T119 y869 x5).f4⟩ : S119) : List (S119))).bind fun y871 => ((laws_markText.f k (wrap64 ((wrap64 ((wrap64 ((wrap64 ((wrap64 (x1 + 1)) + 1)) + 1)) + 1)) + 1))).bind fun t872 => ((some (y871.set (x5 : Int).toNat (⟨(⟨(rd_T119 y871 x5).f0.f0, (rd_T119 y871 x5).f0.f1⟩ : S29), (⟨(rd_T119 y871 x5).f1.f0, (rd_T119 y871 x5).f1.f1⟩ : S29), (rd_T119 y871 x5).f2, t872, (rd_T119 y871 x5).f4⟩ : S119) : List (S119))).bind fun y873 => ((laws_markText.f k (wrap64 ((wrap64 ((wrap64 ((wrap64 ((wrap64 ((wrap64 (x1 + 1)) + 1)) + 1)) + 1)) + 1)) + 1))).bind fun t874 => (laws_markBoxConnS.l0 k (y873.set (x5 : Int).toNat (⟨(⟨(rd_T119 y873 x5).f0.f0, (rd_T119 y873 x5).f0.f1⟩ : S29), (⟨(rd_T119 y873 x5).f1.f0, (rd_T119 y873 x5).f1.f1⟩ : S29), (rd_T119 y873 x5).f2, (rd_T119 y873 x5).f3, t874⟩ : S119)) (wrap64 ((wrap64 ((wrap64 ((wrap64 ((wrap64 ((wrap64 ((wrap64 (x1 + 1)) + 1)) + 1)) + 1)) + 1)) + 1)) + 1)) (wrap64 (x5 + 1)))))))))))) else (none)) else (some (x1, x0))
def laws_markBoxConnS.f (k : Nat) (l0 : List (S119)) (a1 : Int) : Option (Int × (List (S119))) := laws_markBoxConnS.l0 k l0 a1 0
theorem laws_markBoxConnS.mono_l : ∀ k, (∀ y0 y1 y2, LeO (laws_markBoxConnS.l0 k y0 y1 y2) (laws_markBoxConnS.l0 (k + 1) y0 y1 y2))
  | 0 => fun _ _ _ r h => by simp [laws_markBoxConnS.l0] at h
  | k + 1 => by
    have ih0 := laws_markBoxConnS.mono_l k
    · intro y0 y1 y2
      unfold laws_markBoxConnS.l0
      repeat' first
      | (with_reducible exact ih0 _ _ _)
      | (with_reducible exact laws_markText.mono _ _)
      | (with_reducible exact LeO.refl _)
      | (with_reducible exact LeO.none _)
      | (with_reducible refine LeO.ite ?_ ?_)
      | (with_reducible refine LeO.bind ?_ (fun _ => ?_))
      | exact ih0 _ _ _
      | exact laws_markText.mono _ _
      | exact LeO.none _
      | refine LeO.ite ?_ ?_
      | refine LeO.bind ?_ (fun _ => ?_)
theorem laws_markBoxConnS.mono : ∀ a0 a1 k, LeO (laws_markBoxConnS.f k a0 a1) (laws_markBoxConnS.f (k + 1) a0 a1) := by
  intro a0 a1 k
  have ih0 := laws_markBoxConnS.mono_l k
  unfold laws_markBoxConnS.f
  repeat' first
      | (with_reducible exact ih0 _ _ _)
      | (with_reducible exact laws_markText.mono _ _)
      | (with_reducible exact LeO.refl _)
      | (with_reducible exact LeO.none _)
      | (with_reducible refine LeO.ite ?_ ?_)
      | (with_reducible refine LeO.bind ?_ (fun _ => ?_))
      | exact ih0 _ _ _
      | exact laws_markText.mono _ _
      | exact LeO.none _
      | refine LeO.ite ?_ ?_
      | refine LeO.bind ?_ (fun _ => ?_)
set_option maxHeartbeats 8000000 in
set_option maxRecDepth 100000 in
theorem laws_markBoxConnS.calls (k : Nat) (P0_ : Nat → Prop) (u9000_ : Value) (l0 : List (S119)) (a1 : Int) (r1 : Int) (r2 : List (S119)) (w0 w : World) (hB : Below w0.heap.size w0 w) (ho0 : Kd.R k119 119 w w0.heap.size P0_ u9000_ l0) (h : laws_markBoxConnS.f k l0 a1 = some (r1, r2)) :
    Calls Try.prog 79 #[u9000_, .int .i64 a1] w fun e w' => e = .returned (.int .i64 r1) ∧ Kd.R k119 119 w' w0.heap.size (fun k_ => (P0_ k_ ∨ w.heap.size ≤ k_)) u9000_ r2 ∧ Below w0.heap.size w0 w' ∧ Kept w w' (fun k_ => P0_ k_) := by
  have HO0 := Aside0.mk (show Kd.R k119 119 w w0.heap.size (fun k_ => (P0_ k_ ∨ w.heap.size ≤ k_)) u9000_ l0 from Kd.R_mono ho0 (fun k_ hk => (.inl hk)))
  have HK := Aside0.mk (Kept.refl w (fun k_ => P0_ k_))
  have HW0 := Aside0.mk hB.size
  have HB := Aside0.mk hB
  clear hB
  have H : (laws_markBoxConnS.l0 k l0 a1 0) = some (r1, r2) := h
  clear h
  have H' := Aside0.mk H
  clear H
  go_enter Try.func79, Try.ntmps79
  go_wp2
  go_loopg [1, 5] k (fun kq v1 v5 w' => ∃ (x0_1 : List (S119)) (x1_1 : Int) (x5_1 : Int), v1 = .int .i64 x1_1 ∧ v5 = .int .i64 x5_1 ∧ Aside0 (laws_markBoxConnS.l0 kq x0_1 x1_1 x5_1 = some (r1, r2)) ∧ Aside0 (kq ≤ k) ∧ Aside0 (Kd.R k119 119 w' w0.heap.size (fun k_ => (P0_ k_ ∨ w.heap.size ≤ k_)) u9000_ x0_1) ∧ Aside0 (Kept w w' (fun k_ => P0_ k_)) ∧ Aside0 (Below w0.heap.size w0 w'))
  case atStart => exact ⟨(l0), (a1), (0), (by first | rfl | (simp; done) | (simp [*]; done)), (by first | rfl | (simp; done) | (simp [*]; done)), H', ⟨Nat.le_refl _⟩, ⟨by (with_reducible repeat apply ru); exact HO0.out⟩, ⟨by repeat (first | (with_reducible first | exact HK.out | apply Kept.alloc | apply Kept.drewN | apply Kept.drew) | exact HK.out)⟩, ⟨by repeat (first | (with_reducible first | exact HB.out | apply below_alloc | apply pw_below_drewN | apply below_drew1) | exact HB.out)⟩⟩
  case round =>
    clear H'
    try clear p2
    obtain ⟨x0_1, x1_1, x5_1, rfl, rfl, HA, HK1, HO_0, HK, HB⟩ := hrel
    cases gk with
    | zero => exact absurd HA.out (by simp [laws_markBoxConnS.l0])
    | succ k1 =>
      have H := HA.out
      clear HA
      simp only [laws_markBoxConnS.l0] at H
      by_cases c3 : x5_1 < (x0_1.length : Int)
      · rw [if_pos c3] at H
        have c3b0 : decide (x5_1 < (x0_1.length : Int)) = true := decide_eq_true c3
        clear c3
        by_cases c4 : 0 ≤ x5_1
        · rw [if_pos c4] at H
          have c4b0 : decide (0 ≤ x5_1) = true := decide_eq_true c4
          clear c4
          obtain ⟨y866, hy866⟩ : ∃ y_ : List (S119), y_ = (x0_1.set (x5_1 : Int).toNat (⟨(⟨x1_1, (rd_T119 x0_1 x5_1).f0.f1⟩ : S29), (⟨(rd_T119 x0_1 x5_1).f1.f0, (rd_T119 x0_1 x5_1).f1.f1⟩ : S29), (rd_T119 x0_1 x5_1).f2, (rd_T119 x0_1 x5_1).f3, (rd_T119 x0_1 x5_1).f4⟩ : S119)) := ⟨_, rfl⟩
          replace H : ((some (y866.set (x5_1 : Int).toNat (⟨(⟨(rd_T119 y866 x5_1).f0.f0, wrap64 (x1_1 + 1)⟩ : S29), (⟨(rd_T119 y866 x5_1).f1.f0, (rd_T119 y866 x5_1).f1.f1⟩ : S29), (rd_T119 y866 x5_1).f2, (rd_T119 y866 x5_1).f3, (rd_T119 y866 x5_1).f4⟩ : S119) : List (S119))).bind fun y867 => ((some (y867.set (x5_1 : Int).toNat (⟨(⟨(rd_T119 y867 x5_1).f0.f0, (rd_T119 y867 x5_1).f0.f1⟩ : S29), (⟨wrap64 ((wrap64 (x1_1 + 1)) + 1), (rd_T119 y867 x5_1).f1.f1⟩ : S29), (rd_T119 y867 x5_1).f2, (rd_T119 y867 x5_1).f3, (rd_T119 y867 x5_1).f4⟩ : S119) : List (S119))).bind fun y868 => ((some (y868.set (x5_1 : Int).toNat (⟨(⟨(rd_T119 y868 x5_1).f0.f0, (rd_T119 y868 x5_1).f0.f1⟩ : S29), (⟨(rd_T119 y868 x5_1).f1.f0, wrap64 ((wrap64 ((wrap64 (x1_1 + 1)) + 1)) + 1)⟩ : S29), (rd_T119 y868 x5_1).f2, (rd_T119 y868 x5_1).f3, (rd_T119 y868 x5_1).f4⟩ : S119) : List (S119))).bind fun y869 => ((laws_markText.f k1 (wrap64 ((wrap64 ((wrap64 ((wrap64 (x1_1 + 1)) + 1)) + 1)) + 1))).bind fun t870 => ((some (y869.set (x5_1 : Int).toNat (⟨(⟨(rd_T119 y869 x5_1).f0.f0, (rd_T119 y869 x5_1).f0.f1⟩ : S29), (⟨(rd_T119 y869 x5_1).f1.f0, (rd_T119 y869 x5_1).f1.f1⟩ : S29), t870, (rd_T119 y869 x5_1).f3, (rd_T119 y869 x5_1).f4⟩ : S119) : List (S119))).bind fun y871 => ((laws_markText.f k1 (wrap64 ((wrap64 ((wrap64 ((wrap64 ((wrap64 (x1_1 + 1)) + 1)) + 1)) + 1)) + 1))).bind fun t872 => ((some (y871.set (x5_1 : Int).toNat (⟨(⟨(rd_T119 y871 x5_1).f0.f0, (rd_T119 y871 x5_1).f0.f1⟩ : S29), (⟨(rd_T119 y871 x5_1).f1.f0, (rd_T119 y871 x5_1).f1.f1⟩ : S29), (rd_T119 y871 x5_1).f2, t872, (rd_T119 y871 x5_1).f4⟩ : S119) : List (S119))).bind fun y873 => ((laws_markText.f k1 (wrap64 ((wrap64 ((wrap64 ((wrap64 ((wrap64 ((wrap64 (x1_1 + 1)) + 1)) + 1)) + 1)) + 1)) + 1))).bind fun t874 => (laws_markBoxConnS.l0 k1 (y873.set (x5_1 : Int).toNat (⟨(⟨(rd_T119 y873 x5_1).f0.f0, (rd_T119 y873 x5_1).f0.f1⟩ : S29), (⟨(rd_T119 y873 x5_1).f1.f0, (rd_T119 y873 x5_1).f1.f1⟩ : S29), (rd_T119 y873 x5_1).f2, (rd_T119 y873 x5_1).f3, t874⟩ : S119)) (wrap64 ((wrap64 ((wrap64 ((wrap64 ((wrap64 ((wrap64 ((wrap64 (x1_1 + 1)) + 1)) + 1)) + 1)) + 1)) + 1)) + 1)) (wrap64 (x5_1 + 1))))))))))) = some (r1, r2) := by first | (rw [hy866]; with_reducible exact H) | (have H2_ := (Option.bind_some _ _).symm.trans H; rw [hy866]; with_reducible exact H2_) | (have H2_ := (Option.bind_some _ _).symm.trans H; with_reducible exact H2_) | with_reducible exact H | (rw [hy866]; exact H) | exact H
          have Ny866 := Aside0.mk hy866
          clear hy866
          obtain ⟨y867, hy867⟩ : ∃ y_ : List (S119), y_ = (y866.set (x5_1 : Int).toNat (⟨(⟨(rd_T119 y866 x5_1).f0.f0, wrap64 (x1_1 + 1)⟩ : S29), (⟨(rd_T119 y866 x5_1).f1.f0, (rd_T119 y866 x5_1).f1.f1⟩ : S29), (rd_T119 y866 x5_1).f2, (rd_T119 y866 x5_1).f3, (rd_T119 y866 x5_1).f4⟩ : S119)) := ⟨_, rfl⟩
          replace H : ((some (y867.set (x5_1 : Int).toNat (⟨(⟨(rd_T119 y867 x5_1).f0.f0, (rd_T119 y867 x5_1).f0.f1⟩ : S29), (⟨wrap64 ((wrap64 (x1_1 + 1)) + 1), (rd_T119 y867 x5_1).f1.f1⟩ : S29), (rd_T119 y867 x5_1).f2, (rd_T119 y867 x5_1).f3, (rd_T119 y867 x5_1).f4⟩ : S119) : List (S119))).bind fun y868 => ((some (y868.set (x5_1 : Int).toNat (⟨(⟨(rd_T119 y868 x5_1).f0.f0, (rd_T119 y868 x5_1).f0.f1⟩ : S29), (⟨(rd_T119 y868 x5_1).f1.f0, wrap64 ((wrap64 ((wrap64 (x1_1 + 1)) + 1)) + 1)⟩ : S29), (rd_T119 y868 x5_1).f2, (rd_T119 y868 x5_1).f3, (rd_T119 y868 x5_1).f4⟩ : S119) : List (S119))).bind fun y869 => ((laws_markText.f k1 (wrap64 ((wrap64 ((wrap64 ((wrap64 (x1_1 + 1)) + 1)) + 1)) + 1))).bind fun t870 => ((some (y869.set (x5_1 : Int).toNat (⟨(⟨(rd_T119 y869 x5_1).f0.f0, (rd_T119 y869 x5_1).f0.f1⟩ : S29), (⟨(rd_T119 y869 x5_1).f1.f0, (rd_T119 y869 x5_1).f1.f1⟩ : S29), t870, (rd_T119 y869 x5_1).f3, (rd_T119 y869 x5_1).f4⟩ : S119) : List (S119))).bind fun y871 => ((laws_markText.f k1 (wrap64 ((wrap64 ((wrap64 ((wrap64 ((wrap64 (x1_1 + 1)) + 1)) + 1)) + 1)) + 1))).bind fun t872 => ((some (y871.set (x5_1 : Int).toNat (⟨(⟨(rd_T119 y871 x5_1).f0.f0, (rd_T119 y871 x5_1).f0.f1⟩ : S29), (⟨(rd_T119 y871 x5_1).f1.f0, (rd_T119 y871 x5_1).f1.f1⟩ : S29), (rd_T119 y871 x5_1).f2, t872, (rd_T119 y871 x5_1).f4⟩ : S119) : List (S119))).bind fun y873 => ((laws_markText.f k1 (wrap64 ((wrap64 ((wrap64 ((wrap64 ((wrap64 ((wrap64 (x1_1 + 1)) + 1)) + 1)) + 1)) + 1)) + 1))).bind fun t874 => (laws_markBoxConnS.l0 k1 (y873.set (x5_1 : Int).toNat (⟨(⟨(rd_T119 y873 x5_1).f0.f0, (rd_T119 y873 x5_1).f0.f1⟩ : S29), (⟨(rd_T119 y873 x5_1).f1.f0, (rd_T119 y873 x5_1).f1.f1⟩ : S29), (rd_T119 y873 x5_1).f2, (rd_T119 y873 x5_1).f3, t874⟩ : S119)) (wrap64 ((wrap64 ((wrap64 ((wrap64 ((wrap64 ((wrap64 ((wrap64 (x1_1 + 1)) + 1)) + 1)) + 1)) + 1)) + 1)) + 1)) (wrap64 (x5_1 + 1)))))))))) = some (r1, r2) := by first | (rw [hy867]; with_reducible exact H) | (have H2_ := (Option.bind_some _ _).symm.trans H; rw [hy867]; with_reducible exact H2_) | (have H2_ := (Option.bind_some _ _).symm.trans H; with_reducible exact H2_) | with_reducible exact H | (rw [hy867]; exact H) | exact H
          have Ny867 := Aside0.mk hy867
          clear hy867
          obtain ⟨y868, hy868⟩ : ∃ y_ : List (S119), y_ = (y867.set (x5_1 : Int).toNat (⟨(⟨(rd_T119 y867 x5_1).f0.f0, (rd_T119 y867 x5_1).f0.f1⟩ : S29), (⟨wrap64 ((wrap64 (x1_1 + 1)) + 1), (rd_T119 y867 x5_1).f1.f1⟩ : S29), (rd_T119 y867 x5_1).f2, (rd_T119 y867 x5_1).f3, (rd_T119 y867 x5_1).f4⟩ : S119)) := ⟨_, rfl⟩
          replace H : ((some (y868.set (x5_1 : Int).toNat (⟨(⟨(rd_T119 y868 x5_1).f0.f0, (rd_T119 y868 x5_1).f0.f1⟩ : S29), (⟨(rd_T119 y868 x5_1).f1.f0, wrap64 ((wrap64 ((wrap64 (x1_1 + 1)) + 1)) + 1)⟩ : S29), (rd_T119 y868 x5_1).f2, (rd_T119 y868 x5_1).f3, (rd_T119 y868 x5_1).f4⟩ : S119) : List (S119))).bind fun y869 => ((laws_markText.f k1 (wrap64 ((wrap64 ((wrap64 ((wrap64 (x1_1 + 1)) + 1)) + 1)) + 1))).bind fun t870 => ((some (y869.set (x5_1 : Int).toNat (⟨(⟨(rd_T119 y869 x5_1).f0.f0, (rd_T119 y869 x5_1).f0.f1⟩ : S29), (⟨(rd_T119 y869 x5_1).f1.f0, (rd_T119 y869 x5_1).f1.f1⟩ : S29), t870, (rd_T119 y869 x5_1).f3, (rd_T119 y869 x5_1).f4⟩ : S119) : List (S119))).bind fun y871 => ((laws_markText.f k1 (wrap64 ((wrap64 ((wrap64 ((wrap64 ((wrap64 (x1_1 + 1)) + 1)) + 1)) + 1)) + 1))).bind fun t872 => ((some (y871.set (x5_1 : Int).toNat (⟨(⟨(rd_T119 y871 x5_1).f0.f0, (rd_T119 y871 x5_1).f0.f1⟩ : S29), (⟨(rd_T119 y871 x5_1).f1.f0, (rd_T119 y871 x5_1).f1.f1⟩ : S29), (rd_T119 y871 x5_1).f2, t872, (rd_T119 y871 x5_1).f4⟩ : S119) : List (S119))).bind fun y873 => ((laws_markText.f k1 (wrap64 ((wrap64 ((wrap64 ((wrap64 ((wrap64 ((wrap64 (x1_1 + 1)) + 1)) + 1)) + 1)) + 1)) + 1))).bind fun t874 => (laws_markBoxConnS.l0 k1 (y873.set (x5_1 : Int).toNat (⟨(⟨(rd_T119 y873 x5_1).f0.f0, (rd_T119 y873 x5_1).f0.f1⟩ : S29), (⟨(rd_T119 y873 x5_1).f1.f0, (rd_T119 y873 x5_1).f1.f1⟩ : S29), (rd_T119 y873 x5_1).f2, (rd_T119 y873 x5_1).f3, t874⟩ : S119)) (wrap64 ((wrap64 ((wrap64 ((wrap64 ((wrap64 ((wrap64 ((wrap64 (x1_1 + 1)) + 1)) + 1)) + 1)) + 1)) + 1)) + 1)) (wrap64 (x5_1 + 1))))))))) = some (r1, r2) := by first | (rw [hy868]; with_reducible exact H) | (have H2_ := (Option.bind_some _ _).symm.trans H; rw [hy868]; with_reducible exact H2_) | (have H2_ := (Option.bind_some _ _).symm.trans H; with_reducible exact H2_) | with_reducible exact H | (rw [hy868]; exact H) | exact H
          have Ny868 := Aside0.mk hy868
          clear hy868
          obtain ⟨y869, hy869⟩ : ∃ y_ : List (S119), y_ = (y868.set (x5_1 : Int).toNat (⟨(⟨(rd_T119 y868 x5_1).f0.f0, (rd_T119 y868 x5_1).f0.f1⟩ : S29), (⟨(rd_T119 y868 x5_1).f1.f0, wrap64 ((wrap64 ((wrap64 (x1_1 + 1)) + 1)) + 1)⟩ : S29), (rd_T119 y868 x5_1).f2, (rd_T119 y868 x5_1).f3, (rd_T119 y868 x5_1).f4⟩ : S119)) := ⟨_, rfl⟩
          replace H : ((laws_markText.f k1 (wrap64 ((wrap64 ((wrap64 ((wrap64 (x1_1 + 1)) + 1)) + 1)) + 1))).bind fun t870 => ((some (y869.set (x5_1 : Int).toNat (⟨(⟨(rd_T119 y869 x5_1).f0.f0, (rd_T119 y869 x5_1).f0.f1⟩ : S29), (⟨(rd_T119 y869 x5_1).f1.f0, (rd_T119 y869 x5_1).f1.f1⟩ : S29), t870, (rd_T119 y869 x5_1).f3, (rd_T119 y869 x5_1).f4⟩ : S119) : List (S119))).bind fun y871 => ((laws_markText.f k1 (wrap64 ((wrap64 ((wrap64 ((wrap64 ((wrap64 (x1_1 + 1)) + 1)) + 1)) + 1)) + 1))).bind fun t872 => ((some (y871.set (x5_1 : Int).toNat (⟨(⟨(rd_T119 y871 x5_1).f0.f0, (rd_T119 y871 x5_1).f0.f1⟩ : S29), (⟨(rd_T119 y871 x5_1).f1.f0, (rd_T119 y871 x5_1).f1.f1⟩ : S29), (rd_T119 y871 x5_1).f2, t872, (rd_T119 y871 x5_1).f4⟩ : S119) : List (S119))).bind fun y873 => ((laws_markText.f k1 (wrap64 ((wrap64 ((wrap64 ((wrap64 ((wrap64 ((wrap64 (x1_1 + 1)) + 1)) + 1)) + 1)) + 1)) + 1))).bind fun t874 => (laws_markBoxConnS.l0 k1 (y873.set (x5_1 : Int).toNat (⟨(⟨(rd_T119 y873 x5_1).f0.f0, (rd_T119 y873 x5_1).f0.f1⟩ : S29), (⟨(rd_T119 y873 x5_1).f1.f0, (rd_T119 y873 x5_1).f1.f1⟩ : S29), (rd_T119 y873 x5_1).f2, (rd_T119 y873 x5_1).f3, t874⟩ : S119)) (wrap64 ((wrap64 ((wrap64 ((wrap64 ((wrap64 ((wrap64 ((wrap64 (x1_1 + 1)) + 1)) + 1)) + 1)) + 1)) + 1)) + 1)) (wrap64 (x5_1 + 1)))))))) = some (r1, r2) := by first | (rw [hy869]; with_reducible exact H) | (have H2_ := (Option.bind_some _ _).symm.trans H; rw [hy869]; with_reducible exact H2_) | (have H2_ := (Option.bind_some _ _).symm.trans H; with_reducible exact H2_) | with_reducible exact H | (rw [hy869]; exact H) | exact H
          have Ny869 := Aside0.mk hy869
          clear hy869
          replace H := Option.bind_eq_some_iff.mp H
          obtain ⟨t870, A90, H⟩ := H
          replace H : ((some (y869.set (x5_1 : Int).toNat (⟨(⟨(rd_T119 y869 x5_1).f0.f0, (rd_T119 y869 x5_1).f0.f1⟩ : S29), (⟨(rd_T119 y869 x5_1).f1.f0, (rd_T119 y869 x5_1).f1.f1⟩ : S29), t870, (rd_T119 y869 x5_1).f3, (rd_T119 y869 x5_1).f4⟩ : S119) : List (S119))).bind fun y871 => ((laws_markText.f k1 (wrap64 ((wrap64 ((wrap64 ((wrap64 ((wrap64 (x1_1 + 1)) + 1)) + 1)) + 1)) + 1))).bind fun t872 => ((some (y871.set (x5_1 : Int).toNat (⟨(⟨(rd_T119 y871 x5_1).f0.f0, (rd_T119 y871 x5_1).f0.f1⟩ : S29), (⟨(rd_T119 y871 x5_1).f1.f0, (rd_T119 y871 x5_1).f1.f1⟩ : S29), (rd_T119 y871 x5_1).f2, t872, (rd_T119 y871 x5_1).f4⟩ : S119) : List (S119))).bind fun y873 => ((laws_markText.f k1 (wrap64 ((wrap64 ((wrap64 ((wrap64 ((wrap64 ((wrap64 (x1_1 + 1)) + 1)) + 1)) + 1)) + 1)) + 1))).bind fun t874 => (laws_markBoxConnS.l0 k1 (y873.set (x5_1 : Int).toNat (⟨(⟨(rd_T119 y873 x5_1).f0.f0, (rd_T119 y873 x5_1).f0.f1⟩ : S29), (⟨(rd_T119 y873 x5_1).f1.f0, (rd_T119 y873 x5_1).f1.f1⟩ : S29), (rd_T119 y873 x5_1).f2, (rd_T119 y873 x5_1).f3, t874⟩ : S119)) (wrap64 ((wrap64 ((wrap64 ((wrap64 ((wrap64 ((wrap64 ((wrap64 (x1_1 + 1)) + 1)) + 1)) + 1)) + 1)) + 1)) + 1)) (wrap64 (x5_1 + 1))))))) = some (r1, r2) := H
          have A9 := Aside0.mk A90
          clear A90
          obtain ⟨y871, hy871⟩ : ∃ y_ : List (S119), y_ = (y869.set (x5_1 : Int).toNat (⟨(⟨(rd_T119 y869 x5_1).f0.f0, (rd_T119 y869 x5_1).f0.f1⟩ : S29), (⟨(rd_T119 y869 x5_1).f1.f0, (rd_T119 y869 x5_1).f1.f1⟩ : S29), t870, (rd_T119 y869 x5_1).f3, (rd_T119 y869 x5_1).f4⟩ : S119)) := ⟨_, rfl⟩
          replace H : ((laws_markText.f k1 (wrap64 ((wrap64 ((wrap64 ((wrap64 ((wrap64 (x1_1 + 1)) + 1)) + 1)) + 1)) + 1))).bind fun t872 => ((some (y871.set (x5_1 : Int).toNat (⟨(⟨(rd_T119 y871 x5_1).f0.f0, (rd_T119 y871 x5_1).f0.f1⟩ : S29), (⟨(rd_T119 y871 x5_1).f1.f0, (rd_T119 y871 x5_1).f1.f1⟩ : S29), (rd_T119 y871 x5_1).f2, t872, (rd_T119 y871 x5_1).f4⟩ : S119) : List (S119))).bind fun y873 => ((laws_markText.f k1 (wrap64 ((wrap64 ((wrap64 ((wrap64 ((wrap64 ((wrap64 (x1_1 + 1)) + 1)) + 1)) + 1)) + 1)) + 1))).bind fun t874 => (laws_markBoxConnS.l0 k1 (y873.set (x5_1 : Int).toNat (⟨(⟨(rd_T119 y873 x5_1).f0.f0, (rd_T119 y873 x5_1).f0.f1⟩ : S29), (⟨(rd_T119 y873 x5_1).f1.f0, (rd_T119 y873 x5_1).f1.f1⟩ : S29), (rd_T119 y873 x5_1).f2, (rd_T119 y873 x5_1).f3, t874⟩ : S119)) (wrap64 ((wrap64 ((wrap64 ((wrap64 ((wrap64 ((wrap64 ((wrap64 (x1_1 + 1)) + 1)) + 1)) + 1)) + 1)) + 1)) + 1)) (wrap64 (x5_1 + 1)))))) = some (r1, r2) := by first | (rw [hy871]; with_reducible exact H) | (have H2_ := (Option.bind_some _ _).symm.trans H; rw [hy871]; with_reducible exact H2_) | (have H2_ := (Option.bind_some _ _).symm.trans H; with_reducible exact H2_) | with_reducible exact H | (rw [hy871]; exact H) | exact H
          have Ny871 := Aside0.mk hy871
          clear hy871
          replace H := Option.bind_eq_some_iff.mp H
          obtain ⟨t872, A110, H⟩ := H
          replace H : ((some (y871.set (x5_1 : Int).toNat (⟨(⟨(rd_T119 y871 x5_1).f0.f0, (rd_T119 y871 x5_1).f0.f1⟩ : S29), (⟨(rd_T119 y871 x5_1).f1.f0, (rd_T119 y871 x5_1).f1.f1⟩ : S29), (rd_T119 y871 x5_1).f2, t872, (rd_T119 y871 x5_1).f4⟩ : S119) : List (S119))).bind fun y873 => ((laws_markText.f k1 (wrap64 ((wrap64 ((wrap64 ((wrap64 ((wrap64 ((wrap64 (x1_1 + 1)) + 1)) + 1)) + 1)) + 1)) + 1))).bind fun t874 => (laws_markBoxConnS.l0 k1 (y873.set (x5_1 : Int).toNat (⟨(⟨(rd_T119 y873 x5_1).f0.f0, (rd_T119 y873 x5_1).f0.f1⟩ : S29), (⟨(rd_T119 y873 x5_1).f1.f0, (rd_T119 y873 x5_1).f1.f1⟩ : S29), (rd_T119 y873 x5_1).f2, (rd_T119 y873 x5_1).f3, t874⟩ : S119)) (wrap64 ((wrap64 ((wrap64 ((wrap64 ((wrap64 ((wrap64 ((wrap64 (x1_1 + 1)) + 1)) + 1)) + 1)) + 1)) + 1)) + 1)) (wrap64 (x5_1 + 1))))) = some (r1, r2) := H
          have A11 := Aside0.mk A110
          clear A110
          obtain ⟨y873, hy873⟩ : ∃ y_ : List (S119), y_ = (y871.set (x5_1 : Int).toNat (⟨(⟨(rd_T119 y871 x5_1).f0.f0, (rd_T119 y871 x5_1).f0.f1⟩ : S29), (⟨(rd_T119 y871 x5_1).f1.f0, (rd_T119 y871 x5_1).f1.f1⟩ : S29), (rd_T119 y871 x5_1).f2, t872, (rd_T119 y871 x5_1).f4⟩ : S119)) := ⟨_, rfl⟩
          replace H : ((laws_markText.f k1 (wrap64 ((wrap64 ((wrap64 ((wrap64 ((wrap64 ((wrap64 (x1_1 + 1)) + 1)) + 1)) + 1)) + 1)) + 1))).bind fun t874 => (laws_markBoxConnS.l0 k1 (y873.set (x5_1 : Int).toNat (⟨(⟨(rd_T119 y873 x5_1).f0.f0, (rd_T119 y873 x5_1).f0.f1⟩ : S29), (⟨(rd_T119 y873 x5_1).f1.f0, (rd_T119 y873 x5_1).f1.f1⟩ : S29), (rd_T119 y873 x5_1).f2, (rd_T119 y873 x5_1).f3, t874⟩ : S119)) (wrap64 ((wrap64 ((wrap64 ((wrap64 ((wrap64 ((wrap64 ((wrap64 (x1_1 + 1)) + 1)) + 1)) + 1)) + 1)) + 1)) + 1)) (wrap64 (x5_1 + 1)))) = some (r1, r2) := by first | (rw [hy873]; with_reducible exact H) | (have H2_ := (Option.bind_some _ _).symm.trans H; rw [hy873]; with_reducible exact H2_) | (have H2_ := (Option.bind_some _ _).symm.trans H; with_reducible exact H2_) | with_reducible exact H | (rw [hy873]; exact H) | exact H
          have Ny873 := Aside0.mk hy873
          clear hy873
          replace H := Option.bind_eq_some_iff.mp H
          obtain ⟨t874, A130, H⟩ := H
          replace H : (laws_markBoxConnS.l0 k1 (y873.set (x5_1 : Int).toNat (⟨(⟨(rd_T119 y873 x5_1).f0.f0, (rd_T119 y873 x5_1).f0.f1⟩ : S29), (⟨(rd_T119 y873 x5_1).f1.f0, (rd_T119 y873 x5_1).f1.f1⟩ : S29), (rd_T119 y873 x5_1).f2, (rd_T119 y873 x5_1).f3, t874⟩ : S119)) (wrap64 ((wrap64 ((wrap64 ((wrap64 ((wrap64 ((wrap64 ((wrap64 (x1_1 + 1)) + 1)) + 1)) + 1)) + 1)) + 1)) + 1)) (wrap64 (x5_1 + 1))) = some (r1, r2) := H
          have A13 := Aside0.mk A130
          clear A130
          obtain ⟨y875, hy875⟩ : ∃ y_ : List (S119), y_ = (y873.set (x5_1 : Int).toNat (⟨(⟨(rd_T119 y873 x5_1).f0.f0, (rd_T119 y873 x5_1).f0.f1⟩ : S29), (⟨(rd_T119 y873 x5_1).f1.f0, (rd_T119 y873 x5_1).f1.f1⟩ : S29), (rd_T119 y873 x5_1).f2, (rd_T119 y873 x5_1).f3, t874⟩ : S119)) := ⟨_, rfl⟩
          replace H : (laws_markBoxConnS.l0 k1 y875 (wrap64 ((wrap64 ((wrap64 ((wrap64 ((wrap64 ((wrap64 ((wrap64 (x1_1 + 1)) + 1)) + 1)) + 1)) + 1)) + 1)) + 1)) (wrap64 (x5_1 + 1))) = some (r1, r2) := by first | (rw [hy875]; with_reducible exact H) | (have H2_ := (Option.bind_some _ _).symm.trans H; rw [hy875]; with_reducible exact H2_) | (have H2_ := (Option.bind_some _ _).symm.trans H; with_reducible exact H2_) | with_reducible exact H | (rw [hy875]; exact H) | exact H
          have Ny875 := Aside0.mk hy875
          clear hy875
          have H' := Aside0.mk H
          clear H
          obtain ⟨Ao15, co15, eo15⟩ := Kd.R_slice HO_0.out
          subst eo15
          have p5 : 0 ≤ (x5_1 : Int) := of_decide_eq_true (by first | (with_reducible assumption) | assumption)
          have q5 : (x5_1 : Int) < ((x0_1.length : Int) : Int) := of_decide_eq_true (by first | (with_reducible assumption) | assumption)
          obtain ⟨go5, co5, eo5, gb5, gl5, cl5, HG5⟩ := Kd.R_form HO_0.out (by omega)
          (first | cases eo5 | (injection eo5 with ea_ en_ ec_; (first | subst ea_ | (injection ea_ with ea_; subst ea_)); subst ec_; clear en_))
          have GB5 := Aside0.mk gb5
          have GG5 := Aside0.mk HG5
          clear gb5 gl5 HG5
          have HMgo5 := Aside0.mk (show (P0_ go5 ∨ w.heap.size ≤ go5) from (HO_0.out.1 _ rfl))
          obtain ⟨ce5, hcl5, hM5, hcc5, hfr5⟩ := Kd.R_elem HO_0.out z119 (x5_1 : Int) p5 q5
          obtain rfl := k119_openM hM5
          have hx5_0 : wr.cell? ⟨go5, (x5_1 : Int).toNat * 7, none⟩ = some (.int .i64 ((rd_T119 x0_1 x5_1).f0.f0)) := hcc5 0 _ rfl
          have hx5_1 : wr.cell? ⟨go5, (x5_1 : Int).toNat * 7 + 1, none⟩ = some (.int .i64 ((rd_T119 x0_1 x5_1).f0.f1)) := hcc5 1 _ rfl
          have hx5_2 : wr.cell? ⟨go5, (x5_1 : Int).toNat * 7 + 2, none⟩ = some (.int .i64 ((rd_T119 x0_1 x5_1).f1.f0)) := hcc5 2 _ rfl
          have hx5_3 : wr.cell? ⟨go5, (x5_1 : Int).toNat * 7 + 3, none⟩ = some (.int .i64 ((rd_T119 x0_1 x5_1).f1.f1)) := hcc5 3 _ rfl
          have hx5_4 : wr.cell? ⟨go5, (x5_1 : Int).toNat * 7 + 4, none⟩ = some (.string ((rd_T119 x0_1 x5_1).f2)) := hcc5 4 _ rfl
          have hx5_5 : wr.cell? ⟨go5, (x5_1 : Int).toNat * 7 + 5, none⟩ = some (.string ((rd_T119 x0_1 x5_1).f3)) := hcc5 5 _ rfl
          have hx5_6 : wr.cell? ⟨go5, (x5_1 : Int).toNat * 7 + 6, none⟩ = some (.string ((rd_T119 x0_1 x5_1).f4)) := hcc5 6 _ rfl
          have hf5_0 : wr.frozen? ⟨go5, (x5_1 : Int).toNat * 7, none⟩ = false := hfr5 0
          have hf5_1 : wr.frozen? ⟨go5, (x5_1 : Int).toNat * 7 + 1, none⟩ = false := hfr5 1
          have hf5_2 : wr.frozen? ⟨go5, (x5_1 : Int).toNat * 7 + 2, none⟩ = false := hfr5 2
          have hf5_3 : wr.frozen? ⟨go5, (x5_1 : Int).toNat * 7 + 3, none⟩ = false := hfr5 3
          have hf5_4 : wr.frozen? ⟨go5, (x5_1 : Int).toNat * 7 + 4, none⟩ = false := hfr5 4
          have hf5_5 : wr.frozen? ⟨go5, (x5_1 : Int).toNat * 7 + 5, none⟩ = false := hfr5 5
          have hf5_6 : wr.frozen? ⟨go5, (x5_1 : Int).toNat * 7 + 6, none⟩ = false := hfr5 6
          clear hcl5 hcc5 hfr5 hM5
          replace p5 := eq_true p5
          replace q5 := eq_true q5
          have HX16 := Aside0.mk (show Kd.R k119 119 wr w0.heap.size (fun k_ => (P0_ k_ ∨ w.heap.size ≤ k_)) (.slice (some ⟨go5, 0, none⟩) x0_1.length co15) x0_1 from (rs HO_0))
          obtain ⟨ce16, hcl16, hM16, hcc16, hfr16⟩ := Kd.R_elem HX16.out z119 (x5_1 : Int) (of_decide_eq_true (by first | (with_reducible assumption) | assumption)) (by have h_ : (x5_1 : Int) < ((x0_1.length : Int) : Int) := of_decide_eq_true (by first | (with_reducible assumption) | assumption); first | exact h_ | (have e_ := (Kd.R_reads' HO_0.out).1; omega) | simpa using h_)
          obtain rfl := k119_openM hM16
          have HP16 := Kd.R_seg HX16.out (x5_1 : Int) (of_decide_eq_true (by first | (with_reducible assumption) | assumption)) (by have h_ : (x5_1 : Int) < ((x0_1.length : Int) : Int) := of_decide_eq_true (by first | (with_reducible assumption) | assumption); first | exact h_ | (have e_ := (Kd.R_reads' HO_0.out).1; omega) | simpa using h_) (seg := [.int .i64 x1_1]) (j := 0) hcl16 hcc16 (show 1 ≤ 7 from by decide) (x' := (⟨(⟨x1_1, (rd_T119 x0_1 x5_1).f0.f1⟩ : S29), (⟨(rd_T119 x0_1 x5_1).f1.f0, (rd_T119 x0_1 x5_1).f1.f1⟩ : S29), (rd_T119 x0_1 x5_1).f2, (rd_T119 x0_1 x5_1).f3, (rd_T119 x0_1 x5_1).f4⟩ : S119)) (k119_mkM _ _ _ (⟨(⟨x1_1, (rd_T119 x0_1 x5_1).f0.f1⟩ : S29), (⟨(rd_T119 x0_1 x5_1).f1.f0, (rd_T119 x0_1 x5_1).f1.f1⟩ : S29), (rd_T119 x0_1 x5_1).f2, (rd_T119 x0_1 x5_1).f3, (rd_T119 x0_1 x5_1).f4⟩ : S119) ) (fun _ hk => hk)
          have hx16_0 := hcc16 0 _ rfl
          (try simp only [show (k119).sz = 7 from rfl, Nat.mul_one, Nat.add_zero] at hx16_0)
          have hf16_0 := hfr16 0
          (try simp only [show (k119).sz = 7 from rfl, Nat.mul_one, Nat.add_zero] at hf16_0)
          clear hcl16 hcc16 hfr16 hM16
          go_wp2_with (first | ((with_reducible refine gate_store (t := 3) (p := 17) rfl ?_); refine store_event (t := 3) (p := 17) (v := ?vo_w17) (w1 := (wr.setCell ⟨go5, (x5_1 : Int).toNat * 7, none⟩ (.int .i64 x1_1))) ?hg ?ho ?hn ?hr ?_; (case ho => rfl); (case hg => rfl); (case hn => rfl); (case hr => first | (go_simp; done) | (go_simp; rfl)); intro w17 hw; have hg : wr.grownBy w17 (some go5) := (by rw [hw]; exact HP16.2); have hp_ : Kd.R k119 119 w17 w0.heap.size (fun k_ => (P0_ k_ ∨ w.heap.size ≤ k_)) (.slice (some ⟨go5, 0, none⟩) x0_1.length co15) y866 := (by rw [hw, Ny866.out]; exact HP16.1); clear HP16; have n0_ := Aside0.mk (hp_); have n1_ := Aside0.mk ((by rw [hw]; exact below_set (HB.out) GB5.out : Below w0.heap.size w0 w17)); have n2_ := Aside0.mk (Kept.of_grown (S := (fun k_ => P0_ k_)) hg (by repeat (first | (with_reducible first | exact HK.out | apply Kept.alloc | apply Kept.drewN | apply Kept.drew) | exact HK.out)) (fun k_ e_ => (HO_0.out.1 k_ e_))); clear HO_0; clear HB; clear HK; have HO_0 := n0_; have HB := n1_; have HK := n2_; clear n0_ n1_ n2_; clear hg hw hp_; have p6 : 0 ≤ (x5_1 : Int) := of_decide_eq_true (by first | (with_reducible assumption) | assumption); have q6 : (x5_1 : Int) < ((x0_1.length : Int) : Int) := of_decide_eq_true (by first | (with_reducible assumption) | assumption); obtain ⟨ce6, hcl6, hM6, hcc6, hfr6⟩ := Kd.R_elem HO_0.out z119 (x5_1 : Int) p6 q6; obtain rfl := k119_openM hM6; have hx6_0 : w17.cell? ⟨go5, (x5_1 : Int).toNat * 7, none⟩ = some (.int .i64 ((rd_T119 y866 x5_1).f0.f0)) := hcc6 0 _ rfl; have hx6_1 : w17.cell? ⟨go5, (x5_1 : Int).toNat * 7 + 1, none⟩ = some (.int .i64 ((rd_T119 y866 x5_1).f0.f1)) := hcc6 1 _ rfl; have hx6_2 : w17.cell? ⟨go5, (x5_1 : Int).toNat * 7 + 2, none⟩ = some (.int .i64 ((rd_T119 y866 x5_1).f1.f0)) := hcc6 2 _ rfl; have hx6_3 : w17.cell? ⟨go5, (x5_1 : Int).toNat * 7 + 3, none⟩ = some (.int .i64 ((rd_T119 y866 x5_1).f1.f1)) := hcc6 3 _ rfl; have hx6_4 : w17.cell? ⟨go5, (x5_1 : Int).toNat * 7 + 4, none⟩ = some (.string ((rd_T119 y866 x5_1).f2)) := hcc6 4 _ rfl; have hx6_5 : w17.cell? ⟨go5, (x5_1 : Int).toNat * 7 + 5, none⟩ = some (.string ((rd_T119 y866 x5_1).f3)) := hcc6 5 _ rfl; have hx6_6 : w17.cell? ⟨go5, (x5_1 : Int).toNat * 7 + 6, none⟩ = some (.string ((rd_T119 y866 x5_1).f4)) := hcc6 6 _ rfl; have hf6_0 : w17.frozen? ⟨go5, (x5_1 : Int).toNat * 7, none⟩ = false := hfr6 0; have hf6_1 : w17.frozen? ⟨go5, (x5_1 : Int).toNat * 7 + 1, none⟩ = false := hfr6 1; have hf6_2 : w17.frozen? ⟨go5, (x5_1 : Int).toNat * 7 + 2, none⟩ = false := hfr6 2; have hf6_3 : w17.frozen? ⟨go5, (x5_1 : Int).toNat * 7 + 3, none⟩ = false := hfr6 3; have hf6_4 : w17.frozen? ⟨go5, (x5_1 : Int).toNat * 7 + 4, none⟩ = false := hfr6 4; have hf6_5 : w17.frozen? ⟨go5, (x5_1 : Int).toNat * 7 + 5, none⟩ = false := hfr6 5; have hf6_6 : w17.frozen? ⟨go5, (x5_1 : Int).toNat * 7 + 6, none⟩ = false := hfr6 6; clear hcl6 hcc6 hfr6 hM6; replace p6 := eq_true p6; replace q6 := eq_true q6; have HX18 := Aside0.mk (show Kd.R k119 119 w17 w0.heap.size (fun k_ => (P0_ k_ ∨ w.heap.size ≤ k_)) (.slice (some ⟨go5, 0, none⟩) x0_1.length co15) y866 from (rs HO_0)); obtain ⟨ce18, hcl18, hM18, hcc18, hfr18⟩ := Kd.R_elem HX18.out z119 (x5_1 : Int) (of_decide_eq_true (by first | (with_reducible assumption) | assumption)) (by have h_ : (x5_1 : Int) < ((x0_1.length : Int) : Int) := of_decide_eq_true (by first | (with_reducible assumption) | assumption); first | exact h_ | (have e_ := (Kd.R_reads' HO_0.out).1; omega) | simpa using h_); obtain rfl := k119_openM hM18; have HP18 := Kd.R_seg HX18.out (x5_1 : Int) (of_decide_eq_true (by first | (with_reducible assumption) | assumption)) (by have h_ : (x5_1 : Int) < ((x0_1.length : Int) : Int) := of_decide_eq_true (by first | (with_reducible assumption) | assumption); first | exact h_ | (have e_ := (Kd.R_reads' HO_0.out).1; omega) | simpa using h_) (seg := [.int .i64 (wrap64 (x1_1 + 1))]) (j := 1) hcl18 hcc18 (show 2 ≤ 7 from by decide) (x' := (⟨(⟨(rd_T119 y866 x5_1).f0.f0, wrap64 (x1_1 + 1)⟩ : S29), (⟨(rd_T119 y866 x5_1).f1.f0, (rd_T119 y866 x5_1).f1.f1⟩ : S29), (rd_T119 y866 x5_1).f2, (rd_T119 y866 x5_1).f3, (rd_T119 y866 x5_1).f4⟩ : S119)) (k119_mkM _ _ _ (⟨(⟨(rd_T119 y866 x5_1).f0.f0, wrap64 (x1_1 + 1)⟩ : S29), (⟨(rd_T119 y866 x5_1).f1.f0, (rd_T119 y866 x5_1).f1.f1⟩ : S29), (rd_T119 y866 x5_1).f2, (rd_T119 y866 x5_1).f3, (rd_T119 y866 x5_1).f4⟩ : S119) ) (fun _ hk => hk); have hx18_1 := hcc18 1 _ rfl; (try simp only [show (k119).sz = 7 from rfl, Nat.mul_one, Nat.add_zero] at hx18_1); have hf18_1 := hfr18 1; (try simp only [show (k119).sz = 7 from rfl, Nat.mul_one, Nat.add_zero] at hf18_1); clear hcl18 hcc18 hfr18 hM18) | ((with_reducible refine gate_store (t := 3) (p := 25) rfl ?_); refine store_event (t := 3) (p := 25) (v := ?vo_w19) (w1 := (w17.setCell ⟨go5, (x5_1 : Int).toNat * 7 + 1, none⟩ (.int .i64 (wrap64 (x1_1 + 1))))) ?hg ?ho ?hn ?hr ?_; (case ho => rfl); (case hg => rfl); (case hn => rfl); (case hr => first | (go_simp; done) | (go_simp; rfl)); intro w19 hw; have hg : w17.grownBy w19 (some go5) := (by rw [hw]; exact HP18.2); have hp_ : Kd.R k119 119 w19 w0.heap.size (fun k_ => (P0_ k_ ∨ w.heap.size ≤ k_)) (.slice (some ⟨go5, 0, none⟩) x0_1.length co15) y867 := (by rw [hw, Ny867.out]; exact HP18.1); clear HP18; have n0_ := Aside0.mk (hp_); have n1_ := Aside0.mk ((by rw [hw]; exact below_set (HB.out) GB5.out : Below w0.heap.size w0 w19)); have n2_ := Aside0.mk (Kept.of_grown (S := (fun k_ => P0_ k_)) hg (by repeat (first | (with_reducible first | exact HK.out | apply Kept.alloc | apply Kept.drewN | apply Kept.drew) | exact HK.out)) (fun k_ e_ => (HO_0.out.1 k_ e_))); clear HO_0; clear HB; clear HK; have HO_0 := n0_; have HB := n1_; have HK := n2_; clear n0_ n1_ n2_; clear hg hw hp_; have p7 : 0 ≤ (x5_1 : Int) := of_decide_eq_true (by first | (with_reducible assumption) | assumption); have q7 : (x5_1 : Int) < ((x0_1.length : Int) : Int) := of_decide_eq_true (by first | (with_reducible assumption) | assumption); obtain ⟨ce7, hcl7, hM7, hcc7, hfr7⟩ := Kd.R_elem HO_0.out z119 (x5_1 : Int) p7 q7; obtain rfl := k119_openM hM7; have hx7_0 : w19.cell? ⟨go5, (x5_1 : Int).toNat * 7, none⟩ = some (.int .i64 ((rd_T119 y867 x5_1).f0.f0)) := hcc7 0 _ rfl; have hx7_1 : w19.cell? ⟨go5, (x5_1 : Int).toNat * 7 + 1, none⟩ = some (.int .i64 ((rd_T119 y867 x5_1).f0.f1)) := hcc7 1 _ rfl; have hx7_2 : w19.cell? ⟨go5, (x5_1 : Int).toNat * 7 + 2, none⟩ = some (.int .i64 ((rd_T119 y867 x5_1).f1.f0)) := hcc7 2 _ rfl; have hx7_3 : w19.cell? ⟨go5, (x5_1 : Int).toNat * 7 + 3, none⟩ = some (.int .i64 ((rd_T119 y867 x5_1).f1.f1)) := hcc7 3 _ rfl; have hx7_4 : w19.cell? ⟨go5, (x5_1 : Int).toNat * 7 + 4, none⟩ = some (.string ((rd_T119 y867 x5_1).f2)) := hcc7 4 _ rfl; have hx7_5 : w19.cell? ⟨go5, (x5_1 : Int).toNat * 7 + 5, none⟩ = some (.string ((rd_T119 y867 x5_1).f3)) := hcc7 5 _ rfl; have hx7_6 : w19.cell? ⟨go5, (x5_1 : Int).toNat * 7 + 6, none⟩ = some (.string ((rd_T119 y867 x5_1).f4)) := hcc7 6 _ rfl; have hf7_0 : w19.frozen? ⟨go5, (x5_1 : Int).toNat * 7, none⟩ = false := hfr7 0; have hf7_1 : w19.frozen? ⟨go5, (x5_1 : Int).toNat * 7 + 1, none⟩ = false := hfr7 1; have hf7_2 : w19.frozen? ⟨go5, (x5_1 : Int).toNat * 7 + 2, none⟩ = false := hfr7 2; have hf7_3 : w19.frozen? ⟨go5, (x5_1 : Int).toNat * 7 + 3, none⟩ = false := hfr7 3; have hf7_4 : w19.frozen? ⟨go5, (x5_1 : Int).toNat * 7 + 4, none⟩ = false := hfr7 4; have hf7_5 : w19.frozen? ⟨go5, (x5_1 : Int).toNat * 7 + 5, none⟩ = false := hfr7 5; have hf7_6 : w19.frozen? ⟨go5, (x5_1 : Int).toNat * 7 + 6, none⟩ = false := hfr7 6; clear hcl7 hcc7 hfr7 hM7; replace p7 := eq_true p7; replace q7 := eq_true q7; have HX20 := Aside0.mk (show Kd.R k119 119 w19 w0.heap.size (fun k_ => (P0_ k_ ∨ w.heap.size ≤ k_)) (.slice (some ⟨go5, 0, none⟩) x0_1.length co15) y867 from (rs HO_0)); obtain ⟨ce20, hcl20, hM20, hcc20, hfr20⟩ := Kd.R_elem HX20.out z119 (x5_1 : Int) (of_decide_eq_true (by first | (with_reducible assumption) | assumption)) (by have h_ : (x5_1 : Int) < ((x0_1.length : Int) : Int) := of_decide_eq_true (by first | (with_reducible assumption) | assumption); first | exact h_ | (have e_ := (Kd.R_reads' HO_0.out).1; omega) | simpa using h_); obtain rfl := k119_openM hM20; have HP20 := Kd.R_seg HX20.out (x5_1 : Int) (of_decide_eq_true (by first | (with_reducible assumption) | assumption)) (by have h_ : (x5_1 : Int) < ((x0_1.length : Int) : Int) := of_decide_eq_true (by first | (with_reducible assumption) | assumption); first | exact h_ | (have e_ := (Kd.R_reads' HO_0.out).1; omega) | simpa using h_) (seg := [.int .i64 (wrap64 ((wrap64 (x1_1 + 1)) + 1))]) (j := 2) hcl20 hcc20 (show 3 ≤ 7 from by decide) (x' := (⟨(⟨(rd_T119 y867 x5_1).f0.f0, (rd_T119 y867 x5_1).f0.f1⟩ : S29), (⟨wrap64 ((wrap64 (x1_1 + 1)) + 1), (rd_T119 y867 x5_1).f1.f1⟩ : S29), (rd_T119 y867 x5_1).f2, (rd_T119 y867 x5_1).f3, (rd_T119 y867 x5_1).f4⟩ : S119)) (k119_mkM _ _ _ (⟨(⟨(rd_T119 y867 x5_1).f0.f0, (rd_T119 y867 x5_1).f0.f1⟩ : S29), (⟨wrap64 ((wrap64 (x1_1 + 1)) + 1), (rd_T119 y867 x5_1).f1.f1⟩ : S29), (rd_T119 y867 x5_1).f2, (rd_T119 y867 x5_1).f3, (rd_T119 y867 x5_1).f4⟩ : S119) ) (fun _ hk => hk); have hx20_2 := hcc20 2 _ rfl; (try simp only [show (k119).sz = 7 from rfl, Nat.mul_one, Nat.add_zero] at hx20_2); have hf20_2 := hfr20 2; (try simp only [show (k119).sz = 7 from rfl, Nat.mul_one, Nat.add_zero] at hf20_2); clear hcl20 hcc20 hfr20 hM20) | ((with_reducible refine gate_store (t := 3) (p := 33) rfl ?_); refine store_event (t := 3) (p := 33) (v := ?vo_w21) (w1 := (w19.setCell ⟨go5, (x5_1 : Int).toNat * 7 + 2, none⟩ (.int .i64 (wrap64 ((wrap64 (x1_1 + 1)) + 1))))) ?hg ?ho ?hn ?hr ?_; (case ho => rfl); (case hg => rfl); (case hn => rfl); (case hr => first | (go_simp; done) | (go_simp; rfl)); intro w21 hw; have hg : w19.grownBy w21 (some go5) := (by rw [hw]; exact HP20.2); have hp_ : Kd.R k119 119 w21 w0.heap.size (fun k_ => (P0_ k_ ∨ w.heap.size ≤ k_)) (.slice (some ⟨go5, 0, none⟩) x0_1.length co15) y868 := (by rw [hw, Ny868.out]; exact HP20.1); clear HP20; have n0_ := Aside0.mk (hp_); have n1_ := Aside0.mk ((by rw [hw]; exact below_set (HB.out) GB5.out : Below w0.heap.size w0 w21)); have n2_ := Aside0.mk (Kept.of_grown (S := (fun k_ => P0_ k_)) hg (by repeat (first | (with_reducible first | exact HK.out | apply Kept.alloc | apply Kept.drewN | apply Kept.drew) | exact HK.out)) (fun k_ e_ => (HO_0.out.1 k_ e_))); clear HO_0; clear HB; clear HK; have HO_0 := n0_; have HB := n1_; have HK := n2_; clear n0_ n1_ n2_; clear hg hw hp_; have p8 : 0 ≤ (x5_1 : Int) := of_decide_eq_true (by first | (with_reducible assumption) | assumption); have q8 : (x5_1 : Int) < ((x0_1.length : Int) : Int) := of_decide_eq_true (by first | (with_reducible assumption) | assumption); obtain ⟨ce8, hcl8, hM8, hcc8, hfr8⟩ := Kd.R_elem HO_0.out z119 (x5_1 : Int) p8 q8; obtain rfl := k119_openM hM8; have hx8_0 : w21.cell? ⟨go5, (x5_1 : Int).toNat * 7, none⟩ = some (.int .i64 ((rd_T119 y868 x5_1).f0.f0)) := hcc8 0 _ rfl; have hx8_1 : w21.cell? ⟨go5, (x5_1 : Int).toNat * 7 + 1, none⟩ = some (.int .i64 ((rd_T119 y868 x5_1).f0.f1)) := hcc8 1 _ rfl; have hx8_2 : w21.cell? ⟨go5, (x5_1 : Int).toNat * 7 + 2, none⟩ = some (.int .i64 ((rd_T119 y868 x5_1).f1.f0)) := hcc8 2 _ rfl; have hx8_3 : w21.cell? ⟨go5, (x5_1 : Int).toNat * 7 + 3, none⟩ = some (.int .i64 ((rd_T119 y868 x5_1).f1.f1)) := hcc8 3 _ rfl; have hx8_4 : w21.cell? ⟨go5, (x5_1 : Int).toNat * 7 + 4, none⟩ = some (.string ((rd_T119 y868 x5_1).f2)) := hcc8 4 _ rfl; have hx8_5 : w21.cell? ⟨go5, (x5_1 : Int).toNat * 7 + 5, none⟩ = some (.string ((rd_T119 y868 x5_1).f3)) := hcc8 5 _ rfl; have hx8_6 : w21.cell? ⟨go5, (x5_1 : Int).toNat * 7 + 6, none⟩ = some (.string ((rd_T119 y868 x5_1).f4)) := hcc8 6 _ rfl; have hf8_0 : w21.frozen? ⟨go5, (x5_1 : Int).toNat * 7, none⟩ = false := hfr8 0; have hf8_1 : w21.frozen? ⟨go5, (x5_1 : Int).toNat * 7 + 1, none⟩ = false := hfr8 1; have hf8_2 : w21.frozen? ⟨go5, (x5_1 : Int).toNat * 7 + 2, none⟩ = false := hfr8 2; have hf8_3 : w21.frozen? ⟨go5, (x5_1 : Int).toNat * 7 + 3, none⟩ = false := hfr8 3; have hf8_4 : w21.frozen? ⟨go5, (x5_1 : Int).toNat * 7 + 4, none⟩ = false := hfr8 4; have hf8_5 : w21.frozen? ⟨go5, (x5_1 : Int).toNat * 7 + 5, none⟩ = false := hfr8 5; have hf8_6 : w21.frozen? ⟨go5, (x5_1 : Int).toNat * 7 + 6, none⟩ = false := hfr8 6; clear hcl8 hcc8 hfr8 hM8; replace p8 := eq_true p8; replace q8 := eq_true q8; have HX22 := Aside0.mk (show Kd.R k119 119 w21 w0.heap.size (fun k_ => (P0_ k_ ∨ w.heap.size ≤ k_)) (.slice (some ⟨go5, 0, none⟩) x0_1.length co15) y868 from (rs HO_0)); obtain ⟨ce22, hcl22, hM22, hcc22, hfr22⟩ := Kd.R_elem HX22.out z119 (x5_1 : Int) (of_decide_eq_true (by first | (with_reducible assumption) | assumption)) (by have h_ : (x5_1 : Int) < ((x0_1.length : Int) : Int) := of_decide_eq_true (by first | (with_reducible assumption) | assumption); first | exact h_ | (have e_ := (Kd.R_reads' HO_0.out).1; omega) | simpa using h_); obtain rfl := k119_openM hM22; have HP22 := Kd.R_seg HX22.out (x5_1 : Int) (of_decide_eq_true (by first | (with_reducible assumption) | assumption)) (by have h_ : (x5_1 : Int) < ((x0_1.length : Int) : Int) := of_decide_eq_true (by first | (with_reducible assumption) | assumption); first | exact h_ | (have e_ := (Kd.R_reads' HO_0.out).1; omega) | simpa using h_) (seg := [.int .i64 (wrap64 ((wrap64 ((wrap64 (x1_1 + 1)) + 1)) + 1))]) (j := 3) hcl22 hcc22 (show 4 ≤ 7 from by decide) (x' := (⟨(⟨(rd_T119 y868 x5_1).f0.f0, (rd_T119 y868 x5_1).f0.f1⟩ : S29), (⟨(rd_T119 y868 x5_1).f1.f0, wrap64 ((wrap64 ((wrap64 (x1_1 + 1)) + 1)) + 1)⟩ : S29), (rd_T119 y868 x5_1).f2, (rd_T119 y868 x5_1).f3, (rd_T119 y868 x5_1).f4⟩ : S119)) (k119_mkM _ _ _ (⟨(⟨(rd_T119 y868 x5_1).f0.f0, (rd_T119 y868 x5_1).f0.f1⟩ : S29), (⟨(rd_T119 y868 x5_1).f1.f0, wrap64 ((wrap64 ((wrap64 (x1_1 + 1)) + 1)) + 1)⟩ : S29), (rd_T119 y868 x5_1).f2, (rd_T119 y868 x5_1).f3, (rd_T119 y868 x5_1).f4⟩ : S119) ) (fun _ hk => hk); have hx22_3 := hcc22 3 _ rfl; (try simp only [show (k119).sz = 7 from rfl, Nat.mul_one, Nat.add_zero] at hx22_3); have hf22_3 := hfr22 3; (try simp only [show (k119).sz = 7 from rfl, Nat.mul_one, Nat.add_zero] at hf22_3); clear hcl22 hcc22 hfr22 hM22) | ((with_reducible refine gate_store (t := 3) (p := 41) rfl ?_); refine store_event (t := 3) (p := 41) (v := ?vo_w23) (w1 := (w21.setCell ⟨go5, (x5_1 : Int).toNat * 7 + 3, none⟩ (.int .i64 (wrap64 ((wrap64 ((wrap64 (x1_1 + 1)) + 1)) + 1))))) ?hg ?ho ?hn ?hr ?_; (case ho => rfl); (case hg => rfl); (case hn => rfl); (case hr => first | (go_simp; done) | (go_simp; rfl)); intro w23 hw; have hg : w21.grownBy w23 (some go5) := (by rw [hw]; exact HP22.2); have hp_ : Kd.R k119 119 w23 w0.heap.size (fun k_ => (P0_ k_ ∨ w.heap.size ≤ k_)) (.slice (some ⟨go5, 0, none⟩) x0_1.length co15) y869 := (by rw [hw, Ny869.out]; exact HP22.1); clear HP22; have n0_ := Aside0.mk (hp_); have n1_ := Aside0.mk ((by rw [hw]; exact below_set (HB.out) GB5.out : Below w0.heap.size w0 w23)); have n2_ := Aside0.mk (Kept.of_grown (S := (fun k_ => P0_ k_)) hg (by repeat (first | (with_reducible first | exact HK.out | apply Kept.alloc | apply Kept.drewN | apply Kept.drew) | exact HK.out)) (fun k_ e_ => (HO_0.out.1 k_ e_))); clear HO_0; clear HB; clear HK; have HO_0 := n0_; have HB := n1_; have HK := n2_; clear n0_ n1_ n2_; clear hg hw hp_) | ((with_reducible refine gate_callee (f := 99) rfl ?_); refine goesL_ (some 47) rfl rfl Try.func99 (by kernel_rfl) rfl #[.int .i64 (wrap64 ((wrap64 ((wrap64 ((wrap64 (x1_1 + 1)) + 1)) + 1)) + 1))] rfl (by (try simp only [List.map_toArray, List.map_cons, List.map_nil]); first | done | rfl | (simp only [List.length_drop, List.length_take]; rfl)) ?_; (with_reducible refine (laws_markText.calls k1 (wrap64 ((wrap64 ((wrap64 ((wrap64 (x1_1 + 1)) + 1)) + 1)) + 1)) t870 _ A9.out).mono ?_); rintro e w24 ⟨rfl, hb⟩; refine ⟨_, rfl, ?_⟩; have n0_ := Aside0.mk (Kd.R_below (rs HO_0) hb); have n1_ := Aside0.mk (Kept.below (S := (fun k_ => P0_ k_)) (by repeat (first | (with_reducible first | exact HK.out | apply Kept.alloc | apply Kept.drewN | apply Kept.drew) | exact HK.out)) hb); have n2_ := Aside0.mk (below_step (bl HB) hb); clear HO_0; clear HK; clear HB; have HO_0 := n0_; have HK := n1_; have HB := n2_; clear n0_ n1_ n2_; (try clear hb); (try clear hb2); (try clear hk); (try clear hi); have p10 : 0 ≤ (x5_1 : Int) := of_decide_eq_true (by first | (with_reducible assumption) | assumption); have q10 : (x5_1 : Int) < ((x0_1.length : Int) : Int) := of_decide_eq_true (by first | (with_reducible assumption) | assumption); obtain ⟨ce10, hcl10, hM10, hcc10, hfr10⟩ := Kd.R_elem HO_0.out z119 (x5_1 : Int) p10 q10; obtain rfl := k119_openM hM10; have hx10_0 : w24.cell? ⟨go5, (x5_1 : Int).toNat * 7, none⟩ = some (.int .i64 ((rd_T119 y869 x5_1).f0.f0)) := hcc10 0 _ rfl; have hx10_1 : w24.cell? ⟨go5, (x5_1 : Int).toNat * 7 + 1, none⟩ = some (.int .i64 ((rd_T119 y869 x5_1).f0.f1)) := hcc10 1 _ rfl; have hx10_2 : w24.cell? ⟨go5, (x5_1 : Int).toNat * 7 + 2, none⟩ = some (.int .i64 ((rd_T119 y869 x5_1).f1.f0)) := hcc10 2 _ rfl; have hx10_3 : w24.cell? ⟨go5, (x5_1 : Int).toNat * 7 + 3, none⟩ = some (.int .i64 ((rd_T119 y869 x5_1).f1.f1)) := hcc10 3 _ rfl; have hx10_4 : w24.cell? ⟨go5, (x5_1 : Int).toNat * 7 + 4, none⟩ = some (.string ((rd_T119 y869 x5_1).f2)) := hcc10 4 _ rfl; have hx10_5 : w24.cell? ⟨go5, (x5_1 : Int).toNat * 7 + 5, none⟩ = some (.string ((rd_T119 y869 x5_1).f3)) := hcc10 5 _ rfl; have hx10_6 : w24.cell? ⟨go5, (x5_1 : Int).toNat * 7 + 6, none⟩ = some (.string ((rd_T119 y869 x5_1).f4)) := hcc10 6 _ rfl; have hf10_0 : w24.frozen? ⟨go5, (x5_1 : Int).toNat * 7, none⟩ = false := hfr10 0; have hf10_1 : w24.frozen? ⟨go5, (x5_1 : Int).toNat * 7 + 1, none⟩ = false := hfr10 1; have hf10_2 : w24.frozen? ⟨go5, (x5_1 : Int).toNat * 7 + 2, none⟩ = false := hfr10 2; have hf10_3 : w24.frozen? ⟨go5, (x5_1 : Int).toNat * 7 + 3, none⟩ = false := hfr10 3; have hf10_4 : w24.frozen? ⟨go5, (x5_1 : Int).toNat * 7 + 4, none⟩ = false := hfr10 4; have hf10_5 : w24.frozen? ⟨go5, (x5_1 : Int).toNat * 7 + 5, none⟩ = false := hfr10 5; have hf10_6 : w24.frozen? ⟨go5, (x5_1 : Int).toNat * 7 + 6, none⟩ = false := hfr10 6; clear hcl10 hcc10 hfr10 hM10; replace p10 := eq_true p10; replace q10 := eq_true q10; have HX25 := Aside0.mk (show Kd.R k119 119 w24 w0.heap.size (fun k_ => (P0_ k_ ∨ w.heap.size ≤ k_)) (.slice (some ⟨go5, 0, none⟩) x0_1.length co15) y869 from (rs HO_0)); obtain ⟨ce25, hcl25, hM25, hcc25, hfr25⟩ := Kd.R_elem HX25.out z119 (x5_1 : Int) (of_decide_eq_true (by first | (with_reducible assumption) | assumption)) (by have h_ : (x5_1 : Int) < ((x0_1.length : Int) : Int) := of_decide_eq_true (by first | (with_reducible assumption) | assumption); first | exact h_ | (have e_ := (Kd.R_reads' HO_0.out).1; omega) | simpa using h_); obtain rfl := k119_openM hM25; have HP25 := Kd.R_seg HX25.out (x5_1 : Int) (of_decide_eq_true (by first | (with_reducible assumption) | assumption)) (by have h_ : (x5_1 : Int) < ((x0_1.length : Int) : Int) := of_decide_eq_true (by first | (with_reducible assumption) | assumption); first | exact h_ | (have e_ := (Kd.R_reads' HO_0.out).1; omega) | simpa using h_) (seg := [.string t870]) (j := 4) hcl25 hcc25 (show 5 ≤ 7 from by decide) (x' := (⟨(⟨(rd_T119 y869 x5_1).f0.f0, (rd_T119 y869 x5_1).f0.f1⟩ : S29), (⟨(rd_T119 y869 x5_1).f1.f0, (rd_T119 y869 x5_1).f1.f1⟩ : S29), t870, (rd_T119 y869 x5_1).f3, (rd_T119 y869 x5_1).f4⟩ : S119)) (k119_mkM _ _ _ (⟨(⟨(rd_T119 y869 x5_1).f0.f0, (rd_T119 y869 x5_1).f0.f1⟩ : S29), (⟨(rd_T119 y869 x5_1).f1.f0, (rd_T119 y869 x5_1).f1.f1⟩ : S29), t870, (rd_T119 y869 x5_1).f3, (rd_T119 y869 x5_1).f4⟩ : S119) ) (fun _ hk => hk); have hx25_4 := hcc25 4 _ rfl; (try simp only [show (k119).sz = 7 from rfl, Nat.mul_one, Nat.add_zero] at hx25_4); have hf25_4 := hfr25 4; (try simp only [show (k119).sz = 7 from rfl, Nat.mul_one, Nat.add_zero] at hf25_4); clear hcl25 hcc25 hfr25 hM25) | ((with_reducible refine gate_store (t := 9) (p := 49) rfl ?_); refine store_event (t := 9) (p := 49) (v := ?vo_w26) (w1 := (w24.setCell ⟨go5, (x5_1 : Int).toNat * 7 + 4, none⟩ (.string t870))) ?hg ?ho ?hn ?hr ?_; (case ho => rfl); (case hg => rfl); (case hn => rfl); (case hr => first | (go_simp; done) | (go_simp; rfl)); intro w26 hw; have hg : w24.grownBy w26 (some go5) := (by rw [hw]; exact HP25.2); have hp_ : Kd.R k119 119 w26 w0.heap.size (fun k_ => (P0_ k_ ∨ w.heap.size ≤ k_)) (.slice (some ⟨go5, 0, none⟩) x0_1.length co15) y871 := (by rw [hw, Ny871.out]; exact HP25.1); clear HP25; have n0_ := Aside0.mk (hp_); have n1_ := Aside0.mk ((by rw [hw]; exact below_set (HB.out) GB5.out : Below w0.heap.size w0 w26)); have n2_ := Aside0.mk (Kept.of_grown (S := (fun k_ => P0_ k_)) hg (by repeat (first | (with_reducible first | exact HK.out | apply Kept.alloc | apply Kept.drewN | apply Kept.drew) | exact HK.out)) (fun k_ e_ => (HO_0.out.1 k_ e_))); clear HO_0; clear HB; clear HK; have HO_0 := n0_; have HB := n1_; have HK := n2_; clear n0_ n1_ n2_; clear hg hw hp_) | ((with_reducible refine gate_callee (f := 99) rfl ?_); refine goesL_ (some 55) rfl rfl Try.func99 (by kernel_rfl) rfl #[.int .i64 (wrap64 ((wrap64 ((wrap64 ((wrap64 ((wrap64 (x1_1 + 1)) + 1)) + 1)) + 1)) + 1))] rfl (by (try simp only [List.map_toArray, List.map_cons, List.map_nil]); first | done | rfl | (simp only [List.length_drop, List.length_take]; rfl)) ?_; (with_reducible refine (laws_markText.calls k1 (wrap64 ((wrap64 ((wrap64 ((wrap64 ((wrap64 (x1_1 + 1)) + 1)) + 1)) + 1)) + 1)) t872 _ A11.out).mono ?_); rintro e w27 ⟨rfl, hb⟩; refine ⟨_, rfl, ?_⟩; have n0_ := Aside0.mk (Kd.R_below (rs HO_0) hb); have n1_ := Aside0.mk (Kept.below (S := (fun k_ => P0_ k_)) (by repeat (first | (with_reducible first | exact HK.out | apply Kept.alloc | apply Kept.drewN | apply Kept.drew) | exact HK.out)) hb); have n2_ := Aside0.mk (below_step (bl HB) hb); clear HO_0; clear HK; clear HB; have HO_0 := n0_; have HK := n1_; have HB := n2_; clear n0_ n1_ n2_; (try clear hb); (try clear hb2); (try clear hk); (try clear hi); have p12 : 0 ≤ (x5_1 : Int) := of_decide_eq_true (by first | (with_reducible assumption) | assumption); have q12 : (x5_1 : Int) < ((x0_1.length : Int) : Int) := of_decide_eq_true (by first | (with_reducible assumption) | assumption); obtain ⟨ce12, hcl12, hM12, hcc12, hfr12⟩ := Kd.R_elem HO_0.out z119 (x5_1 : Int) p12 q12; obtain rfl := k119_openM hM12; have hx12_0 : w27.cell? ⟨go5, (x5_1 : Int).toNat * 7, none⟩ = some (.int .i64 ((rd_T119 y871 x5_1).f0.f0)) := hcc12 0 _ rfl; have hx12_1 : w27.cell? ⟨go5, (x5_1 : Int).toNat * 7 + 1, none⟩ = some (.int .i64 ((rd_T119 y871 x5_1).f0.f1)) := hcc12 1 _ rfl; have hx12_2 : w27.cell? ⟨go5, (x5_1 : Int).toNat * 7 + 2, none⟩ = some (.int .i64 ((rd_T119 y871 x5_1).f1.f0)) := hcc12 2 _ rfl; have hx12_3 : w27.cell? ⟨go5, (x5_1 : Int).toNat * 7 + 3, none⟩ = some (.int .i64 ((rd_T119 y871 x5_1).f1.f1)) := hcc12 3 _ rfl; have hx12_4 : w27.cell? ⟨go5, (x5_1 : Int).toNat * 7 + 4, none⟩ = some (.string ((rd_T119 y871 x5_1).f2)) := hcc12 4 _ rfl; have hx12_5 : w27.cell? ⟨go5, (x5_1 : Int).toNat * 7 + 5, none⟩ = some (.string ((rd_T119 y871 x5_1).f3)) := hcc12 5 _ rfl; have hx12_6 : w27.cell? ⟨go5, (x5_1 : Int).toNat * 7 + 6, none⟩ = some (.string ((rd_T119 y871 x5_1).f4)) := hcc12 6 _ rfl; have hf12_0 : w27.frozen? ⟨go5, (x5_1 : Int).toNat * 7, none⟩ = false := hfr12 0; have hf12_1 : w27.frozen? ⟨go5, (x5_1 : Int).toNat * 7 + 1, none⟩ = false := hfr12 1; have hf12_2 : w27.frozen? ⟨go5, (x5_1 : Int).toNat * 7 + 2, none⟩ = false := hfr12 2; have hf12_3 : w27.frozen? ⟨go5, (x5_1 : Int).toNat * 7 + 3, none⟩ = false := hfr12 3; have hf12_4 : w27.frozen? ⟨go5, (x5_1 : Int).toNat * 7 + 4, none⟩ = false := hfr12 4; have hf12_5 : w27.frozen? ⟨go5, (x5_1 : Int).toNat * 7 + 5, none⟩ = false := hfr12 5; have hf12_6 : w27.frozen? ⟨go5, (x5_1 : Int).toNat * 7 + 6, none⟩ = false := hfr12 6; clear hcl12 hcc12 hfr12 hM12; replace p12 := eq_true p12; replace q12 := eq_true q12; have HX28 := Aside0.mk (show Kd.R k119 119 w27 w0.heap.size (fun k_ => (P0_ k_ ∨ w.heap.size ≤ k_)) (.slice (some ⟨go5, 0, none⟩) x0_1.length co15) y871 from (rs HO_0)); obtain ⟨ce28, hcl28, hM28, hcc28, hfr28⟩ := Kd.R_elem HX28.out z119 (x5_1 : Int) (of_decide_eq_true (by first | (with_reducible assumption) | assumption)) (by have h_ : (x5_1 : Int) < ((x0_1.length : Int) : Int) := of_decide_eq_true (by first | (with_reducible assumption) | assumption); first | exact h_ | (have e_ := (Kd.R_reads' HO_0.out).1; omega) | simpa using h_); obtain rfl := k119_openM hM28; have HP28 := Kd.R_seg HX28.out (x5_1 : Int) (of_decide_eq_true (by first | (with_reducible assumption) | assumption)) (by have h_ : (x5_1 : Int) < ((x0_1.length : Int) : Int) := of_decide_eq_true (by first | (with_reducible assumption) | assumption); first | exact h_ | (have e_ := (Kd.R_reads' HO_0.out).1; omega) | simpa using h_) (seg := [.string t872]) (j := 5) hcl28 hcc28 (show 6 ≤ 7 from by decide) (x' := (⟨(⟨(rd_T119 y871 x5_1).f0.f0, (rd_T119 y871 x5_1).f0.f1⟩ : S29), (⟨(rd_T119 y871 x5_1).f1.f0, (rd_T119 y871 x5_1).f1.f1⟩ : S29), (rd_T119 y871 x5_1).f2, t872, (rd_T119 y871 x5_1).f4⟩ : S119)) (k119_mkM _ _ _ (⟨(⟨(rd_T119 y871 x5_1).f0.f0, (rd_T119 y871 x5_1).f0.f1⟩ : S29), (⟨(rd_T119 y871 x5_1).f1.f0, (rd_T119 y871 x5_1).f1.f1⟩ : S29), (rd_T119 y871 x5_1).f2, t872, (rd_T119 y871 x5_1).f4⟩ : S119) ) (fun _ hk => hk); have hx28_5 := hcc28 5 _ rfl; (try simp only [show (k119).sz = 7 from rfl, Nat.mul_one, Nat.add_zero] at hx28_5); have hf28_5 := hfr28 5; (try simp only [show (k119).sz = 7 from rfl, Nat.mul_one, Nat.add_zero] at hf28_5); clear hcl28 hcc28 hfr28 hM28) | ((with_reducible refine gate_store (t := 9) (p := 57) rfl ?_); refine store_event (t := 9) (p := 57) (v := ?vo_w29) (w1 := (w27.setCell ⟨go5, (x5_1 : Int).toNat * 7 + 5, none⟩ (.string t872))) ?hg ?ho ?hn ?hr ?_; (case ho => rfl); (case hg => rfl); (case hn => rfl); (case hr => first | (go_simp; done) | (go_simp; rfl)); intro w29 hw; have hg : w27.grownBy w29 (some go5) := (by rw [hw]; exact HP28.2); have hp_ : Kd.R k119 119 w29 w0.heap.size (fun k_ => (P0_ k_ ∨ w.heap.size ≤ k_)) (.slice (some ⟨go5, 0, none⟩) x0_1.length co15) y873 := (by rw [hw, Ny873.out]; exact HP28.1); clear HP28; have n0_ := Aside0.mk (hp_); have n1_ := Aside0.mk ((by rw [hw]; exact below_set (HB.out) GB5.out : Below w0.heap.size w0 w29)); have n2_ := Aside0.mk (Kept.of_grown (S := (fun k_ => P0_ k_)) hg (by repeat (first | (with_reducible first | exact HK.out | apply Kept.alloc | apply Kept.drewN | apply Kept.drew) | exact HK.out)) (fun k_ e_ => (HO_0.out.1 k_ e_))); clear HO_0; clear HB; clear HK; have HO_0 := n0_; have HB := n1_; have HK := n2_; clear n0_ n1_ n2_; clear hg hw hp_) | ((with_reducible refine gate_callee (f := 99) rfl ?_); refine goesL_ (some 63) rfl rfl Try.func99 (by kernel_rfl) rfl #[.int .i64 (wrap64 ((wrap64 ((wrap64 ((wrap64 ((wrap64 ((wrap64 (x1_1 + 1)) + 1)) + 1)) + 1)) + 1)) + 1))] rfl (by (try simp only [List.map_toArray, List.map_cons, List.map_nil]); first | done | rfl | (simp only [List.length_drop, List.length_take]; rfl)) ?_; (with_reducible refine (laws_markText.calls k1 (wrap64 ((wrap64 ((wrap64 ((wrap64 ((wrap64 ((wrap64 (x1_1 + 1)) + 1)) + 1)) + 1)) + 1)) + 1)) t874 _ A13.out).mono ?_); rintro e w30 ⟨rfl, hb⟩; refine ⟨_, rfl, ?_⟩; have n0_ := Aside0.mk (Kd.R_below (rs HO_0) hb); have n1_ := Aside0.mk (Kept.below (S := (fun k_ => P0_ k_)) (by repeat (first | (with_reducible first | exact HK.out | apply Kept.alloc | apply Kept.drewN | apply Kept.drew) | exact HK.out)) hb); have n2_ := Aside0.mk (below_step (bl HB) hb); clear HO_0; clear HK; clear HB; have HO_0 := n0_; have HK := n1_; have HB := n2_; clear n0_ n1_ n2_; (try clear hb); (try clear hb2); (try clear hk); (try clear hi); have p14 : 0 ≤ (x5_1 : Int) := of_decide_eq_true (by first | (with_reducible assumption) | assumption); have q14 : (x5_1 : Int) < ((x0_1.length : Int) : Int) := of_decide_eq_true (by first | (with_reducible assumption) | assumption); obtain ⟨ce14, hcl14, hM14, hcc14, hfr14⟩ := Kd.R_elem HO_0.out z119 (x5_1 : Int) p14 q14; obtain rfl := k119_openM hM14; have hx14_0 : w30.cell? ⟨go5, (x5_1 : Int).toNat * 7, none⟩ = some (.int .i64 ((rd_T119 y873 x5_1).f0.f0)) := hcc14 0 _ rfl; have hx14_1 : w30.cell? ⟨go5, (x5_1 : Int).toNat * 7 + 1, none⟩ = some (.int .i64 ((rd_T119 y873 x5_1).f0.f1)) := hcc14 1 _ rfl; have hx14_2 : w30.cell? ⟨go5, (x5_1 : Int).toNat * 7 + 2, none⟩ = some (.int .i64 ((rd_T119 y873 x5_1).f1.f0)) := hcc14 2 _ rfl; have hx14_3 : w30.cell? ⟨go5, (x5_1 : Int).toNat * 7 + 3, none⟩ = some (.int .i64 ((rd_T119 y873 x5_1).f1.f1)) := hcc14 3 _ rfl; have hx14_4 : w30.cell? ⟨go5, (x5_1 : Int).toNat * 7 + 4, none⟩ = some (.string ((rd_T119 y873 x5_1).f2)) := hcc14 4 _ rfl; have hx14_5 : w30.cell? ⟨go5, (x5_1 : Int).toNat * 7 + 5, none⟩ = some (.string ((rd_T119 y873 x5_1).f3)) := hcc14 5 _ rfl; have hx14_6 : w30.cell? ⟨go5, (x5_1 : Int).toNat * 7 + 6, none⟩ = some (.string ((rd_T119 y873 x5_1).f4)) := hcc14 6 _ rfl; have hf14_0 : w30.frozen? ⟨go5, (x5_1 : Int).toNat * 7, none⟩ = false := hfr14 0; have hf14_1 : w30.frozen? ⟨go5, (x5_1 : Int).toNat * 7 + 1, none⟩ = false := hfr14 1; have hf14_2 : w30.frozen? ⟨go5, (x5_1 : Int).toNat * 7 + 2, none⟩ = false := hfr14 2; have hf14_3 : w30.frozen? ⟨go5, (x5_1 : Int).toNat * 7 + 3, none⟩ = false := hfr14 3; have hf14_4 : w30.frozen? ⟨go5, (x5_1 : Int).toNat * 7 + 4, none⟩ = false := hfr14 4; have hf14_5 : w30.frozen? ⟨go5, (x5_1 : Int).toNat * 7 + 5, none⟩ = false := hfr14 5; have hf14_6 : w30.frozen? ⟨go5, (x5_1 : Int).toNat * 7 + 6, none⟩ = false := hfr14 6; clear hcl14 hcc14 hfr14 hM14; replace p14 := eq_true p14; replace q14 := eq_true q14; have HX31 := Aside0.mk (show Kd.R k119 119 w30 w0.heap.size (fun k_ => (P0_ k_ ∨ w.heap.size ≤ k_)) (.slice (some ⟨go5, 0, none⟩) x0_1.length co15) y873 from (rs HO_0)); obtain ⟨ce31, hcl31, hM31, hcc31, hfr31⟩ := Kd.R_elem HX31.out z119 (x5_1 : Int) (of_decide_eq_true (by first | (with_reducible assumption) | assumption)) (by have h_ : (x5_1 : Int) < ((x0_1.length : Int) : Int) := of_decide_eq_true (by first | (with_reducible assumption) | assumption); first | exact h_ | (have e_ := (Kd.R_reads' HO_0.out).1; omega) | simpa using h_); obtain rfl := k119_openM hM31; have HP31 := Kd.R_seg HX31.out (x5_1 : Int) (of_decide_eq_true (by first | (with_reducible assumption) | assumption)) (by have h_ : (x5_1 : Int) < ((x0_1.length : Int) : Int) := of_decide_eq_true (by first | (with_reducible assumption) | assumption); first | exact h_ | (have e_ := (Kd.R_reads' HO_0.out).1; omega) | simpa using h_) (seg := [.string t874]) (j := 6) hcl31 hcc31 (show 7 ≤ 7 from by decide) (x' := (⟨(⟨(rd_T119 y873 x5_1).f0.f0, (rd_T119 y873 x5_1).f0.f1⟩ : S29), (⟨(rd_T119 y873 x5_1).f1.f0, (rd_T119 y873 x5_1).f1.f1⟩ : S29), (rd_T119 y873 x5_1).f2, (rd_T119 y873 x5_1).f3, t874⟩ : S119)) (k119_mkM _ _ _ (⟨(⟨(rd_T119 y873 x5_1).f0.f0, (rd_T119 y873 x5_1).f0.f1⟩ : S29), (⟨(rd_T119 y873 x5_1).f1.f0, (rd_T119 y873 x5_1).f1.f1⟩ : S29), (rd_T119 y873 x5_1).f2, (rd_T119 y873 x5_1).f3, t874⟩ : S119) ) (fun _ hk => hk); have hx31_6 := hcc31 6 _ rfl; (try simp only [show (k119).sz = 7 from rfl, Nat.mul_one, Nat.add_zero] at hx31_6); have hf31_6 := hfr31 6; (try simp only [show (k119).sz = 7 from rfl, Nat.mul_one, Nat.add_zero] at hf31_6); clear hcl31 hcc31 hfr31 hM31) | ((with_reducible refine gate_store (t := 9) (p := 65) rfl ?_); refine store_event (t := 9) (p := 65) (v := ?vo_w32) (w1 := (w30.setCell ⟨go5, (x5_1 : Int).toNat * 7 + 6, none⟩ (.string t874))) ?hg ?ho ?hn ?hr ?_; (case ho => rfl); (case hg => rfl); (case hn => rfl); (case hr => first | (go_simp; done) | (go_simp; rfl)); intro w32 hw; have hg : w30.grownBy w32 (some go5) := (by rw [hw]; exact HP31.2); have hp_ : Kd.R k119 119 w32 w0.heap.size (fun k_ => (P0_ k_ ∨ w.heap.size ≤ k_)) (.slice (some ⟨go5, 0, none⟩) x0_1.length co15) y875 := (by rw [hw, Ny875.out]; exact HP31.1); clear HP31; have n0_ := Aside0.mk (hp_); have n1_ := Aside0.mk ((by rw [hw]; exact below_set (HB.out) GB5.out : Below w0.heap.size w0 w32)); have n2_ := Aside0.mk (Kept.of_grown (S := (fun k_ => P0_ k_)) hg (by repeat (first | (with_reducible first | exact HK.out | apply Kept.alloc | apply Kept.drewN | apply Kept.drew) | exact HK.out)) (fun k_ e_ => (HO_0.out.1 k_ e_))); clear HO_0; clear HB; clear HK; have HO_0 := n0_; have HB := n1_; have HK := n2_; clear n0_ n1_ n2_; clear hg hw hp_))
          go_roundg k1
          case measure => have := HK1.out; omega
          case rel => exact ⟨(y875), (wrap64 ((wrap64 ((wrap64 ((wrap64 ((wrap64 ((wrap64 ((wrap64 (x1_1 + 1)) + 1)) + 1)) + 1)) + 1)) + 1)) + 1)), (wrap64 (x5_1 + 1)), (by first | rfl | (simp; done) | (simp [*]; done)), (by first | rfl | (simp; done) | (simp [*]; done)), H', ⟨by have := HK1.out; omega⟩, ⟨by (with_reducible repeat apply ru); exact HO_0.out⟩, ⟨by repeat (first | (with_reducible first | exact HK.out | apply Kept.alloc | apply Kept.drewN | apply Kept.drew) | exact HK.out)⟩, ⟨by repeat (first | (with_reducible first | exact HB.out | apply below_alloc | apply pw_below_drewN | apply below_drew1) | exact HB.out)⟩⟩
        · rw [if_neg c4] at H
          exact absurd H (by simp)
      · rw [if_neg c3] at H
        have c3b0 : decide (x5_1 < (x0_1.length : Int)) = false := decide_eq_false c3
        clear c3
        simp only [Option.some.injEq, Prod.mk.injEq] at H
        obtain ⟨rfl, rfl⟩ := H
        obtain ⟨Ao33, co33, eo33⟩ := Kd.R_slice HO_0.out
        subst eo33
        go_wp2
        go_ret
        exact ⟨by first | rfl | (simp [errW_none, errW_some] <;> rfl) | (simp [*, errW_none, errW_some] <;> rfl), by (with_reducible repeat apply ru); exact HO_0.out, by repeat (first | (with_reducible first | exact HB.out | apply below_alloc | apply pw_below_drewN | apply below_drew1) | exact HB.out), by repeat (first | (with_reducible first | exact HK.out | apply Kept.alloc | apply Kept.drewN | apply Kept.drew) | exact HK.out)⟩

end Go.Proofs.Ytiocgkggegahhaa.P

-- written by hw.py for this claim
namespace Go.Proofs.Ytiocgkggegahhaa.P
open Go.RowKit Go.Proofs.YtiocgkggegahhaaUFnExactBoxNew.PrintWords Go.Proofs.YtiocgkggegahhaaUFnExactBoxNew.PrintLast Go.Proofs.YtiocgkggegahhaaUFnExactBoxNew.PrintMore
attribute [local go_sem] max2_int min2_int max_two min_two max_three min_three max_four min_four
set_option linter.unusedVariables false
set_option linter.unusedSimpArgs false

/-! ### laws_markBoxBox: function 42 -/
def laws_markBoxBox.f (k : Nat) (l0_0 : List (S24)) (l0_1 : List (S29)) (l0_2 : List (S119)) (a1 : Int) : Option (Int × (List (S24)) × (List (S29)) × (List (S119))) := (laws_markRulRuleS.f k l0_0 a1).bind fun bt877 => ((laws_markMapTab.f k l0_1 bt877.1).bind fun bt879 => ((laws_markBoxConnS.f k l0_2 bt879.1).bind fun bt881 => (some (bt881.1, bt877.2, bt879.2, bt881.2))))
theorem laws_markBoxBox.mono : ∀ a0 a1 a2 a3 k, LeO (laws_markBoxBox.f k a0 a1 a2 a3) (laws_markBoxBox.f (k + 1) a0 a1 a2 a3) := by
  intro a0 a1 a2 a3 k
  unfold laws_markBoxBox.f
  repeat' first
      | (with_reducible exact laws_markBoxConnS.mono _ _ _)
      | (with_reducible exact laws_markMapTab.mono _ _ _)
      | (with_reducible exact laws_markRulRuleS.mono _ _ _)
      | (with_reducible exact LeO.refl _)
      | (with_reducible exact LeO.none _)
      | (with_reducible refine LeO.ite ?_ ?_)
      | (with_reducible refine LeO.bind ?_ (fun _ => ?_))
      | exact laws_markBoxConnS.mono _ _ _
      | exact laws_markMapTab.mono _ _ _
      | exact laws_markRulRuleS.mono _ _ _
      | exact LeO.none _
      | refine LeO.ite ?_ ?_
      | refine LeO.bind ?_ (fun _ => ?_)
set_option maxHeartbeats 8000000 in
set_option maxRecDepth 100000 in
theorem laws_markBoxBox.calls (k : Nat) (P0_0_ : Nat → Prop) (u9000_ : Value) (l0_0 : List (S24)) (P0_1_ : Nat → Prop) (u9001_ : Value) (l0_1 : List (S29)) (P0_2_ : Nat → Prop) (u9002_ : Value) (l0_2 : List (S119)) (a1 : Int) (r1 : Int) (r2 : List (S24)) (r3 : List (S29)) (r4 : List (S119)) (w0 w : World) (hB : Below w0.heap.size w0 w) (ho0_0 : Kd.R k24 24 w w0.heap.size P0_0_ u9000_ l0_0) (ho0_1 : Kd.R k29 29 w w0.heap.size P0_1_ u9001_ l0_1) (ho0_2 : Kd.R k119 119 w w0.heap.size P0_2_ u9002_ l0_2) (h : laws_markBoxBox.f k l0_0 l0_1 l0_2 a1 = some (r1, r2, r3, r4)) :
    Calls Try.prog 42 #[.agg #[u9000_, u9001_, u9002_], .int .i64 a1] w fun e w' => e = .returned (.int .i64 r1) ∧ Kd.R k24 24 w' w0.heap.size (fun k_ => ((P0_0_ k_ ∨ P0_1_ k_ ∨ P0_2_ k_) ∨ w.heap.size ≤ k_)) u9000_ r2 ∧ Kd.R k29 29 w' w0.heap.size (fun k_ => ((P0_0_ k_ ∨ P0_1_ k_ ∨ P0_2_ k_) ∨ w.heap.size ≤ k_)) u9001_ r3 ∧ Kd.R k119 119 w' w0.heap.size (fun k_ => ((P0_0_ k_ ∨ P0_1_ k_ ∨ P0_2_ k_) ∨ w.heap.size ≤ k_)) u9002_ r4 ∧ Below w0.heap.size w0 w' ∧ Kept w w' (fun k_ => P0_0_ k_ ∨ P0_1_ k_ ∨ P0_2_ k_) := by
  have hu66 := Try.underlying66
  have hu45 := Try.underlying45
  have HO0_0 := Aside0.mk (show Kd.R k24 24 w w0.heap.size (fun k_ => ((P0_0_ k_ ∨ P0_1_ k_ ∨ P0_2_ k_) ∨ w.heap.size ≤ k_)) u9000_ l0_0 from Kd.R_mono ho0_0 (fun k_ hk => (.inl (.inl hk))))
  have HO0_1 := Aside0.mk (show Kd.R k29 29 w w0.heap.size (fun k_ => ((P0_0_ k_ ∨ P0_1_ k_ ∨ P0_2_ k_) ∨ w.heap.size ≤ k_)) u9001_ l0_1 from Kd.R_mono ho0_1 (fun k_ hk => (.inl (.inr (.inl hk)))))
  have HO0_2 := Aside0.mk (show Kd.R k119 119 w w0.heap.size (fun k_ => ((P0_0_ k_ ∨ P0_1_ k_ ∨ P0_2_ k_) ∨ w.heap.size ≤ k_)) u9002_ l0_2 from Kd.R_mono ho0_2 (fun k_ hk => (.inl (.inr (.inr hk)))))
  have HK := Aside0.mk (Kept.refl w (fun k_ => P0_0_ k_ ∨ P0_1_ k_ ∨ P0_2_ k_))
  have HW0 := Aside0.mk hB.size
  have HB := Aside0.mk hB
  clear hB
  have H : ((laws_markRulRuleS.f k l0_0 a1).bind fun bt877 => ((laws_markMapTab.f k l0_1 bt877.1).bind fun bt879 => ((laws_markBoxConnS.f k l0_2 bt879.1).bind fun bt881 => (some (bt881.1, bt877.2, bt879.2, bt881.2))))) = some (r1, r2, r3, r4) := h
  clear h
  replace H := Option.bind_eq_some_iff.mp H
  obtain ⟨⟨t877, t878⟩, A30, H⟩ := H
  replace H : ((laws_markMapTab.f k l0_1 t877).bind fun bt879 => ((laws_markBoxConnS.f k l0_2 bt879.1).bind fun bt881 => (some (bt881.1, t878, bt879.2, bt881.2)))) = some (r1, r2, r3, r4) := H
  have A3 := Aside0.mk A30
  clear A30
  replace H := Option.bind_eq_some_iff.mp H
  obtain ⟨⟨t879, t880⟩, A40, H⟩ := H
  replace H : ((laws_markBoxConnS.f k l0_2 t879).bind fun bt881 => (some (bt881.1, t878, t880, bt881.2))) = some (r1, r2, r3, r4) := H
  have A4 := Aside0.mk A40
  clear A40
  replace H := Option.bind_eq_some_iff.mp H
  obtain ⟨⟨t881, t882⟩, A50, H⟩ := H
  replace H : (some (t881, t878, t880, t882)) = some (r1, r2, r3, r4) := H
  have A5 := Aside0.mk A50
  clear A50
  simp only [Option.some.injEq, Prod.mk.injEq] at H
  obtain ⟨rfl, rfl, rfl, rfl⟩ := H
  obtain ⟨Ao6, co6, eo6⟩ := Kd.R_slice HO0_0.out
  subst eo6
  obtain ⟨Ao7, co7, eo7⟩ := Kd.R_slice HO0_1.out
  subst eo7
  obtain ⟨Ao8, co8, eo8⟩ := Kd.R_slice HO0_2.out
  subst eo8
  go_enter Try.func42, Try.ntmps42
  go_wp2_with (first | ((with_reducible refine gate_dst (N := 2) rfl ?_); refine box_event ?hg (N := 2) ?hd (cs := #[.slice Ao6 l0_0.length co6, .slice Ao7 l0_1.length co7, .slice Ao8 l0_2.length co8]) (t := 66) ?hr ?_; (case hd => rfl); (case hg => rfl); (case hr => first | (go_simp; done) | (go_simp; rfl)); intro gb876 hg w9 hbox hb; have n0_ := Aside0.mk (Kd.R_below (rs HO0_0) hb); have n1_ := Aside0.mk (Kd.R_below (rs HO0_1) hb); have n2_ := Aside0.mk (Kd.R_below (rs HO0_2) hb); have n3_ := Aside0.mk (Kept.below (S := (fun k_ => P0_0_ k_ ∨ P0_1_ k_ ∨ P0_2_ k_)) (by repeat (first | (with_reducible first | exact HK.out | apply Kept.alloc | apply Kept.drewN | apply Kept.drew) | exact HK.out)) hb); have n4_ := Aside0.mk (below_step (bl HB) hb); have n5_ := Aside0.mk (hbox); have n6_ := Aside0.mk ((by rw [hg]; exact (by first | exact HK.out.1 | exact (show Kept w _ (fun k_ => P0_0_ k_ ∨ P0_1_ k_ ∨ P0_2_ k_) from by repeat (first | (with_reducible first | exact HK.out | apply Kept.alloc | apply Kept.drewN | apply Kept.drew) | exact HK.out)).1) : w.heap.size ≤ gb876)); have n7_ := Aside0.mk ((by rw [hg]; exact (below_size (bl HB)) : w0.heap.size ≤ gb876)); clear HO0_0; clear HO0_1; clear HO0_2; clear HK; clear HB; have HO0_0 := n0_; have HO0_1 := n1_; have HO0_2 := n2_; have HK := n3_; have HB := n4_; have BK876 := n5_; have GW876 := n6_; have GE876 := n7_; clear n0_ n1_ n2_ n3_ n4_ n5_ n6_ n7_; clear hb hbox hg; have hcz10_0 : w9.cell? ⟨gb876, 0, none⟩ = some (.slice Ao6 l0_0.length co6) := (blk_cell BK876.out 0).trans rfl; have hcz10_1 : w9.cell? ⟨gb876, 1, none⟩ = some (.slice Ao7 l0_1.length co7) := (blk_cell BK876.out 1).trans rfl; have hcz10_2 : w9.cell? ⟨gb876, 2, none⟩ = some (.slice Ao8 l0_2.length co8) := (blk_cell BK876.out 2).trans rfl; have hfz10_0 := blk_frozen BK876.out 0; have hfz10_1 := blk_frozen BK876.out 1; have hfz10_2 := blk_frozen BK876.out 2) | ((with_reducible refine gate_callee (f := 41) rfl ?_); refine goesL_ (some 8) rfl rfl Try.func41 (by kernel_rfl) rfl #[.slice Ao6 l0_0.length co6, .int .i64 a1] rfl (by (try simp only [List.map_toArray, List.map_cons, List.map_nil]); first | done | rfl | (simp only [List.length_drop, List.length_take]; rfl)) ?_; (with_reducible refine (laws_markRulRuleS.calls k (fun k_ => some k_ = (.slice Ao6 l0_0.length co6 : Value).ownBlock) (.slice Ao6 l0_0.length co6) l0_0 a1 t877 t878 w0 _ ?side1 ?side2 A3.out).mono ?_); (case side1 => repeat (first | (with_reducible first | exact HB.out | apply below_alloc | apply pw_below_drewN | apply below_drew1 | refine below_set ?_ GE876.out) | exact HB.out)); (case side2 => exact Kd.R_tight rfl HO0_0.out); rintro e w11 ⟨rfl, hy0, hb, hkp⟩; refine ⟨_, rfl, ?_⟩; have n0_ := Aside0.mk (Kd.R_reok rfl hy0 (fun k_ e_ => HO0_0.out.1 k_ e_)); have n1_ := Aside0.mk (Kd.R_mono (ok' := fun k_ => ((P0_0_ k_ ∨ P0_1_ k_ ∨ P0_2_ k_) ∨ w.heap.size ≤ k_)) (Kd.R_keptB ((Kd.R_apart' HO0_1.out (Kd.R_typed HO0_0.out) (by decide))) hkp (fun k_ hk_ hs_ => (hk_.2) hs_)) (fun k_ hk_ => hk_.1.1)); have n2_ := Aside0.mk (Kd.R_mono (ok' := fun k_ => ((P0_0_ k_ ∨ P0_1_ k_ ∨ P0_2_ k_) ∨ w.heap.size ≤ k_)) (Kd.R_keptB ((Kd.R_apart' HO0_2.out (Kd.R_typed HO0_0.out) (by decide))) hkp (fun k_ hk_ hs_ => (hk_.2) hs_)) (fun k_ hk_ => hk_.1.1)); have n3_ := Aside0.mk (blk_kept (bk BK876) hkp (fun hs_ => (fun e_ => (Kd.R_ne HO0_0.out BK876.out (by decide)) e_) hs_)); have n4_ := Aside0.mk (Kept.then_ (S := (fun k_ => P0_0_ k_ ∨ P0_1_ k_ ∨ P0_2_ k_)) (by repeat (first | (with_reducible first | exact HK.out | apply Kept.alloc | apply Kept.drewN | apply Kept.drew | refine Kept.setCell ?_ (.inr GW876.out) _) | exact HK.out)) hkp (fun k_ hs_ => (fun e_ => (HO0_0.out.1 k_ e_.symm)) hs_)); have n5_ := Aside0.mk (hb); clear HO0_0; clear HO0_1; clear HO0_2; clear BK876; clear HK; clear HB; have HO0_0 := n0_; have HO0_1 := n1_; have HO0_2 := n2_; have BK876 := n3_; have HK := n4_; have HB := n5_; clear n0_ n1_ n2_ n3_ n4_ n5_; (try clear hb); (try clear hkp); (try clear hy0); have hcz12_0 : w11.cell? ⟨gb876, 0, none⟩ = some (.slice Ao6 l0_0.length co6) := (blk_cell BK876.out 0).trans rfl; have hcz12_1 : w11.cell? ⟨gb876, 1, none⟩ = some (.slice Ao7 l0_1.length co7) := (blk_cell BK876.out 1).trans rfl; have hcz12_2 : w11.cell? ⟨gb876, 2, none⟩ = some (.slice Ao8 l0_2.length co8) := (blk_cell BK876.out 2).trans rfl; have hfz12_0 := blk_frozen BK876.out 0; have hfz12_1 := blk_frozen BK876.out 1; have hfz12_2 := blk_frozen BK876.out 2) | ((with_reducible refine gate_callee (f := 32) rfl ?_); refine goesL_ (some 12) rfl rfl Try.func32 (by kernel_rfl) rfl #[.agg #[.slice Ao7 l0_1.length co7], .int .i64 t877] rfl (by (try simp only [List.map_toArray, List.map_cons, List.map_nil]); first | done | rfl | (simp only [List.length_drop, List.length_take]; rfl)) ?_; (with_reducible refine (laws_markMapTab.calls k (fun k_ => some k_ = (.slice Ao7 l0_1.length co7 : Value).ownBlock) (.slice Ao7 l0_1.length co7) l0_1 t877 t879 t880 w0 _ ?side1 ?side2 A4.out).mono ?_); (case side1 => repeat (first | (with_reducible first | exact HB.out | apply below_alloc | apply pw_below_drewN | apply below_drew1 | refine below_set ?_ GE876.out) | exact HB.out)); (case side2 => exact Kd.R_tight rfl HO0_1.out); rintro e w13 ⟨rfl, hy0, hb, hkp⟩; refine ⟨_, rfl, ?_⟩; have n0_ := Aside0.mk (Kd.R_mono (ok' := fun k_ => ((P0_0_ k_ ∨ P0_1_ k_ ∨ P0_2_ k_) ∨ w.heap.size ≤ k_)) (Kd.R_keptB ((Kd.R_apart' HO0_0.out (Kd.R_typed HO0_1.out) (by decide))) hkp (fun k_ hk_ hs_ => (hk_.2) hs_)) (fun k_ hk_ => hk_.1.1)); have n1_ := Aside0.mk (Kd.R_reok rfl hy0 (fun k_ e_ => HO0_1.out.1 k_ e_)); have n2_ := Aside0.mk (Kd.R_mono (ok' := fun k_ => ((P0_0_ k_ ∨ P0_1_ k_ ∨ P0_2_ k_) ∨ w.heap.size ≤ k_)) (Kd.R_keptB ((Kd.R_apart' HO0_2.out (Kd.R_typed HO0_1.out) (by decide))) hkp (fun k_ hk_ hs_ => (hk_.2) hs_)) (fun k_ hk_ => hk_.1.1)); have n3_ := Aside0.mk (blk_kept (bk BK876) hkp (fun hs_ => (fun e_ => (Kd.R_ne HO0_1.out BK876.out (by decide)) e_) hs_)); have n4_ := Aside0.mk (Kept.then_ (S := (fun k_ => P0_0_ k_ ∨ P0_1_ k_ ∨ P0_2_ k_)) (by repeat (first | (with_reducible first | exact HK.out | apply Kept.alloc | apply Kept.drewN | apply Kept.drew | refine Kept.setCell ?_ (.inr GW876.out) _) | exact HK.out)) hkp (fun k_ hs_ => (fun e_ => (HO0_1.out.1 k_ e_.symm)) hs_)); have n5_ := Aside0.mk (hb); clear HO0_0; clear HO0_1; clear HO0_2; clear BK876; clear HK; clear HB; have HO0_0 := n0_; have HO0_1 := n1_; have HO0_2 := n2_; have BK876 := n3_; have HK := n4_; have HB := n5_; clear n0_ n1_ n2_ n3_ n4_ n5_; (try clear hb); (try clear hkp); (try clear hy0); have hcz14_0 : w13.cell? ⟨gb876, 0, none⟩ = some (.slice Ao6 l0_0.length co6) := (blk_cell BK876.out 0).trans rfl; have hcz14_1 : w13.cell? ⟨gb876, 1, none⟩ = some (.slice Ao7 l0_1.length co7) := (blk_cell BK876.out 1).trans rfl; have hcz14_2 : w13.cell? ⟨gb876, 2, none⟩ = some (.slice Ao8 l0_2.length co8) := (blk_cell BK876.out 2).trans rfl; have hfz14_0 := blk_frozen BK876.out 0; have hfz14_1 := blk_frozen BK876.out 1; have hfz14_2 := blk_frozen BK876.out 2) | ((with_reducible refine gate_callee (f := 79) rfl ?_); refine goesL_ (some 16) rfl rfl Try.func79 (by kernel_rfl) rfl #[.slice Ao8 l0_2.length co8, .int .i64 t879] rfl (by (try simp only [List.map_toArray, List.map_cons, List.map_nil]); first | done | rfl | (simp only [List.length_drop, List.length_take]; rfl)) ?_; (with_reducible refine (laws_markBoxConnS.calls k (fun k_ => some k_ = (.slice Ao8 l0_2.length co8 : Value).ownBlock) (.slice Ao8 l0_2.length co8) l0_2 t879 t881 t882 w0 _ ?side1 ?side2 A5.out).mono ?_); (case side1 => repeat (first | (with_reducible first | exact HB.out | apply below_alloc | apply pw_below_drewN | apply below_drew1 | refine below_set ?_ GE876.out) | exact HB.out)); (case side2 => exact Kd.R_tight rfl HO0_2.out); rintro e w15 ⟨rfl, hy0, hb, hkp⟩; refine ⟨_, rfl, ?_⟩; have n0_ := Aside0.mk (Kd.R_mono (ok' := fun k_ => ((P0_0_ k_ ∨ P0_1_ k_ ∨ P0_2_ k_) ∨ w.heap.size ≤ k_)) (Kd.R_keptB ((Kd.R_apart' HO0_0.out (Kd.R_typed HO0_2.out) (by decide))) hkp (fun k_ hk_ hs_ => (hk_.2) hs_)) (fun k_ hk_ => hk_.1.1)); have n1_ := Aside0.mk (Kd.R_mono (ok' := fun k_ => ((P0_0_ k_ ∨ P0_1_ k_ ∨ P0_2_ k_) ∨ w.heap.size ≤ k_)) (Kd.R_keptB ((Kd.R_apart' HO0_1.out (Kd.R_typed HO0_2.out) (by decide))) hkp (fun k_ hk_ hs_ => (hk_.2) hs_)) (fun k_ hk_ => hk_.1.1)); have n2_ := Aside0.mk (Kd.R_reok rfl hy0 (fun k_ e_ => HO0_2.out.1 k_ e_)); have n3_ := Aside0.mk (blk_kept (bk BK876) hkp (fun hs_ => (fun e_ => (Kd.R_ne HO0_2.out BK876.out (by decide)) e_) hs_)); have n4_ := Aside0.mk (Kept.then_ (S := (fun k_ => P0_0_ k_ ∨ P0_1_ k_ ∨ P0_2_ k_)) (by repeat (first | (with_reducible first | exact HK.out | apply Kept.alloc | apply Kept.drewN | apply Kept.drew | refine Kept.setCell ?_ (.inr GW876.out) _) | exact HK.out)) hkp (fun k_ hs_ => (fun e_ => (HO0_2.out.1 k_ e_.symm)) hs_)); have n5_ := Aside0.mk (hb); clear HO0_0; clear HO0_1; clear HO0_2; clear BK876; clear HK; clear HB; have HO0_0 := n0_; have HO0_1 := n1_; have HO0_2 := n2_; have BK876 := n3_; have HK := n4_; have HB := n5_; clear n0_ n1_ n2_ n3_ n4_ n5_; (try clear hb); (try clear hkp); (try clear hy0)))
  go_ret
  exact ⟨by first | rfl | (simp [errW_none, errW_some] <;> rfl) | (simp [*, errW_none, errW_some] <;> rfl), by (with_reducible repeat apply ru); exact HO0_0.out, by (with_reducible repeat apply ru); exact HO0_1.out, by (with_reducible repeat apply ru); exact HO0_2.out, by repeat (first | (with_reducible first | exact HB.out | apply below_alloc | apply pw_below_drewN | apply below_drew1 | refine below_set ?_ GE876.out) | exact HB.out), by repeat (first | (with_reducible first | exact HK.out | apply Kept.alloc | apply Kept.drewN | apply Kept.drew | refine Kept.setCell ?_ (.inr GW876.out) _) | exact HK.out)⟩

end Go.Proofs.Ytiocgkggegahhaa.P

-- written by hw.py for this claim
namespace Go.Proofs.Ytiocgkggegahhaa.P
open Go.RowKit Go.Proofs.YtiocgkggegahhaaUFnExactBoxNew.PrintWords Go.Proofs.YtiocgkggegahhaaUFnExactBoxNew.PrintLast Go.Proofs.YtiocgkggegahhaaUFnExactBoxNew.PrintMore
attribute [local go_sem] max2_int min2_int max_two min_two max_three min_three max_four min_four
set_option linter.unusedVariables false
set_option linter.unusedSimpArgs false

/-! ### laws_heldEndPointS: function 74 -/
def laws_heldEndPointS.l0 : Nat → List (S29) → Int → Int → Option (Int)
  | 0, _, _, _ => none
  | k + 1, x0, x1, x5 => if x5 < (x0.length : Int) then (if 0 ≤ x5 then (if ((rd_T29 x0 x5).f0) = x1 then (if ((rd_T29 x0 x5).f1) = (wrap64 (x1 + 1)) then (laws_heldEndPointS.l0 k x0 (wrap64 ((wrap64 (x1 + 1)) + 1)) (wrap64 (x5 + 1))) else (some (-1))) else (some (-1))) else (none)) else (some x1)
def laws_heldEndPointS.f (k : Nat) (l0 : List (S29)) (a1 : Int) : Option (Int) := laws_heldEndPointS.l0 k l0 a1 0
theorem laws_heldEndPointS.mono_l : ∀ k, (∀ y0 y1 y2, LeO (laws_heldEndPointS.l0 k y0 y1 y2) (laws_heldEndPointS.l0 (k + 1) y0 y1 y2))
  | 0 => fun _ _ _ r h => by simp [laws_heldEndPointS.l0] at h
  | k + 1 => by
    have ih0 := laws_heldEndPointS.mono_l k
    · intro y0 y1 y2
      unfold laws_heldEndPointS.l0
      repeat' first
      | (with_reducible exact ih0 _ _ _)
      | (with_reducible exact LeO.refl _)
      | (with_reducible exact LeO.none _)
      | (with_reducible refine LeO.ite ?_ ?_)
      | (with_reducible refine LeO.bind ?_ (fun _ => ?_))
      | exact ih0 _ _ _
      | exact LeO.none _
      | refine LeO.ite ?_ ?_
      | refine LeO.bind ?_ (fun _ => ?_)
theorem laws_heldEndPointS.mono : ∀ a0 a1 k, LeO (laws_heldEndPointS.f k a0 a1) (laws_heldEndPointS.f (k + 1) a0 a1) := by
  intro a0 a1 k
  have ih0 := laws_heldEndPointS.mono_l k
  unfold laws_heldEndPointS.f
  repeat' first
      | (with_reducible exact ih0 _ _ _)
      | (with_reducible exact LeO.refl _)
      | (with_reducible exact LeO.none _)
      | (with_reducible refine LeO.ite ?_ ?_)
      | (with_reducible refine LeO.bind ?_ (fun _ => ?_))
      | exact ih0 _ _ _
      | exact LeO.none _
      | refine LeO.ite ?_ ?_
      | refine LeO.bind ?_ (fun _ => ?_)
set_option maxHeartbeats 8000000 in
set_option maxRecDepth 100000 in
theorem laws_heldEndPointS.calls (k : Nat) (A0 : Option Addr) (c0 : Nat) (l0 : List (S29)) (a1 : Int) (r : Int) (w : World) (hr0 : Kd.C k29 w A0 l0.length l0) (hc0 : l0.length ≤ c0) (h : laws_heldEndPointS.f k l0 a1 = some r) :
    Calls Try.prog 74 #[.slice A0 l0.length c0, .int .i64 a1] w fun e w' => e = .returned (.int .i64 r) ∧ Drawn0 w w' := by
  have HR0 := Aside0.mk hr0
  have HC0 := Aside0.mk hc0
  clear hr0 hc0
  have H : (laws_heldEndPointS.l0 k l0 a1 0) = some r := h
  clear h
  have H' := Aside0.mk H
  clear H
  go_enter Try.func74, Try.ntmps74
  go_wp2
  go_loopg [1, 5] k (fun kq v1 v5 w' => ∃ (x1_1 : Int) (x5_1 : Int), v1 = .int .i64 x1_1 ∧ v5 = .int .i64 x5_1 ∧ Aside0 (laws_heldEndPointS.l0 kq l0 x1_1 x5_1 = some r) ∧ Aside0 (kq ≤ k) ∧ Drawn0 w w')
  case atStart => exact ⟨(a1), (0), (by first | rfl | (simp; done) | (simp [*]; done)), (by first | rfl | (simp; done) | (simp [*]; done)), H', ⟨Nat.le_refl _⟩, by repeat (first | exact Drawn0.refl _ | apply Drawn0.step)⟩
  case round =>
    clear H'
    try clear p2
    obtain ⟨x1_1, x5_1, rfl, rfl, HA, HK1, ⟨m1, rfl⟩⟩ := hrel
    cases gk with
    | zero => exact absurd HA.out (by simp [laws_heldEndPointS.l0])
    | succ k1 =>
      have H := HA.out
      clear HA
      simp only [laws_heldEndPointS.l0] at H
      by_cases c3 : x5_1 < (l0.length : Int)
      · rw [if_pos c3] at H
        have c3b0 : decide (x5_1 < (l0.length : Int)) = true := decide_eq_true c3
        clear c3
        by_cases c4 : 0 ≤ x5_1
        · rw [if_pos c4] at H
          have c4b0 : decide (0 ≤ x5_1) = true := decide_eq_true c4
          clear c4
          by_cases c5 : ((rd_T29 l0 x5_1).f0) = x1_1
          · rw [if_pos c5] at H
            have c5b0 : (((rd_T29 l0 x5_1).f0) == x1_1) = true := beq_iff_eq.mpr c5
            have c5b1 : (((rd_T29 l0 x5_1).f0) != x1_1) = false := bne_eq_false_iff_eq.mpr c5
            clear c5
            by_cases c6 : ((rd_T29 l0 x5_1).f1) = (wrap64 (x1_1 + 1))
            · rw [if_pos c6] at H
              have c6b0 : (((rd_T29 l0 x5_1).f1) == (wrap64 (x1_1 + 1))) = true := beq_iff_eq.mpr c6
              have c6b1 : (((rd_T29 l0 x5_1).f1) != (wrap64 (x1_1 + 1))) = false := bne_eq_false_iff_eq.mpr c6
              clear c6
              have H' := Aside0.mk H
              clear H
              have p733 : 0 ≤ (x5_1 : Int) := of_decide_eq_true (by first | (with_reducible assumption) | assumption)
              have q733 : x5_1 < (l0.length : Int) := of_decide_eq_true (by first | (with_reducible assumption) | assumption)
              obtain ⟨ad733, e733, hx733_0, hx733_1⟩ := at_T29 HR0.out x5_1 p733 q733
              cases e733
              replace p733 := eq_true p733
              replace q733 := eq_true q733
              have p734 : 0 ≤ (x5_1 : Int) := of_decide_eq_true (by first | (with_reducible assumption) | assumption)
              have q734 : x5_1 < (l0.length : Int) := of_decide_eq_true (by first | (with_reducible assumption) | assumption)
              obtain ⟨ad734, e734, hx734_0, hx734_1⟩ := at_T29 HR0.out x5_1 p734 q734
              obtain rfl : ad733 = ad734 := (by injection e734)
              replace p734 := eq_true p734
              replace q734 := eq_true q734
              go_wp2
              go_roundg k1
              case measure => have := HK1.out; omega
              case rel => exact ⟨(wrap64 ((wrap64 (x1_1 + 1)) + 1)), (wrap64 (x5_1 + 1)), (by first | rfl | (simp; done) | (simp [*]; done)), (by first | rfl | (simp; done) | (simp [*]; done)), H', ⟨by have := HK1.out; omega⟩, by repeat (first | exact Drawn0.refl _ | apply Drawn0.step)⟩
            · rw [if_neg c6] at H
              have c6b0 : (((rd_T29 l0 x5_1).f1) == (wrap64 (x1_1 + 1))) = false := beq_eq_false_iff_ne.mpr c6
              have c6b1 : (((rd_T29 l0 x5_1).f1) != (wrap64 (x1_1 + 1))) = true := bne_iff_ne.mpr c6
              obtain rfl := Option.some.inj H
              have p733 : 0 ≤ (x5_1 : Int) := of_decide_eq_true (by first | (with_reducible assumption) | assumption)
              have q733 : x5_1 < (l0.length : Int) := of_decide_eq_true (by first | (with_reducible assumption) | assumption)
              obtain ⟨ad733, e733, hx733_0, hx733_1⟩ := at_T29 HR0.out x5_1 p733 q733
              cases e733
              replace p733 := eq_true p733
              replace q733 := eq_true q733
              have p734 : 0 ≤ (x5_1 : Int) := of_decide_eq_true (by first | (with_reducible assumption) | assumption)
              have q734 : x5_1 < (l0.length : Int) := of_decide_eq_true (by first | (with_reducible assumption) | assumption)
              obtain ⟨ad734, e734, hx734_0, hx734_1⟩ := at_T29 HR0.out x5_1 p734 q734
              obtain rfl : ad733 = ad734 := (by injection e734)
              replace p734 := eq_true p734
              replace q734 := eq_true q734
              go_wp2
              go_ret
              exact ⟨by first | rfl | (simp; done) | (simp [*]; done), by repeat (first | exact Drawn0.refl _ | apply Drawn0.step)⟩
          · rw [if_neg c5] at H
            have c5b0 : (((rd_T29 l0 x5_1).f0) == x1_1) = false := beq_eq_false_iff_ne.mpr c5
            have c5b1 : (((rd_T29 l0 x5_1).f0) != x1_1) = true := bne_iff_ne.mpr c5
            obtain rfl := Option.some.inj H
            have p733 : 0 ≤ (x5_1 : Int) := of_decide_eq_true (by first | (with_reducible assumption) | assumption)
            have q733 : x5_1 < (l0.length : Int) := of_decide_eq_true (by first | (with_reducible assumption) | assumption)
            obtain ⟨ad733, e733, hx733_0, hx733_1⟩ := at_T29 HR0.out x5_1 p733 q733
            cases e733
            replace p733 := eq_true p733
            replace q733 := eq_true q733
            go_wp2
            go_ret
            exact ⟨by first | rfl | (simp; done) | (simp [*]; done), by repeat (first | exact Drawn0.refl _ | apply Drawn0.step)⟩
        · rw [if_neg c4] at H
          exact absurd H (by simp)
      · rw [if_neg c3] at H
        have c3b0 : decide (x5_1 < (l0.length : Int)) = false := decide_eq_false c3
        clear c3
        obtain rfl := Option.some.inj H
        go_wp2
        go_ret
        exact ⟨by first | rfl | (simp; done) | (simp [*]; done), by repeat (first | exact Drawn0.refl _ | apply Drawn0.step)⟩

end Go.Proofs.Ytiocgkggegahhaa.P

-- written by hw.py for this claim
namespace Go.Proofs.Ytiocgkggegahhaa.P
open Go.RowKit Go.Proofs.YtiocgkggegahhaaUFnExactBoxNew.PrintWords Go.Proofs.YtiocgkggegahhaaUFnExactBoxNew.PrintLast Go.Proofs.YtiocgkggegahhaaUFnExactBoxNew.PrintMore
attribute [local go_sem] max2_int min2_int max_two min_two max_three min_three max_four min_four
set_option linter.unusedVariables false
set_option linter.unusedSimpArgs false

/-! ### laws_heldMapTab: function 33 -/
def laws_heldMapTab.f (k : Nat) (l0_0 : List (S29)) (a1 : Int) : Option (Int) := (laws_heldEndPointS.f k l0_0 a1).bind fun t736 => (if t736 < 0 then (some (-1)) else (some t736))
theorem laws_heldMapTab.mono : ∀ a0 a1 k, LeO (laws_heldMapTab.f k a0 a1) (laws_heldMapTab.f (k + 1) a0 a1) := by
  intro a0 a1 k
  unfold laws_heldMapTab.f
  repeat' first
      | (with_reducible exact laws_heldEndPointS.mono _ _ _)
      | (with_reducible exact LeO.refl _)
      | (with_reducible exact LeO.none _)
      | (with_reducible refine LeO.ite ?_ ?_)
      | (with_reducible refine LeO.bind ?_ (fun _ => ?_))
      | exact laws_heldEndPointS.mono _ _ _
      | exact LeO.none _
      | refine LeO.ite ?_ ?_
      | refine LeO.bind ?_ (fun _ => ?_)
set_option maxHeartbeats 8000000 in
set_option maxRecDepth 100000 in
theorem laws_heldMapTab.calls (k : Nat) (A0_0 : Option Addr) (c0_0 : Nat) (l0_0 : List (S29)) (a1 : Int) (r : Int) (w : World) (hr0_0 : Kd.C k29 w A0_0 l0_0.length l0_0) (hc0_0 : l0_0.length ≤ c0_0) (h : laws_heldMapTab.f k l0_0 a1 = some r) :
    Calls Try.prog 33 #[.agg #[.slice A0_0 l0_0.length c0_0], .int .i64 a1] w fun e w' => e = .returned (.int .i64 r) ∧ Below w.heap.size w w' := by
  have hu45 := Try.underlying45
  have HR0_0 := Aside0.mk hr0_0
  have HC0_0 := Aside0.mk hc0_0
  clear hr0_0 hc0_0
  have HB := Aside0.mk (Below.refl w.heap.size w)
  have H : ((laws_heldEndPointS.f k l0_0 a1).bind fun t736 => (if t736 < 0 then (some (-1)) else (some t736))) = some r := h
  clear h
  replace H := Option.bind_eq_some_iff.mp H
  obtain ⟨t736, A30, H⟩ := H
  replace H : (if t736 < 0 then (some (-1)) else (some t736)) = some r := H
  have A3 := Aside0.mk A30
  clear A30
  by_cases c4 : t736 < 0
  · rw [if_pos c4] at H
    have c4b0 : decide (t736 < 0) = true := decide_eq_true c4
    clear c4
    obtain rfl := Option.some.inj H
    go_enter Try.func33, Try.ntmps33
    go_wp2_with (first | ((with_reducible refine gate_dst (N := 2) rfl ?_); refine box_event ?hg (N := 2) ?hd (cs := #[.slice A0_0 l0_0.length c0_0]) (t := 45) ?hr ?_; (case hd => rfl); (case hg => rfl); (case hr => first | (go_simp; done) | (go_simp; rfl)); intro gb735 hg w5 hbox hb; have n0_ := Aside0.mk (below_step (bl HB) hb); have n1_ := Aside0.mk (hbox); have n2_ := Aside0.mk ((by rw [hg]; exact (below_size (bl HB)) : w.heap.size ≤ gb735)); have n3_ := Aside0.mk ((by rw [hg]; exact (below_size (bl HB)) : w.heap.size ≤ gb735)); clear HB; have HB := n0_; have BK735 := n1_; have GW735 := n2_; have GE735 := n3_; clear n0_ n1_ n2_ n3_; clear hb hbox hg; have hcz6_0 : w5.cell? ⟨gb735, 0, none⟩ = some (.slice A0_0 l0_0.length c0_0) := (blk_cell BK735.out 0).trans rfl; have hfz6_0 := blk_frozen BK735.out 0) | ((with_reducible refine gate_callee (f := 74) rfl ?_); refine goesL_ (some 8) rfl rfl Try.func74 (by kernel_rfl) rfl #[.slice A0_0 l0_0.length c0_0, .int .i64 a1] rfl (by (try simp only [List.map_toArray, List.map_cons, List.map_nil]); first | done | rfl | (simp only [List.length_drop, List.length_take]; rfl)) ?_; (with_reducible refine (laws_heldEndPointS.calls k _ _ l0_0 a1 t736 _ ?side1 ?side2 A3.out).mono ?_); (case side1 => repeat (first | exact (Kd.C_below HR0_0.out HB.out) | (with_reducible refine Kd.C_alloc ?_ _) | (with_reducible refine Kd.C_drewN ?_ _) | (with_reducible refine Kd.C_drew ?_))); (case side2 => exact HC0_0.out); rintro e w' ⟨rfl, ⟨nd, rfl⟩⟩; refine ⟨_, rfl, ?_⟩))
    go_ret
    exact ⟨by first | rfl | (simp [errW_none, errW_some] <;> rfl) | (simp [*, errW_none, errW_some] <;> rfl), by repeat (first | (with_reducible first | exact HB.out | apply below_alloc | apply pw_below_drewN | apply below_drew1 | refine below_set ?_ GE735.out) | exact HB.out)⟩
  · rw [if_neg c4] at H
    have c4b0 : decide (t736 < 0) = false := decide_eq_false c4
    clear c4
    obtain rfl := Option.some.inj H
    go_enter Try.func33, Try.ntmps33
    go_wp2_with (first | ((with_reducible refine gate_dst (N := 2) rfl ?_); refine box_event ?hg (N := 2) ?hd (cs := #[.slice A0_0 l0_0.length c0_0]) (t := 45) ?hr ?_; (case hd => rfl); (case hg => rfl); (case hr => first | (go_simp; done) | (go_simp; rfl)); intro gb735 hg w7 hbox hb; have n0_ := Aside0.mk (below_step (bl HB) hb); have n1_ := Aside0.mk (hbox); have n2_ := Aside0.mk ((by rw [hg]; exact (below_size (bl HB)) : w.heap.size ≤ gb735)); have n3_ := Aside0.mk ((by rw [hg]; exact (below_size (bl HB)) : w.heap.size ≤ gb735)); clear HB; have HB := n0_; have BK735 := n1_; have GW735 := n2_; have GE735 := n3_; clear n0_ n1_ n2_ n3_; clear hb hbox hg; have hcz8_0 : w7.cell? ⟨gb735, 0, none⟩ = some (.slice A0_0 l0_0.length c0_0) := (blk_cell BK735.out 0).trans rfl; have hfz8_0 := blk_frozen BK735.out 0) | ((with_reducible refine gate_callee (f := 74) rfl ?_); refine goesL_ (some 8) rfl rfl Try.func74 (by kernel_rfl) rfl #[.slice A0_0 l0_0.length c0_0, .int .i64 a1] rfl (by (try simp only [List.map_toArray, List.map_cons, List.map_nil]); first | done | rfl | (simp only [List.length_drop, List.length_take]; rfl)) ?_; (with_reducible refine (laws_heldEndPointS.calls k _ _ l0_0 a1 t736 _ ?side1 ?side2 A3.out).mono ?_); (case side1 => repeat (first | exact (Kd.C_below HR0_0.out HB.out) | (with_reducible refine Kd.C_alloc ?_ _) | (with_reducible refine Kd.C_drewN ?_ _) | (with_reducible refine Kd.C_drew ?_))); (case side2 => exact HC0_0.out); rintro e w' ⟨rfl, ⟨nd, rfl⟩⟩; refine ⟨_, rfl, ?_⟩))
    go_ret
    exact ⟨by first | rfl | (simp [errW_none, errW_some] <;> rfl) | (simp [*, errW_none, errW_some] <;> rfl), by repeat (first | (with_reducible first | exact HB.out | apply below_alloc | apply pw_below_drewN | apply below_drew1 | refine below_set ?_ GE735.out) | exact HB.out)⟩

end Go.Proofs.Ytiocgkggegahhaa.P

-- written by hw.py for this claim
namespace Go.Proofs.Ytiocgkggegahhaa.P
open Go.RowKit Go.Proofs.YtiocgkggegahhaaUFnExactBoxNew.PrintWords Go.Proofs.YtiocgkggegahhaaUFnExactBoxNew.PrintLast Go.Proofs.YtiocgkggegahhaaUFnExactBoxNew.PrintMore
attribute [local go_sem] max2_int min2_int max_two min_two max_three min_three max_four min_four
set_option linter.unusedVariables false
set_option linter.unusedSimpArgs false

/-! ### laws_heldRulRuleS: function 80 -/
def laws_heldRulRuleS.l0 : Nat → List (S24) → Int → Int → Option (Int)
  | 0, _, _, _ => none
  | k + 1, x0, x1, x5 => if x5 < (x0.length : Int) then (if 0 ≤ x5 then (if (((rd_T24 x0 x5).f0) != ((Int.tmod x1 3) == 0)) = true then (some (-1)) else (if ((rd_T24 x0 x5).f1) = (wrap64 (x1 + 1)) then (if ((rd_T24 x0 x5).f2) = (wrap64 ((wrap64 (x1 + 1)) + 1)) then (if ((rd_T24 x0 x5).f3) = (wrap64 ((wrap64 ((wrap64 (x1 + 1)) + 1)) + 1)) then (if ((rd_T24 x0 x5).f4) = (wrap64 ((wrap64 ((wrap64 ((wrap64 (x1 + 1)) + 1)) + 1)) + 1)) then (if ((rd_T24 x0 x5).f5) = (wrap64 ((wrap64 ((wrap64 ((wrap64 ((wrap64 (x1 + 1)) + 1)) + 1)) + 1)) + 1)) then (if ((rd_T24 x0 x5).f6) = (wrap64 ((wrap64 ((wrap64 ((wrap64 ((wrap64 ((wrap64 (x1 + 1)) + 1)) + 1)) + 1)) + 1)) + 1)) then (laws_heldRulRuleS.l0 k x0 (wrap64 ((wrap64 ((wrap64 ((wrap64 ((wrap64 ((wrap64 ((wrap64 (x1 + 1)) + 1)) + 1)) + 1)) + 1)) + 1)) + 1)) (wrap64 (x5 + 1))) else (some (-1))) else (some (-1))) else (some (-1))) else (some (-1))) else (some (-1))) else (some (-1)))) else (none)) else (some x1)
def laws_heldRulRuleS.f (k : Nat) (l0 : List (S24)) (a1 : Int) : Option (Int) := laws_heldRulRuleS.l0 k l0 a1 0
theorem laws_heldRulRuleS.mono_l : ∀ k, (∀ y0 y1 y2, LeO (laws_heldRulRuleS.l0 k y0 y1 y2) (laws_heldRulRuleS.l0 (k + 1) y0 y1 y2))
  | 0 => fun _ _ _ r h => by simp [laws_heldRulRuleS.l0] at h
  | k + 1 => by
    have ih0 := laws_heldRulRuleS.mono_l k
    · intro y0 y1 y2
      unfold laws_heldRulRuleS.l0
      repeat' first
      | (with_reducible exact ih0 _ _ _)
      | (with_reducible exact LeO.refl _)
      | (with_reducible exact LeO.none _)
      | (with_reducible refine LeO.ite ?_ ?_)
      | (with_reducible refine LeO.bind ?_ (fun _ => ?_))
      | exact ih0 _ _ _
      | exact LeO.none _
      | refine LeO.ite ?_ ?_
      | refine LeO.bind ?_ (fun _ => ?_)
theorem laws_heldRulRuleS.mono : ∀ a0 a1 k, LeO (laws_heldRulRuleS.f k a0 a1) (laws_heldRulRuleS.f (k + 1) a0 a1) := by
  intro a0 a1 k
  have ih0 := laws_heldRulRuleS.mono_l k
  unfold laws_heldRulRuleS.f
  repeat' first
      | (with_reducible exact ih0 _ _ _)
      | (with_reducible exact LeO.refl _)
      | (with_reducible exact LeO.none _)
      | (with_reducible refine LeO.ite ?_ ?_)
      | (with_reducible refine LeO.bind ?_ (fun _ => ?_))
      | exact ih0 _ _ _
      | exact LeO.none _
      | refine LeO.ite ?_ ?_
      | refine LeO.bind ?_ (fun _ => ?_)
set_option maxHeartbeats 8000000 in
set_option maxRecDepth 100000 in
theorem laws_heldRulRuleS.calls (k : Nat) (A0 : Option Addr) (c0 : Nat) (l0 : List (S24)) (a1 : Int) (r : Int) (w : World) (hr0 : Kd.C k24 w A0 l0.length l0) (hc0 : l0.length ≤ c0) (h : laws_heldRulRuleS.f k l0 a1 = some r) :
    Calls Try.prog 80 #[.slice A0 l0.length c0, .int .i64 a1] w fun e w' => e = .returned (.int .i64 r) ∧ Drawn0 w w' := by
  have HR0 := Aside0.mk hr0
  have HC0 := Aside0.mk hc0
  clear hr0 hc0
  have H : (laws_heldRulRuleS.l0 k l0 a1 0) = some r := h
  clear h
  have H' := Aside0.mk H
  clear H
  go_enter Try.func80, Try.ntmps80
  go_wp2
  go_loopg [1, 5] k (fun kq v1 v5 w' => ∃ (x1_1 : Int) (x5_1 : Int), v1 = .int .i64 x1_1 ∧ v5 = .int .i64 x5_1 ∧ Aside0 (laws_heldRulRuleS.l0 kq l0 x1_1 x5_1 = some r) ∧ Aside0 (kq ≤ k) ∧ Drawn0 w w')
  case atStart => exact ⟨(a1), (0), (by first | rfl | (simp; done) | (simp [*]; done)), (by first | rfl | (simp; done) | (simp [*]; done)), H', ⟨Nat.le_refl _⟩, by repeat (first | exact Drawn0.refl _ | apply Drawn0.step)⟩
  case round =>
    clear H'
    try clear p2
    obtain ⟨x1_1, x5_1, rfl, rfl, HA, HK1, ⟨m1, rfl⟩⟩ := hrel
    cases gk with
    | zero => exact absurd HA.out (by simp [laws_heldRulRuleS.l0])
    | succ k1 =>
      have H := HA.out
      clear HA
      simp only [laws_heldRulRuleS.l0] at H
      by_cases c3 : x5_1 < (l0.length : Int)
      · rw [if_pos c3] at H
        have c3b0 : decide (x5_1 < (l0.length : Int)) = true := decide_eq_true c3
        clear c3
        by_cases c4 : 0 ≤ x5_1
        · rw [if_pos c4] at H
          have c4b0 : decide (0 ≤ x5_1) = true := decide_eq_true c4
          clear c4
          by_cases c5 : (((rd_T24 l0 x5_1).f0) != ((Int.tmod x1_1 3) == 0)) = true
          · rw [if_pos c5] at H
            have c5b0 : (((rd_T24 l0 x5_1).f0) != ((Int.tmod x1_1 3) == 0)) = true := c5
            (try (have c5b1 : decide (((rd_T24 l0 x5_1).f0) = ((Int.tmod x1_1 3) == 0)) = false := by simpa using c5))
            (try (have c5b2 : (((rd_T24 l0 x5_1).f0) == ((Int.tmod x1_1 3) == 0)) = false := by simpa using c5))
            (try (have c5b3 : ¬ (((rd_T24 l0 x5_1).f0) = ((Int.tmod x1_1 3) == 0)) := by simpa using c5))
            clear c5
            obtain rfl := Option.some.inj H
            have p883 : 0 ≤ (x5_1 : Int) := of_decide_eq_true (by first | (with_reducible assumption) | assumption)
            have q883 : x5_1 < (l0.length : Int) := of_decide_eq_true (by first | (with_reducible assumption) | assumption)
            obtain ⟨ad883, e883, hx883_0, hx883_1, hx883_2, hx883_3, hx883_4, hx883_5, hx883_6⟩ := at_T24 HR0.out x5_1 p883 q883
            cases e883
            replace p883 := eq_true p883
            replace q883 := eq_true q883
            go_wp2
            go_ret
            exact ⟨by first | rfl | (simp; done) | (simp [*]; done), by repeat (first | exact Drawn0.refl _ | apply Drawn0.step)⟩
          · rw [if_neg c5] at H
            have c5b0 : (((rd_T24 l0 x5_1).f0) != ((Int.tmod x1_1 3) == 0)) = false := by simpa using c5
            (try (have c5b1 : decide (((rd_T24 l0 x5_1).f0) = ((Int.tmod x1_1 3) == 0)) = true := by simpa using c5))
            (try (have c5b2 : (((rd_T24 l0 x5_1).f0) == ((Int.tmod x1_1 3) == 0)) = true := by simpa using c5))
            clear c5
            by_cases c6 : ((rd_T24 l0 x5_1).f1) = (wrap64 (x1_1 + 1))
            · rw [if_pos c6] at H
              have c6b0 : (((rd_T24 l0 x5_1).f1) == (wrap64 (x1_1 + 1))) = true := beq_iff_eq.mpr c6
              have c6b1 : (((rd_T24 l0 x5_1).f1) != (wrap64 (x1_1 + 1))) = false := bne_eq_false_iff_eq.mpr c6
              clear c6
              by_cases c7 : ((rd_T24 l0 x5_1).f2) = (wrap64 ((wrap64 (x1_1 + 1)) + 1))
              · rw [if_pos c7] at H
                have c7b0 : (((rd_T24 l0 x5_1).f2) == (wrap64 ((wrap64 (x1_1 + 1)) + 1))) = true := beq_iff_eq.mpr c7
                have c7b1 : (((rd_T24 l0 x5_1).f2) != (wrap64 ((wrap64 (x1_1 + 1)) + 1))) = false := bne_eq_false_iff_eq.mpr c7
                clear c7
                by_cases c8 : ((rd_T24 l0 x5_1).f3) = (wrap64 ((wrap64 ((wrap64 (x1_1 + 1)) + 1)) + 1))
                · rw [if_pos c8] at H
                  have c8b0 : (((rd_T24 l0 x5_1).f3) == (wrap64 ((wrap64 ((wrap64 (x1_1 + 1)) + 1)) + 1))) = true := beq_iff_eq.mpr c8
                  have c8b1 : (((rd_T24 l0 x5_1).f3) != (wrap64 ((wrap64 ((wrap64 (x1_1 + 1)) + 1)) + 1))) = false := bne_eq_false_iff_eq.mpr c8
                  clear c8
                  by_cases c9 : ((rd_T24 l0 x5_1).f4) = (wrap64 ((wrap64 ((wrap64 ((wrap64 (x1_1 + 1)) + 1)) + 1)) + 1))
                  · rw [if_pos c9] at H
                    have c9b0 : (((rd_T24 l0 x5_1).f4) == (wrap64 ((wrap64 ((wrap64 ((wrap64 (x1_1 + 1)) + 1)) + 1)) + 1))) = true := beq_iff_eq.mpr c9
                    have c9b1 : (((rd_T24 l0 x5_1).f4) != (wrap64 ((wrap64 ((wrap64 ((wrap64 (x1_1 + 1)) + 1)) + 1)) + 1))) = false := bne_eq_false_iff_eq.mpr c9
                    clear c9
                    by_cases c10 : ((rd_T24 l0 x5_1).f5) = (wrap64 ((wrap64 ((wrap64 ((wrap64 ((wrap64 (x1_1 + 1)) + 1)) + 1)) + 1)) + 1))
                    · rw [if_pos c10] at H
                      have c10b0 : (((rd_T24 l0 x5_1).f5) == (wrap64 ((wrap64 ((wrap64 ((wrap64 ((wrap64 (x1_1 + 1)) + 1)) + 1)) + 1)) + 1))) = true := beq_iff_eq.mpr c10
                      have c10b1 : (((rd_T24 l0 x5_1).f5) != (wrap64 ((wrap64 ((wrap64 ((wrap64 ((wrap64 (x1_1 + 1)) + 1)) + 1)) + 1)) + 1))) = false := bne_eq_false_iff_eq.mpr c10
                      clear c10
                      by_cases c11 : ((rd_T24 l0 x5_1).f6) = (wrap64 ((wrap64 ((wrap64 ((wrap64 ((wrap64 ((wrap64 (x1_1 + 1)) + 1)) + 1)) + 1)) + 1)) + 1))
                      · rw [if_pos c11] at H
                        have c11b0 : (((rd_T24 l0 x5_1).f6) == (wrap64 ((wrap64 ((wrap64 ((wrap64 ((wrap64 ((wrap64 (x1_1 + 1)) + 1)) + 1)) + 1)) + 1)) + 1))) = true := beq_iff_eq.mpr c11
                        have c11b1 : (((rd_T24 l0 x5_1).f6) != (wrap64 ((wrap64 ((wrap64 ((wrap64 ((wrap64 ((wrap64 (x1_1 + 1)) + 1)) + 1)) + 1)) + 1)) + 1))) = false := bne_eq_false_iff_eq.mpr c11
                        clear c11
                        have H' := Aside0.mk H
                        clear H
                        have p883 : 0 ≤ (x5_1 : Int) := of_decide_eq_true (by first | (with_reducible assumption) | assumption)
                        have q883 : x5_1 < (l0.length : Int) := of_decide_eq_true (by first | (with_reducible assumption) | assumption)
                        obtain ⟨ad883, e883, hx883_0, hx883_1, hx883_2, hx883_3, hx883_4, hx883_5, hx883_6⟩ := at_T24 HR0.out x5_1 p883 q883
                        cases e883
                        replace p883 := eq_true p883
                        replace q883 := eq_true q883
                        have p884 : 0 ≤ (x5_1 : Int) := of_decide_eq_true (by first | (with_reducible assumption) | assumption)
                        have q884 : x5_1 < (l0.length : Int) := of_decide_eq_true (by first | (with_reducible assumption) | assumption)
                        obtain ⟨ad884, e884, hx884_0, hx884_1, hx884_2, hx884_3, hx884_4, hx884_5, hx884_6⟩ := at_T24 HR0.out x5_1 p884 q884
                        obtain rfl : ad883 = ad884 := (by injection e884)
                        replace p884 := eq_true p884
                        replace q884 := eq_true q884
                        have p885 : 0 ≤ (x5_1 : Int) := of_decide_eq_true (by first | (with_reducible assumption) | assumption)
                        have q885 : x5_1 < (l0.length : Int) := of_decide_eq_true (by first | (with_reducible assumption) | assumption)
                        obtain ⟨ad885, e885, hx885_0, hx885_1, hx885_2, hx885_3, hx885_4, hx885_5, hx885_6⟩ := at_T24 HR0.out x5_1 p885 q885
                        obtain rfl : ad883 = ad885 := (by injection e885)
                        replace p885 := eq_true p885
                        replace q885 := eq_true q885
                        have p886 : 0 ≤ (x5_1 : Int) := of_decide_eq_true (by first | (with_reducible assumption) | assumption)
                        have q886 : x5_1 < (l0.length : Int) := of_decide_eq_true (by first | (with_reducible assumption) | assumption)
                        obtain ⟨ad886, e886, hx886_0, hx886_1, hx886_2, hx886_3, hx886_4, hx886_5, hx886_6⟩ := at_T24 HR0.out x5_1 p886 q886
                        obtain rfl : ad883 = ad886 := (by injection e886)
                        replace p886 := eq_true p886
                        replace q886 := eq_true q886
                        have p887 : 0 ≤ (x5_1 : Int) := of_decide_eq_true (by first | (with_reducible assumption) | assumption)
                        have q887 : x5_1 < (l0.length : Int) := of_decide_eq_true (by first | (with_reducible assumption) | assumption)
                        obtain ⟨ad887, e887, hx887_0, hx887_1, hx887_2, hx887_3, hx887_4, hx887_5, hx887_6⟩ := at_T24 HR0.out x5_1 p887 q887
                        obtain rfl : ad883 = ad887 := (by injection e887)
                        replace p887 := eq_true p887
                        replace q887 := eq_true q887
                        have p888 : 0 ≤ (x5_1 : Int) := of_decide_eq_true (by first | (with_reducible assumption) | assumption)
                        have q888 : x5_1 < (l0.length : Int) := of_decide_eq_true (by first | (with_reducible assumption) | assumption)
                        obtain ⟨ad888, e888, hx888_0, hx888_1, hx888_2, hx888_3, hx888_4, hx888_5, hx888_6⟩ := at_T24 HR0.out x5_1 p888 q888
                        obtain rfl : ad883 = ad888 := (by injection e888)
                        replace p888 := eq_true p888
                        replace q888 := eq_true q888
                        have p889 : 0 ≤ (x5_1 : Int) := of_decide_eq_true (by first | (with_reducible assumption) | assumption)
                        have q889 : x5_1 < (l0.length : Int) := of_decide_eq_true (by first | (with_reducible assumption) | assumption)
                        obtain ⟨ad889, e889, hx889_0, hx889_1, hx889_2, hx889_3, hx889_4, hx889_5, hx889_6⟩ := at_T24 HR0.out x5_1 p889 q889
                        obtain rfl : ad883 = ad889 := (by injection e889)
                        replace p889 := eq_true p889
                        replace q889 := eq_true q889
                        go_wp2
                        go_roundg k1
                        case measure => have := HK1.out; omega
                        case rel => exact ⟨(wrap64 ((wrap64 ((wrap64 ((wrap64 ((wrap64 ((wrap64 ((wrap64 (x1_1 + 1)) + 1)) + 1)) + 1)) + 1)) + 1)) + 1)), (wrap64 (x5_1 + 1)), (by first | rfl | (simp; done) | (simp [*]; done)), (by first | rfl | (simp; done) | (simp [*]; done)), H', ⟨by have := HK1.out; omega⟩, by repeat (first | exact Drawn0.refl _ | apply Drawn0.step)⟩
                      · rw [if_neg c11] at H
                        have c11b0 : (((rd_T24 l0 x5_1).f6) == (wrap64 ((wrap64 ((wrap64 ((wrap64 ((wrap64 ((wrap64 (x1_1 + 1)) + 1)) + 1)) + 1)) + 1)) + 1))) = false := beq_eq_false_iff_ne.mpr c11
                        have c11b1 : (((rd_T24 l0 x5_1).f6) != (wrap64 ((wrap64 ((wrap64 ((wrap64 ((wrap64 ((wrap64 (x1_1 + 1)) + 1)) + 1)) + 1)) + 1)) + 1))) = true := bne_iff_ne.mpr c11
                        obtain rfl := Option.some.inj H
                        have p883 : 0 ≤ (x5_1 : Int) := of_decide_eq_true (by first | (with_reducible assumption) | assumption)
                        have q883 : x5_1 < (l0.length : Int) := of_decide_eq_true (by first | (with_reducible assumption) | assumption)
                        obtain ⟨ad883, e883, hx883_0, hx883_1, hx883_2, hx883_3, hx883_4, hx883_5, hx883_6⟩ := at_T24 HR0.out x5_1 p883 q883
                        cases e883
                        replace p883 := eq_true p883
                        replace q883 := eq_true q883
                        have p884 : 0 ≤ (x5_1 : Int) := of_decide_eq_true (by first | (with_reducible assumption) | assumption)
                        have q884 : x5_1 < (l0.length : Int) := of_decide_eq_true (by first | (with_reducible assumption) | assumption)
                        obtain ⟨ad884, e884, hx884_0, hx884_1, hx884_2, hx884_3, hx884_4, hx884_5, hx884_6⟩ := at_T24 HR0.out x5_1 p884 q884
                        obtain rfl : ad883 = ad884 := (by injection e884)
                        replace p884 := eq_true p884
                        replace q884 := eq_true q884
                        have p885 : 0 ≤ (x5_1 : Int) := of_decide_eq_true (by first | (with_reducible assumption) | assumption)
                        have q885 : x5_1 < (l0.length : Int) := of_decide_eq_true (by first | (with_reducible assumption) | assumption)
                        obtain ⟨ad885, e885, hx885_0, hx885_1, hx885_2, hx885_3, hx885_4, hx885_5, hx885_6⟩ := at_T24 HR0.out x5_1 p885 q885
                        obtain rfl : ad883 = ad885 := (by injection e885)
                        replace p885 := eq_true p885
                        replace q885 := eq_true q885
                        have p886 : 0 ≤ (x5_1 : Int) := of_decide_eq_true (by first | (with_reducible assumption) | assumption)
                        have q886 : x5_1 < (l0.length : Int) := of_decide_eq_true (by first | (with_reducible assumption) | assumption)
                        obtain ⟨ad886, e886, hx886_0, hx886_1, hx886_2, hx886_3, hx886_4, hx886_5, hx886_6⟩ := at_T24 HR0.out x5_1 p886 q886
                        obtain rfl : ad883 = ad886 := (by injection e886)
                        replace p886 := eq_true p886
                        replace q886 := eq_true q886
                        have p887 : 0 ≤ (x5_1 : Int) := of_decide_eq_true (by first | (with_reducible assumption) | assumption)
                        have q887 : x5_1 < (l0.length : Int) := of_decide_eq_true (by first | (with_reducible assumption) | assumption)
                        obtain ⟨ad887, e887, hx887_0, hx887_1, hx887_2, hx887_3, hx887_4, hx887_5, hx887_6⟩ := at_T24 HR0.out x5_1 p887 q887
                        obtain rfl : ad883 = ad887 := (by injection e887)
                        replace p887 := eq_true p887
                        replace q887 := eq_true q887
                        have p888 : 0 ≤ (x5_1 : Int) := of_decide_eq_true (by first | (with_reducible assumption) | assumption)
                        have q888 : x5_1 < (l0.length : Int) := of_decide_eq_true (by first | (with_reducible assumption) | assumption)
                        obtain ⟨ad888, e888, hx888_0, hx888_1, hx888_2, hx888_3, hx888_4, hx888_5, hx888_6⟩ := at_T24 HR0.out x5_1 p888 q888
                        obtain rfl : ad883 = ad888 := (by injection e888)
                        replace p888 := eq_true p888
                        replace q888 := eq_true q888
                        have p889 : 0 ≤ (x5_1 : Int) := of_decide_eq_true (by first | (with_reducible assumption) | assumption)
                        have q889 : x5_1 < (l0.length : Int) := of_decide_eq_true (by first | (with_reducible assumption) | assumption)
                        obtain ⟨ad889, e889, hx889_0, hx889_1, hx889_2, hx889_3, hx889_4, hx889_5, hx889_6⟩ := at_T24 HR0.out x5_1 p889 q889
                        obtain rfl : ad883 = ad889 := (by injection e889)
                        replace p889 := eq_true p889
                        replace q889 := eq_true q889
                        go_wp2
                        go_ret
                        exact ⟨by first | rfl | (simp; done) | (simp [*]; done), by repeat (first | exact Drawn0.refl _ | apply Drawn0.step)⟩
                    · rw [if_neg c10] at H
                      have c10b0 : (((rd_T24 l0 x5_1).f5) == (wrap64 ((wrap64 ((wrap64 ((wrap64 ((wrap64 (x1_1 + 1)) + 1)) + 1)) + 1)) + 1))) = false := beq_eq_false_iff_ne.mpr c10
                      have c10b1 : (((rd_T24 l0 x5_1).f5) != (wrap64 ((wrap64 ((wrap64 ((wrap64 ((wrap64 (x1_1 + 1)) + 1)) + 1)) + 1)) + 1))) = true := bne_iff_ne.mpr c10
                      obtain rfl := Option.some.inj H
                      have p883 : 0 ≤ (x5_1 : Int) := of_decide_eq_true (by first | (with_reducible assumption) | assumption)
                      have q883 : x5_1 < (l0.length : Int) := of_decide_eq_true (by first | (with_reducible assumption) | assumption)
                      obtain ⟨ad883, e883, hx883_0, hx883_1, hx883_2, hx883_3, hx883_4, hx883_5, hx883_6⟩ := at_T24 HR0.out x5_1 p883 q883
                      cases e883
                      replace p883 := eq_true p883
                      replace q883 := eq_true q883
                      have p884 : 0 ≤ (x5_1 : Int) := of_decide_eq_true (by first | (with_reducible assumption) | assumption)
                      have q884 : x5_1 < (l0.length : Int) := of_decide_eq_true (by first | (with_reducible assumption) | assumption)
                      obtain ⟨ad884, e884, hx884_0, hx884_1, hx884_2, hx884_3, hx884_4, hx884_5, hx884_6⟩ := at_T24 HR0.out x5_1 p884 q884
                      obtain rfl : ad883 = ad884 := (by injection e884)
                      replace p884 := eq_true p884
                      replace q884 := eq_true q884
                      have p885 : 0 ≤ (x5_1 : Int) := of_decide_eq_true (by first | (with_reducible assumption) | assumption)
                      have q885 : x5_1 < (l0.length : Int) := of_decide_eq_true (by first | (with_reducible assumption) | assumption)
                      obtain ⟨ad885, e885, hx885_0, hx885_1, hx885_2, hx885_3, hx885_4, hx885_5, hx885_6⟩ := at_T24 HR0.out x5_1 p885 q885
                      obtain rfl : ad883 = ad885 := (by injection e885)
                      replace p885 := eq_true p885
                      replace q885 := eq_true q885
                      have p886 : 0 ≤ (x5_1 : Int) := of_decide_eq_true (by first | (with_reducible assumption) | assumption)
                      have q886 : x5_1 < (l0.length : Int) := of_decide_eq_true (by first | (with_reducible assumption) | assumption)
                      obtain ⟨ad886, e886, hx886_0, hx886_1, hx886_2, hx886_3, hx886_4, hx886_5, hx886_6⟩ := at_T24 HR0.out x5_1 p886 q886
                      obtain rfl : ad883 = ad886 := (by injection e886)
                      replace p886 := eq_true p886
                      replace q886 := eq_true q886
                      have p887 : 0 ≤ (x5_1 : Int) := of_decide_eq_true (by first | (with_reducible assumption) | assumption)
                      have q887 : x5_1 < (l0.length : Int) := of_decide_eq_true (by first | (with_reducible assumption) | assumption)
                      obtain ⟨ad887, e887, hx887_0, hx887_1, hx887_2, hx887_3, hx887_4, hx887_5, hx887_6⟩ := at_T24 HR0.out x5_1 p887 q887
                      obtain rfl : ad883 = ad887 := (by injection e887)
                      replace p887 := eq_true p887
                      replace q887 := eq_true q887
                      have p888 : 0 ≤ (x5_1 : Int) := of_decide_eq_true (by first | (with_reducible assumption) | assumption)
                      have q888 : x5_1 < (l0.length : Int) := of_decide_eq_true (by first | (with_reducible assumption) | assumption)
                      obtain ⟨ad888, e888, hx888_0, hx888_1, hx888_2, hx888_3, hx888_4, hx888_5, hx888_6⟩ := at_T24 HR0.out x5_1 p888 q888
                      obtain rfl : ad883 = ad888 := (by injection e888)
                      replace p888 := eq_true p888
                      replace q888 := eq_true q888
                      go_wp2
                      go_ret
                      exact ⟨by first | rfl | (simp; done) | (simp [*]; done), by repeat (first | exact Drawn0.refl _ | apply Drawn0.step)⟩
                  · rw [if_neg c9] at H
                    have c9b0 : (((rd_T24 l0 x5_1).f4) == (wrap64 ((wrap64 ((wrap64 ((wrap64 (x1_1 + 1)) + 1)) + 1)) + 1))) = false := beq_eq_false_iff_ne.mpr c9
                    have c9b1 : (((rd_T24 l0 x5_1).f4) != (wrap64 ((wrap64 ((wrap64 ((wrap64 (x1_1 + 1)) + 1)) + 1)) + 1))) = true := bne_iff_ne.mpr c9
                    obtain rfl := Option.some.inj H
                    have p883 : 0 ≤ (x5_1 : Int) := of_decide_eq_true (by first | (with_reducible assumption) | assumption)
                    have q883 : x5_1 < (l0.length : Int) := of_decide_eq_true (by first | (with_reducible assumption) | assumption)
                    obtain ⟨ad883, e883, hx883_0, hx883_1, hx883_2, hx883_3, hx883_4, hx883_5, hx883_6⟩ := at_T24 HR0.out x5_1 p883 q883
                    cases e883
                    replace p883 := eq_true p883
                    replace q883 := eq_true q883
                    have p884 : 0 ≤ (x5_1 : Int) := of_decide_eq_true (by first | (with_reducible assumption) | assumption)
                    have q884 : x5_1 < (l0.length : Int) := of_decide_eq_true (by first | (with_reducible assumption) | assumption)
                    obtain ⟨ad884, e884, hx884_0, hx884_1, hx884_2, hx884_3, hx884_4, hx884_5, hx884_6⟩ := at_T24 HR0.out x5_1 p884 q884
                    obtain rfl : ad883 = ad884 := (by injection e884)
                    replace p884 := eq_true p884
                    replace q884 := eq_true q884
                    have p885 : 0 ≤ (x5_1 : Int) := of_decide_eq_true (by first | (with_reducible assumption) | assumption)
                    have q885 : x5_1 < (l0.length : Int) := of_decide_eq_true (by first | (with_reducible assumption) | assumption)
                    obtain ⟨ad885, e885, hx885_0, hx885_1, hx885_2, hx885_3, hx885_4, hx885_5, hx885_6⟩ := at_T24 HR0.out x5_1 p885 q885
                    obtain rfl : ad883 = ad885 := (by injection e885)
                    replace p885 := eq_true p885
                    replace q885 := eq_true q885
                    have p886 : 0 ≤ (x5_1 : Int) := of_decide_eq_true (by first | (with_reducible assumption) | assumption)
                    have q886 : x5_1 < (l0.length : Int) := of_decide_eq_true (by first | (with_reducible assumption) | assumption)
                    obtain ⟨ad886, e886, hx886_0, hx886_1, hx886_2, hx886_3, hx886_4, hx886_5, hx886_6⟩ := at_T24 HR0.out x5_1 p886 q886
                    obtain rfl : ad883 = ad886 := (by injection e886)
                    replace p886 := eq_true p886
                    replace q886 := eq_true q886
                    have p887 : 0 ≤ (x5_1 : Int) := of_decide_eq_true (by first | (with_reducible assumption) | assumption)
                    have q887 : x5_1 < (l0.length : Int) := of_decide_eq_true (by first | (with_reducible assumption) | assumption)
                    obtain ⟨ad887, e887, hx887_0, hx887_1, hx887_2, hx887_3, hx887_4, hx887_5, hx887_6⟩ := at_T24 HR0.out x5_1 p887 q887
                    obtain rfl : ad883 = ad887 := (by injection e887)
                    replace p887 := eq_true p887
                    replace q887 := eq_true q887
                    go_wp2
                    go_ret
                    exact ⟨by first | rfl | (simp; done) | (simp [*]; done), by repeat (first | exact Drawn0.refl _ | apply Drawn0.step)⟩
                · rw [if_neg c8] at H
                  have c8b0 : (((rd_T24 l0 x5_1).f3) == (wrap64 ((wrap64 ((wrap64 (x1_1 + 1)) + 1)) + 1))) = false := beq_eq_false_iff_ne.mpr c8
                  have c8b1 : (((rd_T24 l0 x5_1).f3) != (wrap64 ((wrap64 ((wrap64 (x1_1 + 1)) + 1)) + 1))) = true := bne_iff_ne.mpr c8
                  obtain rfl := Option.some.inj H
                  have p883 : 0 ≤ (x5_1 : Int) := of_decide_eq_true (by first | (with_reducible assumption) | assumption)
                  have q883 : x5_1 < (l0.length : Int) := of_decide_eq_true (by first | (with_reducible assumption) | assumption)
                  obtain ⟨ad883, e883, hx883_0, hx883_1, hx883_2, hx883_3, hx883_4, hx883_5, hx883_6⟩ := at_T24 HR0.out x5_1 p883 q883
                  cases e883
                  replace p883 := eq_true p883
                  replace q883 := eq_true q883
                  have p884 : 0 ≤ (x5_1 : Int) := of_decide_eq_true (by first | (with_reducible assumption) | assumption)
                  have q884 : x5_1 < (l0.length : Int) := of_decide_eq_true (by first | (with_reducible assumption) | assumption)
                  obtain ⟨ad884, e884, hx884_0, hx884_1, hx884_2, hx884_3, hx884_4, hx884_5, hx884_6⟩ := at_T24 HR0.out x5_1 p884 q884
                  obtain rfl : ad883 = ad884 := (by injection e884)
                  replace p884 := eq_true p884
                  replace q884 := eq_true q884
                  have p885 : 0 ≤ (x5_1 : Int) := of_decide_eq_true (by first | (with_reducible assumption) | assumption)
                  have q885 : x5_1 < (l0.length : Int) := of_decide_eq_true (by first | (with_reducible assumption) | assumption)
                  obtain ⟨ad885, e885, hx885_0, hx885_1, hx885_2, hx885_3, hx885_4, hx885_5, hx885_6⟩ := at_T24 HR0.out x5_1 p885 q885
                  obtain rfl : ad883 = ad885 := (by injection e885)
                  replace p885 := eq_true p885
                  replace q885 := eq_true q885
                  have p886 : 0 ≤ (x5_1 : Int) := of_decide_eq_true (by first | (with_reducible assumption) | assumption)
                  have q886 : x5_1 < (l0.length : Int) := of_decide_eq_true (by first | (with_reducible assumption) | assumption)
                  obtain ⟨ad886, e886, hx886_0, hx886_1, hx886_2, hx886_3, hx886_4, hx886_5, hx886_6⟩ := at_T24 HR0.out x5_1 p886 q886
                  obtain rfl : ad883 = ad886 := (by injection e886)
                  replace p886 := eq_true p886
                  replace q886 := eq_true q886
                  go_wp2
                  go_ret
                  exact ⟨by first | rfl | (simp; done) | (simp [*]; done), by repeat (first | exact Drawn0.refl _ | apply Drawn0.step)⟩
              · rw [if_neg c7] at H
                have c7b0 : (((rd_T24 l0 x5_1).f2) == (wrap64 ((wrap64 (x1_1 + 1)) + 1))) = false := beq_eq_false_iff_ne.mpr c7
                have c7b1 : (((rd_T24 l0 x5_1).f2) != (wrap64 ((wrap64 (x1_1 + 1)) + 1))) = true := bne_iff_ne.mpr c7
                obtain rfl := Option.some.inj H
                have p883 : 0 ≤ (x5_1 : Int) := of_decide_eq_true (by first | (with_reducible assumption) | assumption)
                have q883 : x5_1 < (l0.length : Int) := of_decide_eq_true (by first | (with_reducible assumption) | assumption)
                obtain ⟨ad883, e883, hx883_0, hx883_1, hx883_2, hx883_3, hx883_4, hx883_5, hx883_6⟩ := at_T24 HR0.out x5_1 p883 q883
                cases e883
                replace p883 := eq_true p883
                replace q883 := eq_true q883
                have p884 : 0 ≤ (x5_1 : Int) := of_decide_eq_true (by first | (with_reducible assumption) | assumption)
                have q884 : x5_1 < (l0.length : Int) := of_decide_eq_true (by first | (with_reducible assumption) | assumption)
                obtain ⟨ad884, e884, hx884_0, hx884_1, hx884_2, hx884_3, hx884_4, hx884_5, hx884_6⟩ := at_T24 HR0.out x5_1 p884 q884
                obtain rfl : ad883 = ad884 := (by injection e884)
                replace p884 := eq_true p884
                replace q884 := eq_true q884
                have p885 : 0 ≤ (x5_1 : Int) := of_decide_eq_true (by first | (with_reducible assumption) | assumption)
                have q885 : x5_1 < (l0.length : Int) := of_decide_eq_true (by first | (with_reducible assumption) | assumption)
                obtain ⟨ad885, e885, hx885_0, hx885_1, hx885_2, hx885_3, hx885_4, hx885_5, hx885_6⟩ := at_T24 HR0.out x5_1 p885 q885
                obtain rfl : ad883 = ad885 := (by injection e885)
                replace p885 := eq_true p885
                replace q885 := eq_true q885
                go_wp2
                go_ret
                exact ⟨by first | rfl | (simp; done) | (simp [*]; done), by repeat (first | exact Drawn0.refl _ | apply Drawn0.step)⟩
            · rw [if_neg c6] at H
              have c6b0 : (((rd_T24 l0 x5_1).f1) == (wrap64 (x1_1 + 1))) = false := beq_eq_false_iff_ne.mpr c6
              have c6b1 : (((rd_T24 l0 x5_1).f1) != (wrap64 (x1_1 + 1))) = true := bne_iff_ne.mpr c6
              obtain rfl := Option.some.inj H
              have p883 : 0 ≤ (x5_1 : Int) := of_decide_eq_true (by first | (with_reducible assumption) | assumption)
              have q883 : x5_1 < (l0.length : Int) := of_decide_eq_true (by first | (with_reducible assumption) | assumption)
              obtain ⟨ad883, e883, hx883_0, hx883_1, hx883_2, hx883_3, hx883_4, hx883_5, hx883_6⟩ := at_T24 HR0.out x5_1 p883 q883
              cases e883
              replace p883 := eq_true p883
              replace q883 := eq_true q883
              have p884 : 0 ≤ (x5_1 : Int) := of_decide_eq_true (by first | (with_reducible assumption) | assumption)
              have q884 : x5_1 < (l0.length : Int) := of_decide_eq_true (by first | (with_reducible assumption) | assumption)
              obtain ⟨ad884, e884, hx884_0, hx884_1, hx884_2, hx884_3, hx884_4, hx884_5, hx884_6⟩ := at_T24 HR0.out x5_1 p884 q884
              obtain rfl : ad883 = ad884 := (by injection e884)
              replace p884 := eq_true p884
              replace q884 := eq_true q884
              go_wp2
              go_ret
              exact ⟨by first | rfl | (simp; done) | (simp [*]; done), by repeat (first | exact Drawn0.refl _ | apply Drawn0.step)⟩
        · rw [if_neg c4] at H
          exact absurd H (by simp)
      · rw [if_neg c3] at H
        have c3b0 : decide (x5_1 < (l0.length : Int)) = false := decide_eq_false c3
        clear c3
        obtain rfl := Option.some.inj H
        go_wp2
        go_ret
        exact ⟨by first | rfl | (simp; done) | (simp [*]; done), by repeat (first | exact Drawn0.refl _ | apply Drawn0.step)⟩

end Go.Proofs.Ytiocgkggegahhaa.P
