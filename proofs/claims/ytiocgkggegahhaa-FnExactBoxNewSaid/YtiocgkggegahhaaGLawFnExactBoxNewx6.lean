import Derived.Test.YtiocgkggegahhaaGLawFnExactBoxNewx5
import Derived.Deep.Slices
import Derived.ChangeArms
import Derived.WideShapes
-- written by hw.py for this claim
namespace Go.Proofs.Ytiocgkggegahhaa.P
open Go.RowKit Go.Proofs.YtiocgkggegahhaaUFnExactBoxNew.PrintWords Go.Proofs.YtiocgkggegahhaaUFnExactBoxNew.PrintLast Go.Proofs.YtiocgkggegahhaaUFnExactBoxNew.PrintMore
attribute [local go_sem] max2_int min2_int max_two min_two max_three min_three max_four min_four
set_option linter.unusedVariables false
set_option linter.unusedSimpArgs false

/-! ### laws_FnExactBoxNew: function 10 -/
def laws_FnExactBoxNew.j0 : Nat → List (S80) → Bool → List (S24) → List (S29) → List (S119) → List (S24) → List (S29) → List (S119) → Option (Bool)
  | 0, _, _, _, _, _, _, _, _ => none
  | k + 1, x0, x42, x918000, x918001, x918002, x931000, x931001, x931002 => if x42 = true then (some false) else ((laws_markBoxBox.f k x931000 x931001 x931002 1).bind fun bt939 => ((laws_heldBoxBox.f k bt939.2.1 bt939.2.2.1 bt939.2.2.2 1).bind fun t943 => (if t943 < 0 then (some false) else (if t943 = bt939.1 then ((laws_toRulRuleS.f k x0).bind fun t944 => ((impl_BoxNew.f t944).bind fun bt947 => ((laws_eqBoxBox.f k bt947.1 bt947.2.1 bt947.2.2 x918000 x918001 x918002).bind fun t957 => (if t957 = true then ((laws_heldBoxBox.f k bt939.2.1 bt939.2.2.1 bt939.2.2.2 1).bind fun t958 => (if t958 < 0 then (some false) else (if t958 = bt939.1 then (some true) else (some false)))) else (some false))))) else (some false)))))
def laws_FnExactBoxNew.f (k : Nat) (l0 : List (S80)) : Option (Bool) := (laws_szRulRuleS.f l0 1048576).bind fun t904 => (if t904 < 0 then (some true) else ((laws_toRulRuleS.f k l0).bind fun t905 => ((spec_BoxNew.f k t905).bind fun bt908 => ((laws_toRulRuleS.f k l0).bind fun t918 => ((impl_BoxNew.f t918).bind fun bt921 => ((laws_eqBoxBox.f k bt921.1 bt921.2.1 bt921.2.2 bt908.1 bt908.2.1 bt908.2.2).bind fun t931 => (if t931 = true then ((laws_toRulRuleS.f k l0).bind fun t932 => ((laws_eqRulRuleS.f k t918 t932).bind fun t935 => (if t935 = true then ((laws_markRulRuleS.f k t918 1).bind fun bt936 => (if bt936.1 < 0 then (laws_FnExactBoxNew.j0 k l0 true bt908.1 bt908.2.1 bt908.2.2 bt921.1 bt921.2.1 bt921.2.2) else ((laws_eqBoxBox.f k bt921.1 bt921.2.1 bt921.2.2 bt908.1 bt908.2.1 bt908.2.2).bind fun t938 => (laws_FnExactBoxNew.j0 k l0 (!t938) bt908.1 bt908.2.1 bt908.2.2 bt921.1 bt921.2.1 bt921.2.2)))) else (some false)))) else (some false))))))))
theorem laws_FnExactBoxNew.mono_l : ∀ k, (∀ y0 y1 y2 y3 y4 y5 y6 y7, LeO (laws_FnExactBoxNew.j0 k y0 y1 y2 y3 y4 y5 y6 y7) (laws_FnExactBoxNew.j0 (k + 1) y0 y1 y2 y3 y4 y5 y6 y7))
  | 0 => fun _ _ _ _ _ _ _ _ r h => by simp [laws_FnExactBoxNew.j0] at h
  | k + 1 => by
    have ih0 := laws_FnExactBoxNew.mono_l k
    · intro y0 y1 y2 y3 y4 y5 y6 y7
      unfold laws_FnExactBoxNew.j0
      repeat' first
      | (with_reducible exact ih0 _ _ _ _ _ _ _ _)
      | (with_reducible exact laws_eqBoxBox.mono _ _ _ _ _ _ _)
      | (with_reducible exact laws_eqRulRuleS.mono _ _ _)
      | (with_reducible exact laws_heldBoxBox.mono _ _ _ _ _)
      | (with_reducible exact laws_markBoxBox.mono _ _ _ _ _)
      | (with_reducible exact laws_markRulRuleS.mono _ _ _)
      | (with_reducible exact laws_toRulRuleS.mono _ _)
      | (with_reducible exact spec_BoxNew.mono _ _)
      | (with_reducible exact LeO.refl _)
      | (with_reducible exact LeO.none _)
      | (with_reducible refine LeO.ite ?_ ?_)
      | (with_reducible refine LeO.bind ?_ (fun _ => ?_))
      | exact ih0 _ _ _ _ _ _ _ _
      | exact laws_eqBoxBox.mono _ _ _ _ _ _ _
      | exact laws_eqRulRuleS.mono _ _ _
      | exact laws_heldBoxBox.mono _ _ _ _ _
      | exact laws_markBoxBox.mono _ _ _ _ _
      | exact laws_markRulRuleS.mono _ _ _
      | exact laws_toRulRuleS.mono _ _
      | exact spec_BoxNew.mono _ _
      | exact LeO.none _
      | refine LeO.ite ?_ ?_
      | refine LeO.bind ?_ (fun _ => ?_)
theorem laws_FnExactBoxNew.mono : ∀ a0 k, LeO (laws_FnExactBoxNew.f k a0) (laws_FnExactBoxNew.f (k + 1) a0) := by
  intro a0 k
  have ih0 := laws_FnExactBoxNew.mono_l k
  unfold laws_FnExactBoxNew.f
  repeat' first
      | (with_reducible exact ih0 _ _ _ _ _ _ _ _)
      | (with_reducible exact laws_eqBoxBox.mono _ _ _ _ _ _ _)
      | (with_reducible exact laws_eqRulRuleS.mono _ _ _)
      | (with_reducible exact laws_heldBoxBox.mono _ _ _ _ _)
      | (with_reducible exact laws_markBoxBox.mono _ _ _ _ _)
      | (with_reducible exact laws_markRulRuleS.mono _ _ _)
      | (with_reducible exact laws_toRulRuleS.mono _ _)
      | (with_reducible exact spec_BoxNew.mono _ _)
      | (with_reducible exact LeO.refl _)
      | (with_reducible exact LeO.none _)
      | (with_reducible refine LeO.ite ?_ ?_)
      | (with_reducible refine LeO.bind ?_ (fun _ => ?_))
      | exact ih0 _ _ _ _ _ _ _ _
      | exact laws_eqBoxBox.mono _ _ _ _ _ _ _
      | exact laws_eqRulRuleS.mono _ _ _
      | exact laws_heldBoxBox.mono _ _ _ _ _
      | exact laws_markBoxBox.mono _ _ _ _ _
      | exact laws_markRulRuleS.mono _ _ _
      | exact laws_toRulRuleS.mono _ _
      | exact spec_BoxNew.mono _ _
      | exact LeO.none _
      | refine LeO.ite ?_ ?_
      | refine LeO.bind ?_ (fun _ => ?_)
set_option maxHeartbeats 8000000 in
set_option maxRecDepth 100000 in
theorem laws_FnExactBoxNew.calls (k : Nat) (A0 : Option Addr) (c0 : Nat) (l0 : List (S80)) (r : Bool) (w : World) (hr0 : Kd.C k80 w A0 l0.length l0) (hc0 : l0.length ≤ c0) (h : laws_FnExactBoxNew.f k l0 = some r) (hrt : Aside0 (r = true)) :
    Calls Try.prog 10 #[.slice A0 l0.length c0] w fun e w' => e = .returned (.bool r) ∧ Below w.heap.size w w' := by
  have hu66 := Try.underlying66
  have HR0 := Aside0.mk hr0
  have HC0 := Aside0.mk hc0
  clear hr0 hc0
  have HB := Aside0.mk (Below.refl w.heap.size w)
  have H : ((laws_szRulRuleS.f l0 1048576).bind fun t904 => (if t904 < 0 then (some true) else ((laws_toRulRuleS.f k l0).bind fun t905 => ((spec_BoxNew.f k t905).bind fun bt908 => ((laws_toRulRuleS.f k l0).bind fun t918 => ((impl_BoxNew.f t918).bind fun bt921 => ((laws_eqBoxBox.f k bt921.1 bt921.2.1 bt921.2.2 bt908.1 bt908.2.1 bt908.2.2).bind fun t931 => (if t931 = true then ((laws_toRulRuleS.f k l0).bind fun t932 => ((laws_eqRulRuleS.f k t918 t932).bind fun t935 => (if t935 = true then ((laws_markRulRuleS.f k t918 1).bind fun bt936 => (if bt936.1 < 0 then (laws_FnExactBoxNew.j0 k l0 true bt908.1 bt908.2.1 bt908.2.2 bt921.1 bt921.2.1 bt921.2.2) else ((laws_eqBoxBox.f k bt921.1 bt921.2.1 bt921.2.2 bt908.1 bt908.2.1 bt908.2.2).bind fun t938 => (laws_FnExactBoxNew.j0 k l0 (!t938) bt908.1 bt908.2.1 bt908.2.2 bt921.1 bt921.2.1 bt921.2.2)))) else (some false)))) else (some false))))))))) = some r := h
  clear h
  replace H := Option.bind_eq_some_iff.mp H
  obtain ⟨t904, A20, H⟩ := H
  replace H : (if t904 < 0 then (some true) else ((laws_toRulRuleS.f k l0).bind fun t905 => ((spec_BoxNew.f k t905).bind fun bt908 => ((laws_toRulRuleS.f k l0).bind fun t918 => ((impl_BoxNew.f t918).bind fun bt921 => ((laws_eqBoxBox.f k bt921.1 bt921.2.1 bt921.2.2 bt908.1 bt908.2.1 bt908.2.2).bind fun t931 => (if t931 = true then ((laws_toRulRuleS.f k l0).bind fun t932 => ((laws_eqRulRuleS.f k t918 t932).bind fun t935 => (if t935 = true then ((laws_markRulRuleS.f k t918 1).bind fun bt936 => (if bt936.1 < 0 then (laws_FnExactBoxNew.j0 k l0 true bt908.1 bt908.2.1 bt908.2.2 bt921.1 bt921.2.1 bt921.2.2) else ((laws_eqBoxBox.f k bt921.1 bt921.2.1 bt921.2.2 bt908.1 bt908.2.1 bt908.2.2).bind fun t938 => (laws_FnExactBoxNew.j0 k l0 (!t938) bt908.1 bt908.2.1 bt908.2.2 bt921.1 bt921.2.1 bt921.2.2)))) else (some false)))) else (some false)))))))) = some r := H
  have A2 := Aside0.mk A20
  clear A20
  by_cases c3 : t904 < 0
  · rw [if_pos c3] at H
    have c3b0 : decide (t904 < 0) = true := decide_eq_true c3
    clear c3
    obtain rfl := Option.some.inj H
    go_enter Try.func10, Try.ntmps10
    go_wp2_with (first | ((with_reducible refine gate_callee (f := 16) rfl ?_); refine goesL_ (some 13) rfl rfl Try.func16 (by kernel_rfl) rfl #[.slice A0 l0.length c0, .int .i64 1048576] rfl (by (try simp only [List.map_toArray, List.map_cons, List.map_nil]); first | done | rfl | (simp only [List.length_drop, List.length_take]; rfl)) ?_; (with_reducible refine (laws_szRulRuleS.calls _ _ l0 1048576 t904 _ ?side1 ?side2 A2.out).mono ?_); (case side1 => repeat (first | exact HR0.out | (with_reducible refine Kd.C_alloc ?_ _) | (with_reducible refine Kd.C_drewN ?_ _) | (with_reducible refine Kd.C_drew ?_))); (case side2 => exact HC0.out); rintro e w' ⟨rfl, ⟨nd, rfl⟩⟩; refine ⟨_, rfl, ?_⟩))
    go_ret
    exact ⟨by first | rfl | (simp [errW_none, errW_some] <;> rfl) | (simp [*, errW_none, errW_some] <;> rfl), by repeat (first | (with_reducible first | exact HB.out | apply below_alloc | apply pw_below_drewN | apply below_drew1) | exact HB.out)⟩
  · rw [if_neg c3] at H
    have c3b0 : decide (t904 < 0) = false := decide_eq_false c3
    clear c3
    replace H := Option.bind_eq_some_iff.mp H
    obtain ⟨t905, A40, H⟩ := H
    replace H : ((spec_BoxNew.f k t905).bind fun bt908 => ((laws_toRulRuleS.f k l0).bind fun t918 => ((impl_BoxNew.f t918).bind fun bt921 => ((laws_eqBoxBox.f k bt921.1 bt921.2.1 bt921.2.2 bt908.1 bt908.2.1 bt908.2.2).bind fun t931 => (if t931 = true then ((laws_toRulRuleS.f k l0).bind fun t932 => ((laws_eqRulRuleS.f k t918 t932).bind fun t935 => (if t935 = true then ((laws_markRulRuleS.f k t918 1).bind fun bt936 => (if bt936.1 < 0 then (laws_FnExactBoxNew.j0 k l0 true bt908.1 bt908.2.1 bt908.2.2 bt921.1 bt921.2.1 bt921.2.2) else ((laws_eqBoxBox.f k bt921.1 bt921.2.1 bt921.2.2 bt908.1 bt908.2.1 bt908.2.2).bind fun t938 => (laws_FnExactBoxNew.j0 k l0 (!t938) bt908.1 bt908.2.1 bt908.2.2 bt921.1 bt921.2.1 bt921.2.2)))) else (some false)))) else (some false)))))) = some r := H
    have A4 := Aside0.mk A40
    clear A40
    replace H := Option.bind_eq_some_iff.mp H
    obtain ⟨⟨t908, t911, t914⟩, A50, H⟩ := H
    replace H : ((laws_toRulRuleS.f k l0).bind fun t918 => ((impl_BoxNew.f t918).bind fun bt921 => ((laws_eqBoxBox.f k bt921.1 bt921.2.1 bt921.2.2 t908 t911 t914).bind fun t931 => (if t931 = true then ((laws_toRulRuleS.f k l0).bind fun t932 => ((laws_eqRulRuleS.f k t918 t932).bind fun t935 => (if t935 = true then ((laws_markRulRuleS.f k t918 1).bind fun bt936 => (if bt936.1 < 0 then (laws_FnExactBoxNew.j0 k l0 true t908 t911 t914 bt921.1 bt921.2.1 bt921.2.2) else ((laws_eqBoxBox.f k bt921.1 bt921.2.1 bt921.2.2 t908 t911 t914).bind fun t938 => (laws_FnExactBoxNew.j0 k l0 (!t938) t908 t911 t914 bt921.1 bt921.2.1 bt921.2.2)))) else (some false)))) else (some false))))) = some r := H
    have A5 := Aside0.mk A50
    clear A50
    replace H := Option.bind_eq_some_iff.mp H
    obtain ⟨t918, A60, H⟩ := H
    replace H : ((impl_BoxNew.f t918).bind fun bt921 => ((laws_eqBoxBox.f k bt921.1 bt921.2.1 bt921.2.2 t908 t911 t914).bind fun t931 => (if t931 = true then ((laws_toRulRuleS.f k l0).bind fun t932 => ((laws_eqRulRuleS.f k t918 t932).bind fun t935 => (if t935 = true then ((laws_markRulRuleS.f k t918 1).bind fun bt936 => (if bt936.1 < 0 then (laws_FnExactBoxNew.j0 k l0 true t908 t911 t914 bt921.1 bt921.2.1 bt921.2.2) else ((laws_eqBoxBox.f k bt921.1 bt921.2.1 bt921.2.2 t908 t911 t914).bind fun t938 => (laws_FnExactBoxNew.j0 k l0 (!t938) t908 t911 t914 bt921.1 bt921.2.1 bt921.2.2)))) else (some false)))) else (some false)))) = some r := H
    have A6 := Aside0.mk A60
    clear A60
    replace H := Option.bind_eq_some_iff.mp H
    obtain ⟨⟨t921, t924, t927⟩, A70, H⟩ := H
    replace H : ((laws_eqBoxBox.f k t921 t924 t927 t908 t911 t914).bind fun t931 => (if t931 = true then ((laws_toRulRuleS.f k l0).bind fun t932 => ((laws_eqRulRuleS.f k t918 t932).bind fun t935 => (if t935 = true then ((laws_markRulRuleS.f k t918 1).bind fun bt936 => (if bt936.1 < 0 then (laws_FnExactBoxNew.j0 k l0 true t908 t911 t914 t921 t924 t927) else ((laws_eqBoxBox.f k t921 t924 t927 t908 t911 t914).bind fun t938 => (laws_FnExactBoxNew.j0 k l0 (!t938) t908 t911 t914 t921 t924 t927)))) else (some false)))) else (some false))) = some r := H
    have A7 := Aside0.mk A70
    clear A70
    replace H := Option.bind_eq_some_iff.mp H
    obtain ⟨t931, A80, H⟩ := H
    replace H : (if t931 = true then ((laws_toRulRuleS.f k l0).bind fun t932 => ((laws_eqRulRuleS.f k t918 t932).bind fun t935 => (if t935 = true then ((laws_markRulRuleS.f k t918 1).bind fun bt936 => (if bt936.1 < 0 then (laws_FnExactBoxNew.j0 k l0 true t908 t911 t914 t921 t924 t927) else ((laws_eqBoxBox.f k t921 t924 t927 t908 t911 t914).bind fun t938 => (laws_FnExactBoxNew.j0 k l0 (!t938) t908 t911 t914 t921 t924 t927)))) else (some false)))) else (some false)) = some r := H
    have A8 := Aside0.mk A80
    clear A80
    by_cases c9 : t931 = true
    · subst c9
      have H1 : ((laws_toRulRuleS.f k l0).bind fun t932 => ((laws_eqRulRuleS.f k t918 t932).bind fun t935 => (if t935 = true then ((laws_markRulRuleS.f k t918 1).bind fun bt936 => (if bt936.1 < 0 then (laws_FnExactBoxNew.j0 k l0 true t908 t911 t914 t921 t924 t927) else ((laws_eqBoxBox.f k t921 t924 t927 t908 t911 t914).bind fun t938 => (laws_FnExactBoxNew.j0 k l0 (!t938) t908 t911 t914 t921 t924 t927)))) else (some false)))) = some r := by rw [if_pos rfl] at H; exact H
      clear H
      have H := H1
      clear H1
      replace H := Option.bind_eq_some_iff.mp H
      obtain ⟨t932, A100, H⟩ := H
      replace H : ((laws_eqRulRuleS.f k t918 t932).bind fun t935 => (if t935 = true then ((laws_markRulRuleS.f k t918 1).bind fun bt936 => (if bt936.1 < 0 then (laws_FnExactBoxNew.j0 k l0 true t908 t911 t914 t921 t924 t927) else ((laws_eqBoxBox.f k t921 t924 t927 t908 t911 t914).bind fun t938 => (laws_FnExactBoxNew.j0 k l0 (!t938) t908 t911 t914 t921 t924 t927)))) else (some false))) = some r := H
      have A10 := Aside0.mk A100
      clear A100
      replace H := Option.bind_eq_some_iff.mp H
      obtain ⟨t935, A110, H⟩ := H
      replace H : (if t935 = true then ((laws_markRulRuleS.f k t918 1).bind fun bt936 => (if bt936.1 < 0 then (laws_FnExactBoxNew.j0 k l0 true t908 t911 t914 t921 t924 t927) else ((laws_eqBoxBox.f k t921 t924 t927 t908 t911 t914).bind fun t938 => (laws_FnExactBoxNew.j0 k l0 (!t938) t908 t911 t914 t921 t924 t927)))) else (some false)) = some r := H
      have A11 := Aside0.mk A110
      clear A110
      by_cases c12 : t935 = true
      · subst c12
        have H1 : ((laws_markRulRuleS.f k t918 1).bind fun bt936 => (if bt936.1 < 0 then (laws_FnExactBoxNew.j0 k l0 true t908 t911 t914 t921 t924 t927) else ((laws_eqBoxBox.f k t921 t924 t927 t908 t911 t914).bind fun t938 => (laws_FnExactBoxNew.j0 k l0 (!t938) t908 t911 t914 t921 t924 t927)))) = some r := by rw [if_pos rfl] at H; exact H
        clear H
        have H := H1
        clear H1
        replace H := Option.bind_eq_some_iff.mp H
        obtain ⟨⟨t936, t937⟩, A130, H⟩ := H
        replace H : (if t936 < 0 then (laws_FnExactBoxNew.j0 k l0 true t908 t911 t914 t921 t924 t927) else ((laws_eqBoxBox.f k t921 t924 t927 t908 t911 t914).bind fun t938 => (laws_FnExactBoxNew.j0 k l0 (!t938) t908 t911 t914 t921 t924 t927))) = some r := H
        have A13 := Aside0.mk A130
        clear A130
        have HC14 := Aside0.mk H
        clear H
        go_enter Try.func10, Try.ntmps10
        go_upto_region 14 with (first | ((with_reducible refine gate_callee (f := 16) rfl ?_); refine goesL_ (some 13) rfl rfl Try.func16 (by kernel_rfl) rfl #[.slice A0 l0.length c0, .int .i64 1048576] rfl (by (try simp only [List.map_toArray, List.map_cons, List.map_nil]); first | done | rfl | (simp only [List.length_drop, List.length_take]; rfl)) ?_; (with_reducible refine (laws_szRulRuleS.calls _ _ l0 1048576 t904 _ ?side1 ?side2 A2.out).mono ?_); (case side1 => repeat (first | exact HR0.out | (with_reducible refine Kd.C_alloc ?_ _) | (with_reducible refine Kd.C_drewN ?_ _) | (with_reducible refine Kd.C_drew ?_))); (case side2 => exact HC0.out); rintro e w' ⟨rfl, ⟨nd, rfl⟩⟩; refine ⟨_, rfl, ?_⟩) | ((with_reducible refine gate_callee (f := 18) rfl ?_); refine goesL_ (some 17) rfl rfl Try.func18 (by kernel_rfl) rfl #[.slice A0 l0.length c0] rfl (by (try simp only [List.map_toArray, List.map_cons, List.map_nil]); first | done | rfl | (simp only [List.length_drop, List.length_take]; rfl)) ?_; (with_reducible refine (laws_toRulRuleS.calls k _ _ l0 t905 _ ?side1 ?side2 A4.out).mono ?_); (case side1 => repeat (first | exact HR0.out | (with_reducible refine Kd.C_alloc ?_ _) | (with_reducible refine Kd.C_drewN ?_ _) | (with_reducible refine Kd.C_drew ?_))); (case side2 => exact HC0.out); rintro e w15 ⟨v906, rfl, ho0, hb⟩; refine ⟨_, rfl, ?_⟩; have n0_ := Aside0.mk (Kd.R_lower ho0 (below_size (bl HB))); have n1_ := Aside0.mk (below_step (bl HB) hb); clear HB; have HO907 := n0_; have HB := n1_; clear n0_ n1_; (try clear hb); (try clear hb2); (try clear hk); (try clear hi); (try clear ho0); obtain ⟨Ao16, co16, eo16⟩ := Kd.R_slice HO907.out; subst eo16) | ((with_reducible refine gate_callee (f := 38) rfl ?_); refine goesL_ (some 18) rfl rfl Try.func38 (by kernel_rfl) rfl #[.slice Ao16 t905.length co16] rfl (by (try simp only [List.map_toArray, List.map_cons, List.map_nil]); first | done | rfl | (simp only [List.length_drop, List.length_take]; rfl)) ?_; (with_reducible refine (spec_BoxNew.calls k _ _ t905 t908 t911 t914 _ ?side1 ?side2 A5.out).mono ?_); (case side1 => repeat (first | exact (Kd.R_reads' HO907.out).2.2 | (with_reducible refine Kd.C_alloc ?_ _) | (with_reducible refine Kd.C_drewN ?_ _) | (with_reducible refine Kd.C_drew ?_))); (case side2 => exact (Kd.R_reads' HO907.out).2.1); rintro e w17 ⟨v909, v912, v915, rfl, ho0, ho1, ho2, hb⟩; refine ⟨_, rfl, ?_⟩; have n0_ := Aside0.mk (Kd.R_elder' (rs HO907) (Kd.R_base ho0) hb); have n1_ := Aside0.mk (Kd.R_lower (Kd.R_new' ho0 (Kd.R_lt (rs HO907))) (below_size (bl HB))); have n2_ := Aside0.mk (Kd.R_lower ho1 (below_size (bl HB))); have n3_ := Aside0.mk (Kd.R_lower ho2 (below_size (bl HB))); have n4_ := Aside0.mk (below_step (bl HB) hb); clear HO907; clear HB; have HO907 := n0_; have HO910 := n1_; have HO913 := n2_; have HO916 := n3_; have HB := n4_; clear n0_ n1_ n2_ n3_ n4_; (try clear hb); (try clear hb2); (try clear hk); (try clear hi); (try clear ho0); (try clear ho1); (try clear ho2)) | ((with_reducible refine gate_dst (N := 4) rfl ?_); refine box_event ?hg (N := 4) ?hd (cs := #[.slice none 0 0, .slice none 0 0, .slice none 0 0]) (t := 66) ?hr ?_; (case hd => rfl); (case hg => rfl); (case hr => first | (go_simp; done) | (go_simp; rfl)); intro gb917 hg w18 hbox hb; have n0_ := Aside0.mk (Kd.R_below (rs HO907) hb); have n1_ := Aside0.mk (Kd.R_below (rs HO910) hb); have n2_ := Aside0.mk (Kd.R_below (rs HO913) hb); have n3_ := Aside0.mk (Kd.R_below (rs HO916) hb); have n4_ := Aside0.mk (below_step (bl HB) hb); have n5_ := Aside0.mk (hbox); have n6_ := Aside0.mk ((by rw [hg]; exact (below_size (bl HB)) : w.heap.size ≤ gb917)); have n7_ := Aside0.mk ((by rw [hg]; exact (below_size (bl HB)) : w.heap.size ≤ gb917)); clear HO907; clear HO910; clear HO913; clear HO916; clear HB; have HO907 := n0_; have HO910 := n1_; have HO913 := n2_; have HO916 := n3_; have HB := n4_; have BK917 := n5_; have GW917 := n6_; have GE917 := n7_; clear n0_ n1_ n2_ n3_ n4_ n5_ n6_ n7_; clear hb hbox hg; obtain ⟨Ao19, co19, eo19⟩ := Kd.R_slice HO910.out; subst eo19; have hcz20_0 : w18.cell? ⟨gb917, 0, none⟩ = some (.slice none 0 0) := (blk_cell BK917.out 0).trans rfl; have hcz20_1 : w18.cell? ⟨gb917, 1, none⟩ = some (.slice none 0 0) := (blk_cell BK917.out 1).trans rfl; have hcz20_2 : w18.cell? ⟨gb917, 2, none⟩ = some (.slice none 0 0) := (blk_cell BK917.out 2).trans rfl; have hfz20_0 := blk_frozen BK917.out 0; have hfz20_1 := blk_frozen BK917.out 1; have hfz20_2 := blk_frozen BK917.out 2; obtain ⟨Ao21, co21, eo21⟩ := Kd.R_slice HO913.out; subst eo21; obtain ⟨Ao22, co22, eo22⟩ := Kd.R_slice HO916.out; subst eo22) | ((with_reducible refine gate_callee (f := 18) rfl ?_); refine goesL_ (some 20) rfl rfl Try.func18 (by kernel_rfl) rfl #[.slice A0 l0.length c0] rfl (by (try simp only [List.map_toArray, List.map_cons, List.map_nil]); first | done | rfl | (simp only [List.length_drop, List.length_take]; rfl)) ?_; (with_reducible refine (laws_toRulRuleS.calls k _ _ l0 t918 _ ?side1 ?side2 A6.out).mono ?_); (case side1 => exact Kd.C_below HR0.out (bl HB)); (case side2 => exact HC0.out); rintro e w23 ⟨v919, rfl, ho0, hb⟩; refine ⟨_, rfl, ?_⟩; have n0_ := Aside0.mk (Kd.R_elder' (by (with_reducible repeat apply ru); exact (Kd.R_mono (Kd.R_far (p := ⟨gb917, 2, none⟩) (Kd.R_far (p := ⟨gb917, 1, none⟩) (Kd.R_far (p := ⟨gb917, 0, none⟩) (Kd.R_types HO907.out BK917.out (by decide)) (fun _ hk => hk.2) (.slice Ao19 t908.length co19)) (fun _ hk => hk.2) (.slice Ao21 t911.length co21)) (fun _ hk => hk.2) (.slice Ao22 t914.length co22)) (fun _ h_ => h_.1))) (Kd.R_base ho0) hb); have n1_ := Aside0.mk (Kd.R_elder' (by (with_reducible repeat apply ru); exact (Kd.R_mono (Kd.R_far (p := ⟨gb917, 2, none⟩) (Kd.R_far (p := ⟨gb917, 1, none⟩) (Kd.R_far (p := ⟨gb917, 0, none⟩) (Kd.R_types HO910.out BK917.out (by decide)) (fun _ hk => hk.2) (.slice Ao19 t908.length co19)) (fun _ hk => hk.2) (.slice Ao21 t911.length co21)) (fun _ hk => hk.2) (.slice Ao22 t914.length co22)) (fun _ h_ => h_.1))) (Kd.R_base ho0) hb); have n2_ := Aside0.mk (Kd.R_below (by (with_reducible repeat apply ru); exact (Kd.R_mono (Kd.R_far (p := ⟨gb917, 2, none⟩) (Kd.R_far (p := ⟨gb917, 1, none⟩) (Kd.R_far (p := ⟨gb917, 0, none⟩) (Kd.R_types HO913.out BK917.out (by decide)) (fun _ hk => hk.2) (.slice Ao19 t908.length co19)) (fun _ hk => hk.2) (.slice Ao21 t911.length co21)) (fun _ hk => hk.2) (.slice Ao22 t914.length co22)) (fun _ h_ => h_.1))) hb); have n3_ := Aside0.mk (Kd.R_below (by (with_reducible repeat apply ru); exact (Kd.R_mono (Kd.R_far (p := ⟨gb917, 2, none⟩) (Kd.R_far (p := ⟨gb917, 1, none⟩) (Kd.R_far (p := ⟨gb917, 0, none⟩) (Kd.R_types HO916.out BK917.out (by decide)) (fun _ hk => hk.2) (.slice Ao19 t908.length co19)) (fun _ hk => hk.2) (.slice Ao21 t911.length co21)) (fun _ hk => hk.2) (.slice Ao22 t914.length co22)) (fun _ h_ => h_.1))) hb); have n4_ := Aside0.mk (Kd.R_lower (Kd.R_new' (Kd.R_new' ho0 (Kd.R_lt (by (with_reducible repeat apply ru); exact (Kd.R_mono (Kd.R_far (p := ⟨gb917, 2, none⟩) (Kd.R_far (p := ⟨gb917, 1, none⟩) (Kd.R_far (p := ⟨gb917, 0, none⟩) (Kd.R_types HO907.out BK917.out (by decide)) (fun _ hk => hk.2) (.slice Ao19 t908.length co19)) (fun _ hk => hk.2) (.slice Ao21 t911.length co21)) (fun _ hk => hk.2) (.slice Ao22 t914.length co22)) (fun _ h_ => h_.1))))) (Kd.R_lt (by (with_reducible repeat apply ru); exact (Kd.R_mono (Kd.R_far (p := ⟨gb917, 2, none⟩) (Kd.R_far (p := ⟨gb917, 1, none⟩) (Kd.R_far (p := ⟨gb917, 0, none⟩) (Kd.R_types HO910.out BK917.out (by decide)) (fun _ hk => hk.2) (.slice Ao19 t908.length co19)) (fun _ hk => hk.2) (.slice Ao21 t911.length co21)) (fun _ hk => hk.2) (.slice Ao22 t914.length co22)) (fun _ h_ => h_.1))))) (below_size (bl HB))); have n5_ := Aside0.mk (blk_below (g := gb917) (o := .cells #[.slice Ao19 t908.length co19, .slice Ao21 t911.length co21, .slice Ao22 t914.length co22] 66 (0, 0)) (by (with_reducible repeat refine bu ?_); refine blk_put (cs := #[.slice Ao19 t908.length co19, .slice Ao21 t911.length co21, .slice none 0 0]) ?_ 2 _ rfl; (with_reducible repeat refine bu ?_); refine blk_put (cs := #[.slice Ao19 t908.length co19, .slice none 0 0, .slice none 0 0]) ?_ 1 _ rfl; (with_reducible repeat refine bu ?_); refine blk_put (cs := #[.slice none 0 0, .slice none 0 0, .slice none 0 0]) ?_ 0 _ rfl; (with_reducible repeat refine bu ?_); exact BK917.out) hb); have n6_ := Aside0.mk (below_step (bl HB) hb); clear HO907; clear HO910; clear HO913; clear HO916; clear BK917; clear HB; have HO907 := n0_; have HO910 := n1_; have HO913 := n2_; have HO916 := n3_; have HO920 := n4_; have BK917 := n5_; have HB := n6_; clear n0_ n1_ n2_ n3_ n4_ n5_ n6_; (try clear hb); (try clear hb2); (try clear hk); (try clear hi); (try clear ho0); obtain ⟨Ao24, co24, eo24⟩ := Kd.R_slice HO920.out; subst eo24) | ((with_reducible refine gate_callee (f := 39) rfl ?_); refine goesL_ (some 22) rfl rfl Try.func39 (by kernel_rfl) rfl #[.slice Ao24 t918.length co24] rfl (by (try simp only [List.map_toArray, List.map_cons, List.map_nil]); first | done | rfl | (simp only [List.length_drop, List.length_take]; rfl)) ?_; (with_reducible refine (impl_BoxNew.calls _ _ t918 t921 t924 t927 _ ?side1 ?side2 A7.out).mono ?_); (case side1 => repeat (first | exact (Kd.R_reads' HO920.out).2.2 | (with_reducible refine Kd.C_alloc ?_ _) | (with_reducible refine Kd.C_drewN ?_ _) | (with_reducible refine Kd.C_drew ?_))); (case side2 => exact (Kd.R_reads' HO920.out).2.1); rintro e w25 ⟨v922, v925, v928, rfl, ho0, ho1, ho2, hb⟩; refine ⟨_, rfl, ?_⟩; have n0_ := Aside0.mk (Kd.R_elder' (rs HO907) (Kd.R_base ho0) hb); have n1_ := Aside0.mk (Kd.R_elder' (rs HO910) (Kd.R_base ho0) hb); have n2_ := Aside0.mk (Kd.R_elder' (rs HO913) (Kd.R_base ho1) hb); have n3_ := Aside0.mk (Kd.R_elder' (rs HO916) (Kd.R_base ho2) hb); have n4_ := Aside0.mk (Kd.R_elder' (rs HO920) (Kd.R_base ho0) hb); have n5_ := Aside0.mk (Kd.R_lower (Kd.R_new' (Kd.R_new' (Kd.R_new' ho0 (Kd.R_lt (rs HO907))) (Kd.R_lt (rs HO910))) (Kd.R_lt (rs HO920))) (below_size (bl HB))); have n6_ := Aside0.mk (Kd.R_lower (Kd.R_new' ho1 (Kd.R_lt (rs HO913))) (below_size (bl HB))); have n7_ := Aside0.mk (Kd.R_lower (Kd.R_new' ho2 (Kd.R_lt (rs HO916))) (below_size (bl HB))); have n8_ := bkB BK917 hb; have n9_ := Aside0.mk (below_step (bl HB) hb); clear HO907; clear HO910; clear HO913; clear HO916; clear HO920; clear BK917; clear HB; have HO907 := n0_; have HO910 := n1_; have HO913 := n2_; have HO916 := n3_; have HO920 := n4_; have HO923 := n5_; have HO926 := n6_; have HO929 := n7_; have BK917 := n8_; have HB := n9_; clear n0_ n1_ n2_ n3_ n4_ n5_ n6_ n7_ n8_ n9_; (try clear hb); (try clear hb2); (try clear hk); (try clear hi); (try clear ho0); (try clear ho1); (try clear ho2)) | ((with_reducible refine gate_dst (N := 6) rfl ?_); refine box_event ?hg (N := 6) ?hd (cs := #[.slice none 0 0, .slice none 0 0, .slice none 0 0]) (t := 66) ?hr ?_; (case hd => rfl); (case hg => rfl); (case hr => first | (go_simp; done) | (go_simp; rfl)); intro gb930 hg w26 hbox hb; have n0_ := Aside0.mk (Kd.R_below (rs HO907) hb); have n1_ := Aside0.mk (Kd.R_below (rs HO910) hb); have n2_ := Aside0.mk (Kd.R_below (rs HO913) hb); have n3_ := Aside0.mk (Kd.R_below (rs HO916) hb); have n4_ := Aside0.mk (Kd.R_below (rs HO920) hb); have n5_ := Aside0.mk (Kd.R_below (rs HO923) hb); have n6_ := Aside0.mk (Kd.R_below (rs HO926) hb); have n7_ := Aside0.mk (Kd.R_below (rs HO929) hb); have n8_ := bkB BK917 hb; have n9_ := Aside0.mk (below_step (bl HB) hb); have n10_ := Aside0.mk (hbox); have n11_ := Aside0.mk ((by rw [hg]; exact (below_size (bl HB)) : w.heap.size ≤ gb930)); have n12_ := Aside0.mk ((by rw [hg]; exact (below_size (bl HB)) : w.heap.size ≤ gb930)); have n13_ := Aside0.mk ((by rw [hg]; exact Nat.ne_of_lt (bkL BK917) : gb917 ≠ gb930)); have n14_ := Aside0.mk ((by rw [hg]; exact Nat.ne_of_gt (bkL BK917) : gb930 ≠ gb917)); clear HO907; clear HO910; clear HO913; clear HO916; clear HO920; clear HO923; clear HO926; clear HO929; clear BK917; clear HB; have HO907 := n0_; have HO910 := n1_; have HO913 := n2_; have HO916 := n3_; have HO920 := n4_; have HO923 := n5_; have HO926 := n6_; have HO929 := n7_; have BK917 := n8_; have HB := n9_; have BK930 := n10_; have GW930 := n11_; have GE930 := n12_; have NB917_930 := n13_; have NB930_917 := n14_; clear n0_ n1_ n2_ n3_ n4_ n5_ n6_ n7_ n8_ n9_ n10_ n11_ n12_ n13_ n14_; clear hb hbox hg; obtain ⟨Ao27, co27, eo27⟩ := Kd.R_slice HO923.out; subst eo27; have hnb28 := NB930_917.out; have hnc28 := NB917_930.out; have hcz29_0 : w26.cell? ⟨gb930, 0, none⟩ = some (.slice none 0 0) := (blk_cell BK930.out 0).trans rfl; have hcz29_1 : w26.cell? ⟨gb930, 1, none⟩ = some (.slice none 0 0) := (blk_cell BK930.out 1).trans rfl; have hcz29_2 : w26.cell? ⟨gb930, 2, none⟩ = some (.slice none 0 0) := (blk_cell BK930.out 2).trans rfl; have hfz29_0 := blk_frozen BK930.out 0; have hfz29_1 := blk_frozen BK930.out 1; have hfz29_2 := blk_frozen BK930.out 2; obtain ⟨Ao30, co30, eo30⟩ := Kd.R_slice HO926.out; subst eo30; obtain ⟨Ao31, co31, eo31⟩ := Kd.R_slice HO929.out; subst eo31; have hcz32_0 : w26.cell? ⟨gb917, 0, none⟩ = some (.slice Ao19 t908.length co19) := (blk_cell BK917.out 0).trans rfl; have hcz32_1 : w26.cell? ⟨gb917, 1, none⟩ = some (.slice Ao21 t911.length co21) := (blk_cell BK917.out 1).trans rfl; have hcz32_2 : w26.cell? ⟨gb917, 2, none⟩ = some (.slice Ao22 t914.length co22) := (blk_cell BK917.out 2).trans rfl; have hfz32_0 := blk_frozen BK917.out 0; have hfz32_1 := blk_frozen BK917.out 1; have hfz32_2 := blk_frozen BK917.out 2) | ((with_reducible refine gate_callee (f := 40) rfl ?_); refine goesL_ (some 25) rfl rfl Try.func40 (by kernel_rfl) rfl #[.agg #[.slice Ao27 t921.length co27, .slice Ao30 t924.length co30, .slice Ao31 t927.length co31], .agg #[.slice Ao19 t908.length co19, .slice Ao21 t911.length co21, .slice Ao22 t914.length co22]] rfl (by (try simp only [List.map_toArray, List.map_cons, List.map_nil]); first | done | rfl | (simp only [List.length_drop, List.length_take]; rfl)) ?_; (with_reducible refine (laws_eqBoxBox.calls k _ _ t921 _ _ t924 _ _ t927 _ _ t908 _ _ t911 _ _ t914 true _ ?side1 ?side2 ?side3 ?side4 ?side5 ?side6 ?side7 ?side8 ?side9 ?side10 ?side11 ?side12 A8.out).mono ?_); (case side1 => refine (Kd.R_reads' (e := 24) (base := w.heap.size) (ok := fun k_ => (((True ∧ some k_ ≠ (.slice Ao16 t905.length co16 : Value).ownBlock) ∧ some k_ ≠ (.slice Ao19 t908.length co19 : Value).ownBlock) ∧ some k_ ≠ (.slice Ao24 t918.length co24 : Value).ownBlock)) (n := t921.length) (c := co27) ?_).2.2; exact (by (with_reducible repeat apply ru); exact (Kd.R_mono (Kd.R_far (p := ⟨gb930, 2, none⟩) (Kd.R_far (p := ⟨gb930, 1, none⟩) (Kd.R_far (p := ⟨gb930, 0, none⟩) (Kd.R_types HO923.out BK930.out (by decide)) (fun _ hk => hk.2) (.slice Ao27 t921.length co27)) (fun _ hk => hk.2) (.slice Ao30 t924.length co30)) (fun _ hk => hk.2) (.slice Ao31 t927.length co31)) (fun _ h_ => h_.1)))); (case side2 => exact (Kd.R_reads' HO923.out).2.1); (case side3 => refine (Kd.R_reads' (e := 29) (base := w.heap.size) (ok := fun k_ => (True ∧ some k_ ≠ (.slice Ao21 t911.length co21 : Value).ownBlock)) (n := t924.length) (c := co30) ?_).2.2; exact (by (with_reducible repeat apply ru); exact (Kd.R_mono (Kd.R_far (p := ⟨gb930, 2, none⟩) (Kd.R_far (p := ⟨gb930, 1, none⟩) (Kd.R_far (p := ⟨gb930, 0, none⟩) (Kd.R_types HO926.out BK930.out (by decide)) (fun _ hk => hk.2) (.slice Ao27 t921.length co27)) (fun _ hk => hk.2) (.slice Ao30 t924.length co30)) (fun _ hk => hk.2) (.slice Ao31 t927.length co31)) (fun _ h_ => h_.1)))); (case side4 => exact (Kd.R_reads' HO926.out).2.1); (case side5 => refine (Kd.R_reads' (e := 119) (base := w.heap.size) (ok := fun k_ => (True ∧ some k_ ≠ (.slice Ao22 t914.length co22 : Value).ownBlock)) (n := t927.length) (c := co31) ?_).2.2; exact (by (with_reducible repeat apply ru); exact (Kd.R_mono (Kd.R_far (p := ⟨gb930, 2, none⟩) (Kd.R_far (p := ⟨gb930, 1, none⟩) (Kd.R_far (p := ⟨gb930, 0, none⟩) (Kd.R_types HO929.out BK930.out (by decide)) (fun _ hk => hk.2) (.slice Ao27 t921.length co27)) (fun _ hk => hk.2) (.slice Ao30 t924.length co30)) (fun _ hk => hk.2) (.slice Ao31 t927.length co31)) (fun _ h_ => h_.1)))); (case side6 => exact (Kd.R_reads' HO929.out).2.1); (case side7 => refine (Kd.R_reads' (e := 24) (base := w.heap.size) (ok := fun k_ => (((True ∧ some k_ ≠ (.slice Ao16 t905.length co16 : Value).ownBlock) ∧ some k_ ≠ (.slice Ao24 t918.length co24 : Value).ownBlock) ∧ some k_ ≠ (.slice Ao27 t921.length co27 : Value).ownBlock)) (n := t908.length) (c := co19) ?_).2.2; exact (by (with_reducible repeat apply ru); exact (Kd.R_mono (Kd.R_far (p := ⟨gb930, 2, none⟩) (Kd.R_far (p := ⟨gb930, 1, none⟩) (Kd.R_far (p := ⟨gb930, 0, none⟩) (Kd.R_types HO910.out BK930.out (by decide)) (fun _ hk => hk.2) (.slice Ao27 t921.length co27)) (fun _ hk => hk.2) (.slice Ao30 t924.length co30)) (fun _ hk => hk.2) (.slice Ao31 t927.length co31)) (fun _ h_ => h_.1)))); (case side8 => exact (Kd.R_reads' HO910.out).2.1); (case side9 => refine (Kd.R_reads' (e := 29) (base := w.heap.size) (ok := fun k_ => (True ∧ some k_ ≠ (.slice Ao30 t924.length co30 : Value).ownBlock)) (n := t911.length) (c := co21) ?_).2.2; exact (by (with_reducible repeat apply ru); exact (Kd.R_mono (Kd.R_far (p := ⟨gb930, 2, none⟩) (Kd.R_far (p := ⟨gb930, 1, none⟩) (Kd.R_far (p := ⟨gb930, 0, none⟩) (Kd.R_types HO913.out BK930.out (by decide)) (fun _ hk => hk.2) (.slice Ao27 t921.length co27)) (fun _ hk => hk.2) (.slice Ao30 t924.length co30)) (fun _ hk => hk.2) (.slice Ao31 t927.length co31)) (fun _ h_ => h_.1)))); (case side10 => exact (Kd.R_reads' HO913.out).2.1); (case side11 => refine (Kd.R_reads' (e := 119) (base := w.heap.size) (ok := fun k_ => (True ∧ some k_ ≠ (.slice Ao31 t927.length co31 : Value).ownBlock)) (n := t914.length) (c := co22) ?_).2.2; exact (by (with_reducible repeat apply ru); exact (Kd.R_mono (Kd.R_far (p := ⟨gb930, 2, none⟩) (Kd.R_far (p := ⟨gb930, 1, none⟩) (Kd.R_far (p := ⟨gb930, 0, none⟩) (Kd.R_types HO916.out BK930.out (by decide)) (fun _ hk => hk.2) (.slice Ao27 t921.length co27)) (fun _ hk => hk.2) (.slice Ao30 t924.length co30)) (fun _ hk => hk.2) (.slice Ao31 t927.length co31)) (fun _ h_ => h_.1)))); (case side12 => exact (Kd.R_reads' HO916.out).2.1); rintro e w33 ⟨rfl, hb⟩; refine ⟨_, rfl, ?_⟩; have n0_ := Aside0.mk (Kd.R_below (by (with_reducible repeat apply ru); exact (Kd.R_mono (Kd.R_far (p := ⟨gb930, 2, none⟩) (Kd.R_far (p := ⟨gb930, 1, none⟩) (Kd.R_far (p := ⟨gb930, 0, none⟩) (Kd.R_types HO907.out BK930.out (by decide)) (fun _ hk => hk.2) (.slice Ao27 t921.length co27)) (fun _ hk => hk.2) (.slice Ao30 t924.length co30)) (fun _ hk => hk.2) (.slice Ao31 t927.length co31)) (fun _ h_ => h_.1))) hb); have n1_ := Aside0.mk (Kd.R_below (by (with_reducible repeat apply ru); exact (Kd.R_mono (Kd.R_far (p := ⟨gb930, 2, none⟩) (Kd.R_far (p := ⟨gb930, 1, none⟩) (Kd.R_far (p := ⟨gb930, 0, none⟩) (Kd.R_types HO910.out BK930.out (by decide)) (fun _ hk => hk.2) (.slice Ao27 t921.length co27)) (fun _ hk => hk.2) (.slice Ao30 t924.length co30)) (fun _ hk => hk.2) (.slice Ao31 t927.length co31)) (fun _ h_ => h_.1))) hb); have n2_ := Aside0.mk (Kd.R_below (by (with_reducible repeat apply ru); exact (Kd.R_mono (Kd.R_far (p := ⟨gb930, 2, none⟩) (Kd.R_far (p := ⟨gb930, 1, none⟩) (Kd.R_far (p := ⟨gb930, 0, none⟩) (Kd.R_types HO913.out BK930.out (by decide)) (fun _ hk => hk.2) (.slice Ao27 t921.length co27)) (fun _ hk => hk.2) (.slice Ao30 t924.length co30)) (fun _ hk => hk.2) (.slice Ao31 t927.length co31)) (fun _ h_ => h_.1))) hb); have n3_ := Aside0.mk (Kd.R_below (by (with_reducible repeat apply ru); exact (Kd.R_mono (Kd.R_far (p := ⟨gb930, 2, none⟩) (Kd.R_far (p := ⟨gb930, 1, none⟩) (Kd.R_far (p := ⟨gb930, 0, none⟩) (Kd.R_types HO916.out BK930.out (by decide)) (fun _ hk => hk.2) (.slice Ao27 t921.length co27)) (fun _ hk => hk.2) (.slice Ao30 t924.length co30)) (fun _ hk => hk.2) (.slice Ao31 t927.length co31)) (fun _ h_ => h_.1))) hb); have n4_ := Aside0.mk (Kd.R_below (by (with_reducible repeat apply ru); exact (Kd.R_mono (Kd.R_far (p := ⟨gb930, 2, none⟩) (Kd.R_far (p := ⟨gb930, 1, none⟩) (Kd.R_far (p := ⟨gb930, 0, none⟩) (Kd.R_types HO920.out BK930.out (by decide)) (fun _ hk => hk.2) (.slice Ao27 t921.length co27)) (fun _ hk => hk.2) (.slice Ao30 t924.length co30)) (fun _ hk => hk.2) (.slice Ao31 t927.length co31)) (fun _ h_ => h_.1))) hb); have n5_ := Aside0.mk (Kd.R_below (by (with_reducible repeat apply ru); exact (Kd.R_mono (Kd.R_far (p := ⟨gb930, 2, none⟩) (Kd.R_far (p := ⟨gb930, 1, none⟩) (Kd.R_far (p := ⟨gb930, 0, none⟩) (Kd.R_types HO923.out BK930.out (by decide)) (fun _ hk => hk.2) (.slice Ao27 t921.length co27)) (fun _ hk => hk.2) (.slice Ao30 t924.length co30)) (fun _ hk => hk.2) (.slice Ao31 t927.length co31)) (fun _ h_ => h_.1))) hb); have n6_ := Aside0.mk (Kd.R_below (by (with_reducible repeat apply ru); exact (Kd.R_mono (Kd.R_far (p := ⟨gb930, 2, none⟩) (Kd.R_far (p := ⟨gb930, 1, none⟩) (Kd.R_far (p := ⟨gb930, 0, none⟩) (Kd.R_types HO926.out BK930.out (by decide)) (fun _ hk => hk.2) (.slice Ao27 t921.length co27)) (fun _ hk => hk.2) (.slice Ao30 t924.length co30)) (fun _ hk => hk.2) (.slice Ao31 t927.length co31)) (fun _ h_ => h_.1))) hb); have n7_ := Aside0.mk (Kd.R_below (by (with_reducible repeat apply ru); exact (Kd.R_mono (Kd.R_far (p := ⟨gb930, 2, none⟩) (Kd.R_far (p := ⟨gb930, 1, none⟩) (Kd.R_far (p := ⟨gb930, 0, none⟩) (Kd.R_types HO929.out BK930.out (by decide)) (fun _ hk => hk.2) (.slice Ao27 t921.length co27)) (fun _ hk => hk.2) (.slice Ao30 t924.length co30)) (fun _ hk => hk.2) (.slice Ao31 t927.length co31)) (fun _ h_ => h_.1))) hb); have n8_ := Aside0.mk (blk_below (g := gb917) (o := .cells #[.slice Ao19 t908.length co19, .slice Ao21 t911.length co21, .slice Ao22 t914.length co22] 66 (0, 0)) (by (with_reducible repeat refine bu ?_); refine blk_far ?_ NB917_930.out _; (with_reducible repeat refine bu ?_); refine blk_far ?_ NB917_930.out _; (with_reducible repeat refine bu ?_); refine blk_far ?_ NB917_930.out _; (with_reducible repeat refine bu ?_); exact BK917.out) hb); have n9_ := Aside0.mk (blk_below (g := gb930) (o := .cells #[.slice Ao27 t921.length co27, .slice Ao30 t924.length co30, .slice Ao31 t927.length co31] 66 (0, 0)) (by (with_reducible repeat refine bu ?_); refine blk_put (cs := #[.slice Ao27 t921.length co27, .slice Ao30 t924.length co30, .slice none 0 0]) ?_ 2 _ rfl; (with_reducible repeat refine bu ?_); refine blk_put (cs := #[.slice Ao27 t921.length co27, .slice none 0 0, .slice none 0 0]) ?_ 1 _ rfl; (with_reducible repeat refine bu ?_); refine blk_put (cs := #[.slice none 0 0, .slice none 0 0, .slice none 0 0]) ?_ 0 _ rfl; (with_reducible repeat refine bu ?_); exact BK930.out) hb); have n10_ := Aside0.mk (below_step (bl HB) hb); clear HO907; clear HO910; clear HO913; clear HO916; clear HO920; clear HO923; clear HO926; clear HO929; clear BK917; clear BK930; clear HB; have HO907 := n0_; have HO910 := n1_; have HO913 := n2_; have HO916 := n3_; have HO920 := n4_; have HO923 := n5_; have HO926 := n6_; have HO929 := n7_; have BK917 := n8_; have BK930 := n9_; have HB := n10_; clear n0_ n1_ n2_ n3_ n4_ n5_ n6_ n7_ n8_ n9_ n10_; (try clear hb); (try clear hb2); (try clear hk); (try clear hi)) | ((with_reducible refine gate_callee (f := 18) rfl ?_); refine goesL_ (some 29) rfl rfl Try.func18 (by kernel_rfl) rfl #[.slice A0 l0.length c0] rfl (by (try simp only [List.map_toArray, List.map_cons, List.map_nil]); first | done | rfl | (simp only [List.length_drop, List.length_take]; rfl)) ?_; (with_reducible refine (laws_toRulRuleS.calls k _ _ l0 t932 _ ?side1 ?side2 A10.out).mono ?_); (case side1 => repeat (first | exact (Kd.C_below HR0.out HB.out) | (with_reducible refine Kd.C_alloc ?_ _) | (with_reducible refine Kd.C_drewN ?_ _) | (with_reducible refine Kd.C_drew ?_))); (case side2 => exact HC0.out); rintro e w34 ⟨v933, rfl, ho0, hb⟩; refine ⟨_, rfl, ?_⟩; have n0_ := Aside0.mk (Kd.R_elder' (rs HO907) (Kd.R_base ho0) hb); have n1_ := Aside0.mk (Kd.R_elder' (rs HO910) (Kd.R_base ho0) hb); have n2_ := Aside0.mk (Kd.R_below (rs HO913) hb); have n3_ := Aside0.mk (Kd.R_below (rs HO916) hb); have n4_ := Aside0.mk (Kd.R_elder' (rs HO920) (Kd.R_base ho0) hb); have n5_ := Aside0.mk (Kd.R_elder' (rs HO923) (Kd.R_base ho0) hb); have n6_ := Aside0.mk (Kd.R_below (rs HO926) hb); have n7_ := Aside0.mk (Kd.R_below (rs HO929) hb); have n8_ := Aside0.mk (Kd.R_lower (Kd.R_new' (Kd.R_new' (Kd.R_new' (Kd.R_new' ho0 (Kd.R_lt (rs HO907))) (Kd.R_lt (rs HO910))) (Kd.R_lt (rs HO920))) (Kd.R_lt (rs HO923))) (below_size (bl HB))); have n9_ := bkB BK917 hb; have n10_ := bkB BK930 hb; have n11_ := Aside0.mk (below_step (bl HB) hb); clear HO907; clear HO910; clear HO913; clear HO916; clear HO920; clear HO923; clear HO926; clear HO929; clear BK917; clear BK930; clear HB; have HO907 := n0_; have HO910 := n1_; have HO913 := n2_; have HO916 := n3_; have HO920 := n4_; have HO923 := n5_; have HO926 := n6_; have HO929 := n7_; have HO934 := n8_; have BK917 := n9_; have BK930 := n10_; have HB := n11_; clear n0_ n1_ n2_ n3_ n4_ n5_ n6_ n7_ n8_ n9_ n10_ n11_; (try clear hb); (try clear hb2); (try clear hk); (try clear hi); (try clear ho0); obtain ⟨Ao35, co35, eo35⟩ := Kd.R_slice HO934.out; subst eo35) | ((with_reducible refine gate_callee (f := 20) rfl ?_); refine goesL_ (some 30) rfl rfl Try.func20 (by kernel_rfl) rfl #[.slice Ao24 t918.length co24, .slice Ao35 t932.length co35] rfl (by (try simp only [List.map_toArray, List.map_cons, List.map_nil]); first | done | rfl | (simp only [List.length_drop, List.length_take]; rfl)) ?_; (with_reducible refine (laws_eqRulRuleS.calls k _ _ t918 _ _ t932 true _ ?side1 ?side2 ?side3 ?side4 A11.out).mono ?_); (case side1 => repeat (first | exact (Kd.R_reads' HO920.out).2.2 | (with_reducible refine Kd.C_alloc ?_ _) | (with_reducible refine Kd.C_drewN ?_ _) | (with_reducible refine Kd.C_drew ?_))); (case side2 => exact (Kd.R_reads' HO920.out).2.1); (case side3 => repeat (first | exact (Kd.R_reads' HO934.out).2.2 | (with_reducible refine Kd.C_alloc ?_ _) | (with_reducible refine Kd.C_drewN ?_ _) | (with_reducible refine Kd.C_drew ?_))); (case side4 => exact (Kd.R_reads' HO934.out).2.1); rintro e w36 ⟨rfl, hb⟩; refine ⟨_, rfl, ?_⟩; have n0_ := Aside0.mk (Kd.R_below (rs HO907) hb); have n1_ := Aside0.mk (Kd.R_below (rs HO910) hb); have n2_ := Aside0.mk (Kd.R_below (rs HO913) hb); have n3_ := Aside0.mk (Kd.R_below (rs HO916) hb); have n4_ := Aside0.mk (Kd.R_below (rs HO920) hb); have n5_ := Aside0.mk (Kd.R_below (rs HO923) hb); have n6_ := Aside0.mk (Kd.R_below (rs HO926) hb); have n7_ := Aside0.mk (Kd.R_below (rs HO929) hb); have n8_ := Aside0.mk (Kd.R_below (rs HO934) hb); have n9_ := bkB BK917 hb; have n10_ := bkB BK930 hb; have n11_ := Aside0.mk (below_step (bl HB) hb); clear HO907; clear HO910; clear HO913; clear HO916; clear HO920; clear HO923; clear HO926; clear HO929; clear HO934; clear BK917; clear BK930; clear HB; have HO907 := n0_; have HO910 := n1_; have HO913 := n2_; have HO916 := n3_; have HO920 := n4_; have HO923 := n5_; have HO926 := n6_; have HO929 := n7_; have HO934 := n8_; have BK917 := n9_; have BK930 := n10_; have HB := n11_; clear n0_ n1_ n2_ n3_ n4_ n5_ n6_ n7_ n8_ n9_ n10_ n11_; (try clear hb); (try clear hb2); (try clear hk); (try clear hi)) | ((with_reducible refine gate_callee (f := 41) rfl ?_); refine goesL_ (some 34) rfl rfl Try.func41 (by kernel_rfl) rfl #[.slice Ao24 t918.length co24, .int .i64 1] rfl (by (try simp only [List.map_toArray, List.map_cons, List.map_nil]); first | done | rfl | (simp only [List.length_drop, List.length_take]; rfl)) ?_; (with_reducible refine (laws_markRulRuleS.calls k (fun k_ => some k_ = (.slice Ao24 t918.length co24 : Value).ownBlock) (.slice Ao24 t918.length co24) t918 1 t936 t937 w _ ?side1 ?side2 A13.out).mono ?_); (case side1 => repeat (first | (with_reducible first | exact HB.out | apply below_alloc | apply pw_below_drewN | apply below_drew1 | refine below_set ?_ GE917.out | refine below_set ?_ GE930.out) | exact HB.out)); (case side2 => exact Kd.R_tight rfl HO920.out); rintro e w37 ⟨rfl, hy0, hb, hkp⟩; refine ⟨_, rfl, ?_⟩; have n0_ := Aside0.mk (Kd.R_mono (ok' := fun k_ => some k_ ≠ (.slice Ao19 t908.length co19 : Value).ownBlock ∧ some k_ ≠ (.slice Ao24 t918.length co24 : Value).ownBlock ∧ some k_ ≠ (.slice Ao27 t921.length co27 : Value).ownBlock ∧ some k_ ≠ (.slice Ao35 t932.length co35 : Value).ownBlock) (Kd.R_keptB (HO907.out) hkp (fun k_ hk_ hs_ => (hk_.1.1.2) hs_)) (fun k_ hk_ => ⟨hk_.1.1.1.1.2, hk_.1.1.1.2, hk_.1.1.2, hk_.1.2⟩)); have n1_ := Aside0.mk (Kd.R_mono (ok' := fun k_ => some k_ ≠ (.slice Ao16 t905.length co16 : Value).ownBlock ∧ some k_ ≠ (.slice Ao24 t918.length co24 : Value).ownBlock ∧ some k_ ≠ (.slice Ao27 t921.length co27 : Value).ownBlock ∧ some k_ ≠ (.slice Ao35 t932.length co35 : Value).ownBlock) (Kd.R_keptB (HO910.out) hkp (fun k_ hk_ hs_ => (hk_.1.1.2) hs_)) (fun k_ hk_ => ⟨hk_.1.1.1.1.2, hk_.1.1.1.2, hk_.1.1.2, hk_.1.2⟩)); have n2_ := Aside0.mk (Kd.R_mono (ok' := fun k_ => some k_ ≠ (.slice Ao30 t924.length co30 : Value).ownBlock) (Kd.R_keptB ((Kd.R_apart' HO913.out (Kd.R_typed HO920.out) (by decide))) hkp (fun k_ hk_ hs_ => (hk_.2) hs_)) (fun k_ hk_ => hk_.1.1.2)); have n3_ := Aside0.mk (Kd.R_mono (ok' := fun k_ => some k_ ≠ (.slice Ao31 t927.length co31 : Value).ownBlock) (Kd.R_keptB ((Kd.R_apart' HO916.out (Kd.R_typed HO920.out) (by decide))) hkp (fun k_ hk_ hs_ => (hk_.2) hs_)) (fun k_ hk_ => hk_.1.1.2)); have n4_ := Aside0.mk (blk_kept (bk BK917) hkp (fun hs_ => (fun e_ => (Kd.R_ne HO920.out BK917.out (by decide)) e_) hs_)); have n5_ := Aside0.mk (Kd.R_reok rfl hy0 (fun k_ e_ => HO920.out.1 k_ e_)); have n6_ := Aside0.mk (Kd.R_mono (ok' := fun k_ => some k_ ≠ (.slice Ao16 t905.length co16 : Value).ownBlock ∧ some k_ ≠ (.slice Ao19 t908.length co19 : Value).ownBlock ∧ some k_ ≠ (.slice Ao24 t918.length co24 : Value).ownBlock ∧ some k_ ≠ (.slice Ao35 t932.length co35 : Value).ownBlock) (Kd.R_keptB (HO923.out) hkp (fun k_ hk_ hs_ => (hk_.1.2) hs_)) (fun k_ hk_ => ⟨hk_.1.1.1.1.2, hk_.1.1.1.2, hk_.1.1.2, hk_.1.2⟩)); have n7_ := Aside0.mk (Kd.R_mono (ok' := fun k_ => some k_ ≠ (.slice Ao21 t911.length co21 : Value).ownBlock) (Kd.R_keptB ((Kd.R_apart' HO926.out (Kd.R_typed HO920.out) (by decide))) hkp (fun k_ hk_ hs_ => (hk_.2) hs_)) (fun k_ hk_ => hk_.1.1.2)); have n8_ := Aside0.mk (Kd.R_mono (ok' := fun k_ => some k_ ≠ (.slice Ao22 t914.length co22 : Value).ownBlock) (Kd.R_keptB ((Kd.R_apart' HO929.out (Kd.R_typed HO920.out) (by decide))) hkp (fun k_ hk_ hs_ => (hk_.2) hs_)) (fun k_ hk_ => hk_.1.1.2)); have n9_ := Aside0.mk (blk_kept (bk BK930) hkp (fun hs_ => (fun e_ => (Kd.R_ne HO920.out BK930.out (by decide)) e_) hs_)); have n10_ := Aside0.mk (Kd.R_mono (ok' := fun k_ => some k_ ≠ (.slice Ao16 t905.length co16 : Value).ownBlock ∧ some k_ ≠ (.slice Ao19 t908.length co19 : Value).ownBlock ∧ some k_ ≠ (.slice Ao24 t918.length co24 : Value).ownBlock ∧ some k_ ≠ (.slice Ao27 t921.length co27 : Value).ownBlock) (Kd.R_keptB (HO934.out) hkp (fun k_ hk_ hs_ => (hk_.1.2) hs_)) (fun k_ hk_ => ⟨hk_.1.1.1.1.2, hk_.1.1.1.2, hk_.1.1.2, hk_.1.2⟩)); have n11_ := Aside0.mk (hb); clear HO907; clear HO910; clear HO913; clear HO916; clear BK917; clear HO920; clear HO923; clear HO926; clear HO929; clear BK930; clear HO934; clear HB; have HO907 := n0_; have HO910 := n1_; have HO913 := n2_; have HO916 := n3_; have BK917 := n4_; have HO920 := n5_; have HO923 := n6_; have HO926 := n7_; have HO929 := n8_; have BK930 := n9_; have HO934 := n10_; have HB := n11_; clear n0_ n1_ n2_ n3_ n4_ n5_ n6_ n7_ n8_ n9_ n10_ n11_; (try clear hb); (try clear hkp); (try clear hy0)))
        (try simp only [Act.put, List.setIfInBounds_toArray, List.set_cons_zero, List.set_cons_succ])
        go_cut [42] (fun v42 wc => ∃ (kq : Nat) (x42_13 : Bool), v42 = .bool x42_13 ∧ Aside0 (laws_FnExactBoxNew.j0 kq l0 x42_13 t908 t911 t914 t921 t924 t927 = some r) ∧ Aside0 (kq ≤ k) ∧ Aside0 (Kd.R k24 24 wc w.heap.size (fun k_ => some k_ ≠ ((.slice Ao27 t921.length co27) : Value).ownBlock) (.slice Ao19 t908.length co19) t908) ∧ Aside0 (Kd.R k29 29 wc w.heap.size (fun k_ => some k_ ≠ ((.slice Ao30 t924.length co30) : Value).ownBlock) (.slice Ao21 t911.length co21) t911) ∧ Aside0 (Kd.R k119 119 wc w.heap.size (fun k_ => some k_ ≠ ((.slice Ao31 t927.length co31) : Value).ownBlock) (.slice Ao22 t914.length co22) t914) ∧ Aside0 (Kd.R k24 24 wc w.heap.size (fun k_ => some k_ ≠ ((.slice Ao19 t908.length co19) : Value).ownBlock) (.slice Ao27 t921.length co27) t921) ∧ Aside0 (Kd.R k29 29 wc w.heap.size (fun k_ => some k_ ≠ ((.slice Ao21 t911.length co21) : Value).ownBlock) (.slice Ao30 t924.length co30) t924) ∧ Aside0 (Kd.R k119 119 wc w.heap.size (fun k_ => some k_ ≠ ((.slice Ao22 t914.length co22) : Value).ownBlock) (.slice Ao31 t927.length co31) t927) ∧ Aside0 (wc.heap[gb917]? = some (.cells #[(.slice Ao19 t908.length co19), (.slice Ao21 t911.length co21), (.slice Ao22 t914.length co22)] 66 (0, 0))) ∧ Aside0 (wc.heap[gb930]? = some (.cells #[(.slice Ao27 t921.length co27), (.slice Ao30 t924.length co30), (.slice Ao31 t927.length co31)] 66 (0, 0))) ∧ Aside0 (Below w.heap.size w wc))
        case first =>
          have H := HC14.out
          clear HC14
          by_cases c38 : t936 < 0
          · rw [if_pos c38] at H
            have c38b0 : decide (t936 < 0) = true := decide_eq_true c38
            clear c38
            (first | rw [c38b0] | (simp only [i64_w, i32_w]; rw [c38b0]) | skip)
            have H' := Aside0.mk H
            clear H
            go_wp2
            go_meet
            case rel => exact ⟨_, (true), (by first | rfl | (simp; done) | (simp [*]; done)), H', ⟨by first | omega | exact Nat.le_refl _⟩, ⟨by (with_reducible repeat apply ru); exact Kd.R_mono HO910.out (fun _ hk => hk.2.2.1)⟩, ⟨by (with_reducible repeat apply ru); exact HO913.out⟩, ⟨by (with_reducible repeat apply ru); exact HO916.out⟩, ⟨by (with_reducible repeat apply ru); exact Kd.R_mono HO923.out (fun _ hk => hk.2.1)⟩, ⟨by (with_reducible repeat apply ru); exact HO926.out⟩, ⟨by (with_reducible repeat apply ru); exact HO929.out⟩, ⟨by (with_reducible repeat refine bu ?_); exact BK917.out⟩, ⟨by (with_reducible repeat refine bu ?_); exact BK930.out⟩, ⟨by repeat (first | (with_reducible first | exact HB.out | apply below_alloc | apply pw_below_drewN | apply below_drew1 | refine below_set ?_ GE917.out | refine below_set ?_ GE930.out) | exact HB.out)⟩⟩
          · rw [if_neg c38] at H
            have c38b0 : decide (t936 < 0) = false := decide_eq_false c38
            clear c38
            (first | rw [c38b0] | (simp only [i64_w, i32_w]; rw [c38b0]) | skip)
            replace H := Option.bind_eq_some_iff.mp H
            obtain ⟨t938, A390, H⟩ := H
            replace H : (laws_FnExactBoxNew.j0 k l0 (!t938) t908 t911 t914 t921 t924 t927) = some r := H
            have A39 := Aside0.mk A390
            clear A390
            have H' := Aside0.mk H
            clear H
            have hnb40 := NB930_917.out
            have hnc40 := NB917_930.out
            have hcz41_0 : w37.cell? ⟨gb930, 0, none⟩ = some (.slice Ao27 t921.length co27) := (blk_cell BK930.out 0).trans rfl
            have hcz41_1 : w37.cell? ⟨gb930, 1, none⟩ = some (.slice Ao30 t924.length co30) := (blk_cell BK930.out 1).trans rfl
            have hcz41_2 : w37.cell? ⟨gb930, 2, none⟩ = some (.slice Ao31 t927.length co31) := (blk_cell BK930.out 2).trans rfl
            have hfz41_0 := blk_frozen BK930.out 0
            have hfz41_1 := blk_frozen BK930.out 1
            have hfz41_2 := blk_frozen BK930.out 2
            have hcz42_0 : w37.cell? ⟨gb917, 0, none⟩ = some (.slice Ao19 t908.length co19) := (blk_cell BK917.out 0).trans rfl
            have hcz42_1 : w37.cell? ⟨gb917, 1, none⟩ = some (.slice Ao21 t911.length co21) := (blk_cell BK917.out 1).trans rfl
            have hcz42_2 : w37.cell? ⟨gb917, 2, none⟩ = some (.slice Ao22 t914.length co22) := (blk_cell BK917.out 2).trans rfl
            have hfz42_0 := blk_frozen BK917.out 0
            have hfz42_1 := blk_frozen BK917.out 1
            have hfz42_2 := blk_frozen BK917.out 2
            go_wp2_with (first | (go_at_call 40; (with_reducible refine (laws_eqBoxBox.calls k _ _ t921 _ _ t924 _ _ t927 _ _ t908 _ _ t911 _ _ t914 t938 _ ?side1 ?side2 ?side3 ?side4 ?side5 ?side6 ?side7 ?side8 ?side9 ?side10 ?side11 ?side12 A39.out).mono ?_); (case side1 => repeat (first | exact (Kd.R_reads' HO923.out).2.2 | (with_reducible refine Kd.C_alloc ?_ _) | (with_reducible refine Kd.C_drewN ?_ _) | (with_reducible refine Kd.C_drew ?_))); (case side2 => exact (Kd.R_reads' HO923.out).2.1); (case side3 => repeat (first | exact (Kd.R_reads' HO926.out).2.2 | (with_reducible refine Kd.C_alloc ?_ _) | (with_reducible refine Kd.C_drewN ?_ _) | (with_reducible refine Kd.C_drew ?_))); (case side4 => exact (Kd.R_reads' HO926.out).2.1); (case side5 => repeat (first | exact (Kd.R_reads' HO929.out).2.2 | (with_reducible refine Kd.C_alloc ?_ _) | (with_reducible refine Kd.C_drewN ?_ _) | (with_reducible refine Kd.C_drew ?_))); (case side6 => exact (Kd.R_reads' HO929.out).2.1); (case side7 => repeat (first | exact (Kd.R_reads' HO910.out).2.2 | (with_reducible refine Kd.C_alloc ?_ _) | (with_reducible refine Kd.C_drewN ?_ _) | (with_reducible refine Kd.C_drew ?_))); (case side8 => exact (Kd.R_reads' HO910.out).2.1); (case side9 => repeat (first | exact (Kd.R_reads' HO913.out).2.2 | (with_reducible refine Kd.C_alloc ?_ _) | (with_reducible refine Kd.C_drewN ?_ _) | (with_reducible refine Kd.C_drew ?_))); (case side10 => exact (Kd.R_reads' HO913.out).2.1); (case side11 => repeat (first | exact (Kd.R_reads' HO916.out).2.2 | (with_reducible refine Kd.C_alloc ?_ _) | (with_reducible refine Kd.C_drewN ?_ _) | (with_reducible refine Kd.C_drew ?_))); (case side12 => exact (Kd.R_reads' HO916.out).2.1); rintro e w43 ⟨rfl, hb⟩; have n0_ := Aside0.mk (Kd.R_below (rs HO907) hb); have n1_ := Aside0.mk (Kd.R_below (rs HO910) hb); have n2_ := Aside0.mk (Kd.R_below (rs HO913) hb); have n3_ := Aside0.mk (Kd.R_below (rs HO916) hb); have n4_ := Aside0.mk (Kd.R_below (rs HO920) hb); have n5_ := Aside0.mk (Kd.R_below (rs HO923) hb); have n6_ := Aside0.mk (Kd.R_below (rs HO926) hb); have n7_ := Aside0.mk (Kd.R_below (rs HO929) hb); have n8_ := Aside0.mk (Kd.R_below (rs HO934) hb); have n9_ := bkB BK917 hb; have n10_ := bkB BK930 hb; have n11_ := Aside0.mk (below_step (bl HB) hb); clear HO907; clear HO910; clear HO913; clear HO916; clear HO920; clear HO923; clear HO926; clear HO929; clear HO934; clear BK917; clear BK930; clear HB; have HO907 := n0_; have HO910 := n1_; have HO913 := n2_; have HO916 := n3_; have HO920 := n4_; have HO923 := n5_; have HO926 := n6_; have HO929 := n7_; have HO934 := n8_; have BK917 := n9_; have BK930 := n10_; have HB := n11_; clear n0_ n1_ n2_ n3_ n4_ n5_ n6_ n7_ n8_ n9_ n10_ n11_; (try clear hb); (try clear hb2); (try clear hk); (try clear hi)))
            go_meet
            case rel => exact ⟨_, (!t938), (by first | rfl | (simp; done) | (simp [*]; done)), H', ⟨by first | omega | exact Nat.le_refl _⟩, ⟨by (with_reducible repeat apply ru); exact Kd.R_mono HO910.out (fun _ hk => hk.2.2.1)⟩, ⟨by (with_reducible repeat apply ru); exact HO913.out⟩, ⟨by (with_reducible repeat apply ru); exact HO916.out⟩, ⟨by (with_reducible repeat apply ru); exact Kd.R_mono HO923.out (fun _ hk => hk.2.1)⟩, ⟨by (with_reducible repeat apply ru); exact HO926.out⟩, ⟨by (with_reducible repeat apply ru); exact HO929.out⟩, ⟨by (with_reducible repeat refine bu ?_); exact BK917.out⟩, ⟨by (with_reducible repeat refine bu ?_); exact BK930.out⟩, ⟨by repeat (first | (with_reducible first | exact HB.out | apply below_alloc | apply pw_below_drewN | apply below_drew1 | refine below_set ?_ GE917.out | refine below_set ?_ GE930.out) | exact HB.out)⟩⟩
        case rest =>
          clear HC14
          try clear c1
          try clear c2
          try clear p2
          try clear c3
          try clear c3b0
          try clear c4
          try clear c9
          try clear c10
          try clear c12
          try clear c16
          try clear c18
          try clear c20
          try clear c28
          try clear c38
          try clear c38b0
          try clear c39
          try clear c40
          try clear c41
          try clear hcz20_0
          try clear hcz20_1
          try clear hcz20_2
          try clear hcz29_0
          try clear hcz29_1
          try clear hcz29_2
          try clear hcz32_0
          try clear hcz32_1
          try clear hcz32_2
          try clear hcz41_0
          try clear hcz41_1
          try clear hcz41_2
          try clear hcz42_0
          try clear hcz42_1
          try clear hcz42_2
          try clear hfz20_0
          try clear hfz20_1
          try clear hfz20_2
          try clear hfz29_0
          try clear hfz29_1
          try clear hfz29_2
          try clear hfz32_0
          try clear hfz32_1
          try clear hfz32_2
          try clear hfz41_0
          try clear hfz41_1
          try clear hfz41_2
          try clear hfz42_0
          try clear hfz42_1
          try clear hfz42_2
          obtain ⟨kq, x42_13, rfl, HA, HJ13, HO_918000, HO_918001, HO_918002, HO_931000, HO_931001, HO_931002, BK917, BK930, HB⟩ := hcut
          cases kq with
          | zero => exact absurd HA.out (by simp [laws_FnExactBoxNew.j0])
          | succ kj13 =>
            have H := HA.out
            clear HA
            simp only [laws_FnExactBoxNew.j0] at H
            by_cases c44 : x42_13 = true
            · subst c44
              have H1 : (some false) = some r := by rw [if_pos rfl] at H; exact H
              clear H
              have H := H1
              clear H1
              exact absurd ((Option.some.inj H).trans hrt.out) (by decide)
            · replace c44 := Bool.eq_false_iff.mpr c44
              subst c44
              have H1 : ((laws_markBoxBox.f kj13 t921 t924 t927 1).bind fun bt939 => ((laws_heldBoxBox.f kj13 bt939.2.1 bt939.2.2.1 bt939.2.2.2 1).bind fun t943 => (if t943 < 0 then (some false) else (if t943 = bt939.1 then ((laws_toRulRuleS.f kj13 l0).bind fun t944 => ((impl_BoxNew.f t944).bind fun bt947 => ((laws_eqBoxBox.f kj13 bt947.1 bt947.2.1 bt947.2.2 t908 t911 t914).bind fun t957 => (if t957 = true then ((laws_heldBoxBox.f kj13 bt939.2.1 bt939.2.2.1 bt939.2.2.2 1).bind fun t958 => (if t958 < 0 then (some false) else (if t958 = bt939.1 then (some true) else (some false)))) else (some false))))) else (some false))))) = some r := by rw [if_neg (show ¬ (false = true) by decide)] at H; exact H
              clear H
              have H := H1
              clear H1
              replace H := Option.bind_eq_some_iff.mp H
              obtain ⟨⟨t939, t940, t941, t942⟩, A450, H⟩ := H
              replace H : ((laws_heldBoxBox.f kj13 t940 t941 t942 1).bind fun t943 => (if t943 < 0 then (some false) else (if t943 = t939 then ((laws_toRulRuleS.f kj13 l0).bind fun t944 => ((impl_BoxNew.f t944).bind fun bt947 => ((laws_eqBoxBox.f kj13 bt947.1 bt947.2.1 bt947.2.2 t908 t911 t914).bind fun t957 => (if t957 = true then ((laws_heldBoxBox.f kj13 t940 t941 t942 1).bind fun t958 => (if t958 < 0 then (some false) else (if t958 = t939 then (some true) else (some false)))) else (some false))))) else (some false)))) = some r := H
              have A45 := Aside0.mk A450
              clear A450
              replace H := Option.bind_eq_some_iff.mp H
              obtain ⟨t943, A460, H⟩ := H
              replace H : (if t943 < 0 then (some false) else (if t943 = t939 then ((laws_toRulRuleS.f kj13 l0).bind fun t944 => ((impl_BoxNew.f t944).bind fun bt947 => ((laws_eqBoxBox.f kj13 bt947.1 bt947.2.1 bt947.2.2 t908 t911 t914).bind fun t957 => (if t957 = true then ((laws_heldBoxBox.f kj13 t940 t941 t942 1).bind fun t958 => (if t958 < 0 then (some false) else (if t958 = t939 then (some true) else (some false)))) else (some false))))) else (some false))) = some r := H
              have A46 := Aside0.mk A460
              clear A460
              by_cases c47 : t943 < 0
              · rw [if_pos c47] at H
                have c47b0 : decide (t943 < 0) = true := decide_eq_true c47
                clear c47
                exact absurd ((Option.some.inj H).trans hrt.out) (by decide)
              · rw [if_neg c47] at H
                have c47b0 : decide (t943 < 0) = false := decide_eq_false c47
                clear c47
                by_cases c48 : t943 = t939
                · rw [if_pos c48] at H
                  have c48b0 : (t943 == t939) = true := beq_iff_eq.mpr c48
                  have c48b1 : (t943 != t939) = false := bne_eq_false_iff_eq.mpr c48
                  clear c48
                  replace H := Option.bind_eq_some_iff.mp H
                  obtain ⟨t944, A490, H⟩ := H
                  replace H : ((impl_BoxNew.f t944).bind fun bt947 => ((laws_eqBoxBox.f kj13 bt947.1 bt947.2.1 bt947.2.2 t908 t911 t914).bind fun t957 => (if t957 = true then ((laws_heldBoxBox.f kj13 t940 t941 t942 1).bind fun t958 => (if t958 < 0 then (some false) else (if t958 = t939 then (some true) else (some false)))) else (some false)))) = some r := H
                  have A49 := Aside0.mk A490
                  clear A490
                  replace H := Option.bind_eq_some_iff.mp H
                  obtain ⟨⟨t947, t950, t953⟩, A500, H⟩ := H
                  replace H : ((laws_eqBoxBox.f kj13 t947 t950 t953 t908 t911 t914).bind fun t957 => (if t957 = true then ((laws_heldBoxBox.f kj13 t940 t941 t942 1).bind fun t958 => (if t958 < 0 then (some false) else (if t958 = t939 then (some true) else (some false)))) else (some false))) = some r := H
                  have A50 := Aside0.mk A500
                  clear A500
                  replace H := Option.bind_eq_some_iff.mp H
                  obtain ⟨t957, A510, H⟩ := H
                  replace H : (if t957 = true then ((laws_heldBoxBox.f kj13 t940 t941 t942 1).bind fun t958 => (if t958 < 0 then (some false) else (if t958 = t939 then (some true) else (some false)))) else (some false)) = some r := H
                  have A51 := Aside0.mk A510
                  clear A510
                  by_cases c52 : t957 = true
                  · subst c52
                    have H1 : ((laws_heldBoxBox.f kj13 t940 t941 t942 1).bind fun t958 => (if t958 < 0 then (some false) else (if t958 = t939 then (some true) else (some false)))) = some r := by rw [if_pos rfl] at H; exact H
                    clear H
                    have H := H1
                    clear H1
                    replace H := Option.bind_eq_some_iff.mp H
                    obtain ⟨t958, A530, H⟩ := H
                    replace H : (if t958 < 0 then (some false) else (if t958 = t939 then (some true) else (some false))) = some r := H
                    have A53 := Aside0.mk A530
                    clear A530
                    by_cases c54 : t958 < 0
                    · rw [if_pos c54] at H
                      have c54b0 : decide (t958 < 0) = true := decide_eq_true c54
                      clear c54
                      exact absurd ((Option.some.inj H).trans hrt.out) (by decide)
                    · rw [if_neg c54] at H
                      have c54b0 : decide (t958 < 0) = false := decide_eq_false c54
                      clear c54
                      by_cases c55 : t958 = t939
                      · rw [if_pos c55] at H
                        have c55b0 : (t958 == t939) = true := beq_iff_eq.mpr c55
                        have c55b1 : (t958 != t939) = false := bne_eq_false_iff_eq.mpr c55
                        clear c55
                        obtain rfl := Option.some.inj H
                        have hnb56 := NB930_917.out
                        have hnc56 := NB917_930.out
                        have hcz57_0 : wc.cell? ⟨gb930, 0, none⟩ = some (.slice Ao27 t921.length co27) := (blk_cell BK930.out 0).trans rfl
                        have hcz57_1 : wc.cell? ⟨gb930, 1, none⟩ = some (.slice Ao30 t924.length co30) := (blk_cell BK930.out 1).trans rfl
                        have hcz57_2 : wc.cell? ⟨gb930, 2, none⟩ = some (.slice Ao31 t927.length co31) := (blk_cell BK930.out 2).trans rfl
                        have hfz57_0 := blk_frozen BK930.out 0
                        have hfz57_1 := blk_frozen BK930.out 1
                        have hfz57_2 := blk_frozen BK930.out 2
                        go_wp2_with (first | ((with_reducible refine gate_callee (f := 42) rfl ?_); refine goesL_ (some 45) rfl rfl Try.func42 (by kernel_rfl) rfl #[.agg #[.slice Ao27 t921.length co27, .slice Ao30 t924.length co30, .slice Ao31 t927.length co31], .int .i64 1] rfl (by (try simp only [List.map_toArray, List.map_cons, List.map_nil]); first | done | rfl | (simp only [List.length_drop, List.length_take]; rfl)) ?_; (with_reducible refine (laws_markBoxBox.calls kj13 (fun k_ => some k_ = (.slice Ao27 t921.length co27 : Value).ownBlock) (.slice Ao27 t921.length co27) t921 (fun k_ => some k_ = (.slice Ao30 t924.length co30 : Value).ownBlock) (.slice Ao30 t924.length co30) t924 (fun k_ => some k_ = (.slice Ao31 t927.length co31 : Value).ownBlock) (.slice Ao31 t927.length co31) t927 1 t939 t940 t941 t942 w _ ?side1 ?side2 ?side3 ?side4 A45.out).mono ?_); (case side1 => repeat (first | (with_reducible first | exact HB.out | apply below_alloc | apply pw_below_drewN | apply below_drew1 | refine below_set ?_ GE917.out | refine below_set ?_ GE930.out) | exact HB.out)); (case side2 => exact Kd.R_tight rfl HO_931000.out); (case side3 => exact Kd.R_tight rfl HO_931001.out); (case side4 => exact Kd.R_tight rfl HO_931002.out); rintro e w58 ⟨rfl, hy0, hy1, hy2, hb, hkp⟩; refine ⟨_, rfl, ?_⟩; have n0_ := Aside0.mk (Kd.R_mono (ok' := fun k_ => some k_ ≠ (.slice Ao27 t921.length co27 : Value).ownBlock) (Kd.R_keptB ((Kd.R_apart' (Kd.R_apart' HO_918000.out (Kd.R_typed HO_931001.out) (by decide)) (Kd.R_typed HO_931002.out) (by decide))) hkp (fun k_ hk_ hs_ => Or.elim hs_ (fun e_ => (hk_.1.1) e_) (fun e_ => Or.elim e_ (fun e_ => (hk_.1.2) e_) (fun e_ => (hk_.2) e_)))) (fun k_ hk_ => hk_.1.1.1)); have n1_ := Aside0.mk (Kd.R_mono (ok' := fun k_ => some k_ ≠ (.slice Ao30 t924.length co30 : Value).ownBlock) (Kd.R_keptB ((Kd.R_apart' (Kd.R_apart' HO_918001.out (Kd.R_typed HO_931000.out) (by decide)) (Kd.R_typed HO_931002.out) (by decide))) hkp (fun k_ hk_ hs_ => Or.elim hs_ (fun e_ => (hk_.1.2) e_) (fun e_ => Or.elim e_ (fun e_ => (hk_.1.1) e_) (fun e_ => (hk_.2) e_)))) (fun k_ hk_ => hk_.1.1.1)); have n2_ := Aside0.mk (Kd.R_mono (ok' := fun k_ => some k_ ≠ (.slice Ao31 t927.length co31 : Value).ownBlock) (Kd.R_keptB ((Kd.R_apart' (Kd.R_apart' HO_918002.out (Kd.R_typed HO_931000.out) (by decide)) (Kd.R_typed HO_931001.out) (by decide))) hkp (fun k_ hk_ hs_ => Or.elim hs_ (fun e_ => (hk_.1.2) e_) (fun e_ => Or.elim e_ (fun e_ => (hk_.2) e_) (fun e_ => (hk_.1.1) e_)))) (fun k_ hk_ => hk_.1.1.1)); have n3_ := Aside0.mk (Kd.R_reok rfl hy0 (fun k_ e_ => HO_931000.out.1 k_ e_)); have n4_ := Aside0.mk (Kd.R_reok rfl hy1 (fun k_ e_ => HO_931001.out.1 k_ e_)); have n5_ := Aside0.mk (Kd.R_reok rfl hy2 (fun k_ e_ => HO_931002.out.1 k_ e_)); have n6_ := Aside0.mk (blk_kept (bk BK917) hkp (fun hs_ => Or.elim hs_ (fun e_ => (fun e_ => (Kd.R_ne HO_931000.out BK917.out (by decide)) e_) e_) (fun e_ => Or.elim e_ (fun e_ => (fun e_ => (Kd.R_ne HO_931001.out BK917.out (by decide)) e_) e_) (fun e_ => (fun e_ => (Kd.R_ne HO_931002.out BK917.out (by decide)) e_) e_)))); have n7_ := Aside0.mk (blk_kept (bk BK930) hkp (fun hs_ => Or.elim hs_ (fun e_ => (fun e_ => (Kd.R_ne HO_931000.out BK930.out (by decide)) e_) e_) (fun e_ => Or.elim e_ (fun e_ => (fun e_ => (Kd.R_ne HO_931001.out BK930.out (by decide)) e_) e_) (fun e_ => (fun e_ => (Kd.R_ne HO_931002.out BK930.out (by decide)) e_) e_)))); have n8_ := Aside0.mk (hb); clear HO_918000; clear HO_918001; clear HO_918002; clear HO_931000; clear HO_931001; clear HO_931002; clear BK917; clear BK930; clear HB; have HO_918000 := n0_; have HO_918001 := n1_; have HO_918002 := n2_; have HO_931000 := n3_; have HO_931001 := n4_; have HO_931002 := n5_; have BK917 := n6_; have BK930 := n7_; have HB := n8_; clear n0_ n1_ n2_ n3_ n4_ n5_ n6_ n7_ n8_; (try clear hb); (try clear hkp); (try clear hy0); (try clear hy1); (try clear hy2); have hcz59_0 : w58.cell? ⟨gb930, 0, none⟩ = some (.slice Ao27 t921.length co27) := (blk_cell BK930.out 0).trans rfl; have hcz59_1 : w58.cell? ⟨gb930, 1, none⟩ = some (.slice Ao30 t924.length co30) := (blk_cell BK930.out 1).trans rfl; have hcz59_2 : w58.cell? ⟨gb930, 2, none⟩ = some (.slice Ao31 t927.length co31) := (blk_cell BK930.out 2).trans rfl; have hfz59_0 := blk_frozen BK930.out 0; have hfz59_1 := blk_frozen BK930.out 1; have hfz59_2 := blk_frozen BK930.out 2) | ((with_reducible refine gate_callee (f := 43) rfl ?_); refine goesL_ (some 48) rfl rfl Try.func43 (by kernel_rfl) rfl #[.agg #[.slice Ao27 t940.length co27, .slice Ao30 t941.length co30, .slice Ao31 t942.length co31], .int .i64 1] rfl (by (try simp only [List.map_toArray, List.map_cons, List.map_nil]); first | done | (rw [show t940.length = t921.length from (Kd.R_reads' HO_931000.out).1.symm, show t941.length = t924.length from (Kd.R_reads' HO_931001.out).1.symm, show t942.length = t927.length from (Kd.R_reads' HO_931002.out).1.symm] <;> rfl) | rfl | (simp only [List.length_drop, List.length_take]; rfl)) ?_; (with_reducible refine (laws_heldBoxBox.calls kj13 _ _ t940 _ _ t941 _ _ t942 1 t943 _ ?side1 ?side2 ?side3 ?side4 ?side5 ?side6 A46.out).mono ?_); (case side1 => repeat (first | exact (Kd.R_reads' HO_931000.out).2.2 | (with_reducible refine Kd.C_alloc ?_ _) | (with_reducible refine Kd.C_drewN ?_ _) | (with_reducible refine Kd.C_drew ?_))); (case side2 => rw [show t940.length = t921.length from (Kd.R_reads' HO_931000.out).1.symm]; exact (Kd.R_reads' HO_931000.out).2.1); (case side3 => repeat (first | exact (Kd.R_reads' HO_931001.out).2.2 | (with_reducible refine Kd.C_alloc ?_ _) | (with_reducible refine Kd.C_drewN ?_ _) | (with_reducible refine Kd.C_drew ?_))); (case side4 => rw [show t941.length = t924.length from (Kd.R_reads' HO_931001.out).1.symm]; exact (Kd.R_reads' HO_931001.out).2.1); (case side5 => repeat (first | exact (Kd.R_reads' HO_931002.out).2.2 | (with_reducible refine Kd.C_alloc ?_ _) | (with_reducible refine Kd.C_drewN ?_ _) | (with_reducible refine Kd.C_drew ?_))); (case side6 => rw [show t942.length = t927.length from (Kd.R_reads' HO_931002.out).1.symm]; exact (Kd.R_reads' HO_931002.out).2.1); rintro e w60 ⟨rfl, hb⟩; refine ⟨_, rfl, ?_⟩; have n0_ := Aside0.mk (Kd.R_below (rs HO_918000) hb); have n1_ := Aside0.mk (Kd.R_below (rs HO_918001) hb); have n2_ := Aside0.mk (Kd.R_below (rs HO_918002) hb); have n3_ := Aside0.mk (Kd.R_below (rs HO_931000) hb); have n4_ := Aside0.mk (Kd.R_below (rs HO_931001) hb); have n5_ := Aside0.mk (Kd.R_below (rs HO_931002) hb); have n6_ := bkB BK917 hb; have n7_ := bkB BK930 hb; have n8_ := Aside0.mk (below_step (bl HB) hb); clear HO_918000; clear HO_918001; clear HO_918002; clear HO_931000; clear HO_931001; clear HO_931002; clear BK917; clear BK930; clear HB; have HO_918000 := n0_; have HO_918001 := n1_; have HO_918002 := n2_; have HO_931000 := n3_; have HO_931001 := n4_; have HO_931002 := n5_; have BK917 := n6_; have BK930 := n7_; have HB := n8_; clear n0_ n1_ n2_ n3_ n4_ n5_ n6_ n7_ n8_; (try clear hb); (try clear hb2); (try clear hk); (try clear hi)) | ((with_reducible refine gate_callee (f := 18) rfl ?_); refine goesL_ (some 55) rfl rfl Try.func18 (by kernel_rfl) rfl #[.slice A0 l0.length c0] rfl (by (try simp only [List.map_toArray, List.map_cons, List.map_nil]); first | done | rfl | (simp only [List.length_drop, List.length_take]; rfl)) ?_; (with_reducible refine (laws_toRulRuleS.calls kj13 _ _ l0 t944 _ ?side1 ?side2 A49.out).mono ?_); (case side1 => repeat (first | exact (Kd.C_below HR0.out HB.out) | (with_reducible refine Kd.C_alloc ?_ _) | (with_reducible refine Kd.C_drewN ?_ _) | (with_reducible refine Kd.C_drew ?_))); (case side2 => exact HC0.out); rintro e w61 ⟨v945, rfl, ho0, hb⟩; refine ⟨_, rfl, ?_⟩; have n0_ := Aside0.mk (Kd.R_elder' (rs HO_918000) (Kd.R_base ho0) hb); have n1_ := Aside0.mk (Kd.R_below (rs HO_918001) hb); have n2_ := Aside0.mk (Kd.R_below (rs HO_918002) hb); have n3_ := Aside0.mk (Kd.R_elder' (rs HO_931000) (Kd.R_base ho0) hb); have n4_ := Aside0.mk (Kd.R_below (rs HO_931001) hb); have n5_ := Aside0.mk (Kd.R_below (rs HO_931002) hb); have n6_ := Aside0.mk (Kd.R_lower (Kd.R_new' (Kd.R_new' ho0 (Kd.R_lt (rs HO_918000))) (Kd.R_lt (rs HO_931000))) (below_size (bl HB))); have n7_ := bkB BK917 hb; have n8_ := bkB BK930 hb; have n9_ := Aside0.mk (below_step (bl HB) hb); clear HO_918000; clear HO_918001; clear HO_918002; clear HO_931000; clear HO_931001; clear HO_931002; clear BK917; clear BK930; clear HB; have HO_918000 := n0_; have HO_918001 := n1_; have HO_918002 := n2_; have HO_931000 := n3_; have HO_931001 := n4_; have HO_931002 := n5_; have HO946 := n6_; have BK917 := n7_; have BK930 := n8_; have HB := n9_; clear n0_ n1_ n2_ n3_ n4_ n5_ n6_ n7_ n8_ n9_; (try clear hb); (try clear hb2); (try clear hk); (try clear hi); (try clear ho0); obtain ⟨Ao62, co62, eo62⟩ := Kd.R_slice HO946.out; subst eo62) | ((with_reducible refine gate_callee (f := 39) rfl ?_); refine goesL_ (some 56) rfl rfl Try.func39 (by kernel_rfl) rfl #[.slice Ao62 t944.length co62] rfl (by (try simp only [List.map_toArray, List.map_cons, List.map_nil]); first | done | rfl | (simp only [List.length_drop, List.length_take]; rfl)) ?_; (with_reducible refine (impl_BoxNew.calls _ _ t944 t947 t950 t953 _ ?side1 ?side2 A50.out).mono ?_); (case side1 => repeat (first | exact (Kd.R_reads' HO946.out).2.2 | (with_reducible refine Kd.C_alloc ?_ _) | (with_reducible refine Kd.C_drewN ?_ _) | (with_reducible refine Kd.C_drew ?_))); (case side2 => exact (Kd.R_reads' HO946.out).2.1); rintro e w63 ⟨v948, v951, v954, rfl, ho0, ho1, ho2, hb⟩; refine ⟨_, rfl, ?_⟩; have n0_ := Aside0.mk (Kd.R_elder' (rs HO_918000) (Kd.R_base ho0) hb); have n1_ := Aside0.mk (Kd.R_elder' (rs HO_918001) (Kd.R_base ho1) hb); have n2_ := Aside0.mk (Kd.R_elder' (rs HO_918002) (Kd.R_base ho2) hb); have n3_ := Aside0.mk (Kd.R_elder' (rs HO_931000) (Kd.R_base ho0) hb); have n4_ := Aside0.mk (Kd.R_elder' (rs HO_931001) (Kd.R_base ho1) hb); have n5_ := Aside0.mk (Kd.R_elder' (rs HO_931002) (Kd.R_base ho2) hb); have n6_ := Aside0.mk (Kd.R_elder' (rs HO946) (Kd.R_base ho0) hb); have n7_ := Aside0.mk (Kd.R_lower (Kd.R_new' (Kd.R_new' (Kd.R_new' ho0 (Kd.R_lt (rs HO_918000))) (Kd.R_lt (rs HO_931000))) (Kd.R_lt (rs HO946))) (below_size (bl HB))); have n8_ := Aside0.mk (Kd.R_lower (Kd.R_new' (Kd.R_new' ho1 (Kd.R_lt (rs HO_918001))) (Kd.R_lt (rs HO_931001))) (below_size (bl HB))); have n9_ := Aside0.mk (Kd.R_lower (Kd.R_new' (Kd.R_new' ho2 (Kd.R_lt (rs HO_918002))) (Kd.R_lt (rs HO_931002))) (below_size (bl HB))); have n10_ := bkB BK917 hb; have n11_ := bkB BK930 hb; have n12_ := Aside0.mk (below_step (bl HB) hb); clear HO_918000; clear HO_918001; clear HO_918002; clear HO_931000; clear HO_931001; clear HO_931002; clear HO946; clear BK917; clear BK930; clear HB; have HO_918000 := n0_; have HO_918001 := n1_; have HO_918002 := n2_; have HO_931000 := n3_; have HO_931001 := n4_; have HO_931002 := n5_; have HO946 := n6_; have HO949 := n7_; have HO952 := n8_; have HO955 := n9_; have BK917 := n10_; have BK930 := n11_; have HB := n12_; clear n0_ n1_ n2_ n3_ n4_ n5_ n6_ n7_ n8_ n9_ n10_ n11_ n12_; (try clear hb); (try clear hb2); (try clear hk); (try clear hi); (try clear ho0); (try clear ho1); (try clear ho2)) | ((with_reducible refine gate_dst (N := 10) rfl ?_); refine box_event ?hg (N := 10) ?hd (cs := #[.slice none 0 0, .slice none 0 0, .slice none 0 0]) (t := 66) ?hr ?_; (case hd => rfl); (case hg => rfl); (case hr => first | (go_simp; done) | (go_simp; rfl)); intro gb956 hg w64 hbox hb; have n0_ := Aside0.mk (Kd.R_below (rs HO_918000) hb); have n1_ := Aside0.mk (Kd.R_below (rs HO_918001) hb); have n2_ := Aside0.mk (Kd.R_below (rs HO_918002) hb); have n3_ := Aside0.mk (Kd.R_below (rs HO_931000) hb); have n4_ := Aside0.mk (Kd.R_below (rs HO_931001) hb); have n5_ := Aside0.mk (Kd.R_below (rs HO_931002) hb); have n6_ := Aside0.mk (Kd.R_below (rs HO946) hb); have n7_ := Aside0.mk (Kd.R_below (rs HO949) hb); have n8_ := Aside0.mk (Kd.R_below (rs HO952) hb); have n9_ := Aside0.mk (Kd.R_below (rs HO955) hb); have n10_ := bkB BK917 hb; have n11_ := bkB BK930 hb; have n12_ := Aside0.mk (below_step (bl HB) hb); have n13_ := Aside0.mk (hbox); have n14_ := Aside0.mk ((by rw [hg]; exact (below_size (bl HB)) : w.heap.size ≤ gb956)); have n15_ := Aside0.mk ((by rw [hg]; exact (below_size (bl HB)) : w.heap.size ≤ gb956)); have n16_ := Aside0.mk ((by rw [hg]; exact Nat.ne_of_lt (bkL BK917) : gb917 ≠ gb956)); have n17_ := Aside0.mk ((by rw [hg]; exact Nat.ne_of_gt (bkL BK917) : gb956 ≠ gb917)); have n18_ := Aside0.mk ((by rw [hg]; exact Nat.ne_of_lt (bkL BK930) : gb930 ≠ gb956)); have n19_ := Aside0.mk ((by rw [hg]; exact Nat.ne_of_gt (bkL BK930) : gb956 ≠ gb930)); clear HO_918000; clear HO_918001; clear HO_918002; clear HO_931000; clear HO_931001; clear HO_931002; clear HO946; clear HO949; clear HO952; clear HO955; clear BK917; clear BK930; clear HB; have HO_918000 := n0_; have HO_918001 := n1_; have HO_918002 := n2_; have HO_931000 := n3_; have HO_931001 := n4_; have HO_931002 := n5_; have HO946 := n6_; have HO949 := n7_; have HO952 := n8_; have HO955 := n9_; have BK917 := n10_; have BK930 := n11_; have HB := n12_; have BK956 := n13_; have GW956 := n14_; have GE956 := n15_; have NB917_956 := n16_; have NB956_917 := n17_; have NB930_956 := n18_; have NB956_930 := n19_; clear n0_ n1_ n2_ n3_ n4_ n5_ n6_ n7_ n8_ n9_ n10_ n11_ n12_ n13_ n14_ n15_ n16_ n17_ n18_ n19_; clear hb hbox hg; obtain ⟨Ao65, co65, eo65⟩ := Kd.R_slice HO949.out; subst eo65; have hnb66 := NB956_917.out; have hnc66 := NB917_956.out; have hnb67 := NB956_930.out; have hnc67 := NB930_956.out; have hcz68_0 : w64.cell? ⟨gb956, 0, none⟩ = some (.slice none 0 0) := (blk_cell BK956.out 0).trans rfl; have hcz68_1 : w64.cell? ⟨gb956, 1, none⟩ = some (.slice none 0 0) := (blk_cell BK956.out 1).trans rfl; have hcz68_2 : w64.cell? ⟨gb956, 2, none⟩ = some (.slice none 0 0) := (blk_cell BK956.out 2).trans rfl; have hfz68_0 := blk_frozen BK956.out 0; have hfz68_1 := blk_frozen BK956.out 1; have hfz68_2 := blk_frozen BK956.out 2; obtain ⟨Ao69, co69, eo69⟩ := Kd.R_slice HO952.out; subst eo69; obtain ⟨Ao70, co70, eo70⟩ := Kd.R_slice HO955.out; subst eo70; have hcz71_0 : w64.cell? ⟨gb917, 0, none⟩ = some (.slice Ao19 t908.length co19) := (blk_cell BK917.out 0).trans rfl; have hcz71_1 : w64.cell? ⟨gb917, 1, none⟩ = some (.slice Ao21 t911.length co21) := (blk_cell BK917.out 1).trans rfl; have hcz71_2 : w64.cell? ⟨gb917, 2, none⟩ = some (.slice Ao22 t914.length co22) := (blk_cell BK917.out 2).trans rfl; have hfz71_0 := blk_frozen BK917.out 0; have hfz71_1 := blk_frozen BK917.out 1; have hfz71_2 := blk_frozen BK917.out 2) | ((with_reducible refine gate_callee (f := 40) rfl ?_); refine goesL_ (some 59) rfl rfl Try.func40 (by kernel_rfl) rfl #[.agg #[.slice Ao65 t947.length co65, .slice Ao69 t950.length co69, .slice Ao70 t953.length co70], .agg #[.slice Ao19 t908.length co19, .slice Ao21 t911.length co21, .slice Ao22 t914.length co22]] rfl (by (try simp only [List.map_toArray, List.map_cons, List.map_nil]); first | done | rfl | (simp only [List.length_drop, List.length_take]; rfl)) ?_; (with_reducible refine (laws_eqBoxBox.calls kj13 _ _ t947 _ _ t950 _ _ t953 _ _ t908 _ _ t911 _ _ t914 true _ ?side1 ?side2 ?side3 ?side4 ?side5 ?side6 ?side7 ?side8 ?side9 ?side10 ?side11 ?side12 A51.out).mono ?_); (case side1 => refine (Kd.R_reads' (e := 24) (base := w.heap.size) (ok := fun k_ => (((True ∧ some k_ ≠ (.slice Ao19 t908.length co19 : Value).ownBlock) ∧ some k_ ≠ (.slice Ao27 t921.length co27 : Value).ownBlock) ∧ some k_ ≠ (.slice Ao62 t944.length co62 : Value).ownBlock)) (n := t947.length) (c := co65) ?_).2.2; exact (by (with_reducible repeat apply ru); exact (Kd.R_mono (Kd.R_far (p := ⟨gb956, 2, none⟩) (Kd.R_far (p := ⟨gb956, 1, none⟩) (Kd.R_far (p := ⟨gb956, 0, none⟩) (Kd.R_types HO949.out BK956.out (by decide)) (fun _ hk => hk.2) (.slice Ao65 t947.length co65)) (fun _ hk => hk.2) (.slice Ao69 t950.length co69)) (fun _ hk => hk.2) (.slice Ao70 t953.length co70)) (fun _ h_ => h_.1)))); (case side2 => exact (Kd.R_reads' HO949.out).2.1); (case side3 => refine (Kd.R_reads' (e := 29) (base := w.heap.size) (ok := fun k_ => ((True ∧ some k_ ≠ (.slice Ao21 t911.length co21 : Value).ownBlock) ∧ some k_ ≠ (.slice Ao30 t924.length co30 : Value).ownBlock)) (n := t950.length) (c := co69) ?_).2.2; exact (by (with_reducible repeat apply ru); exact (Kd.R_mono (Kd.R_far (p := ⟨gb956, 2, none⟩) (Kd.R_far (p := ⟨gb956, 1, none⟩) (Kd.R_far (p := ⟨gb956, 0, none⟩) (Kd.R_types HO952.out BK956.out (by decide)) (fun _ hk => hk.2) (.slice Ao65 t947.length co65)) (fun _ hk => hk.2) (.slice Ao69 t950.length co69)) (fun _ hk => hk.2) (.slice Ao70 t953.length co70)) (fun _ h_ => h_.1)))); (case side4 => exact (Kd.R_reads' HO952.out).2.1); (case side5 => refine (Kd.R_reads' (e := 119) (base := w.heap.size) (ok := fun k_ => ((True ∧ some k_ ≠ (.slice Ao22 t914.length co22 : Value).ownBlock) ∧ some k_ ≠ (.slice Ao31 t927.length co31 : Value).ownBlock)) (n := t953.length) (c := co70) ?_).2.2; exact (by (with_reducible repeat apply ru); exact (Kd.R_mono (Kd.R_far (p := ⟨gb956, 2, none⟩) (Kd.R_far (p := ⟨gb956, 1, none⟩) (Kd.R_far (p := ⟨gb956, 0, none⟩) (Kd.R_types HO955.out BK956.out (by decide)) (fun _ hk => hk.2) (.slice Ao65 t947.length co65)) (fun _ hk => hk.2) (.slice Ao69 t950.length co69)) (fun _ hk => hk.2) (.slice Ao70 t953.length co70)) (fun _ h_ => h_.1)))); (case side6 => exact (Kd.R_reads' HO955.out).2.1); (case side7 => refine (Kd.R_reads' (e := 24) (base := w.heap.size) (ok := fun k_ => ((some k_ ≠ (.slice Ao27 t921.length co27 : Value).ownBlock ∧ some k_ ≠ (.slice Ao62 t944.length co62 : Value).ownBlock) ∧ some k_ ≠ (.slice Ao65 t947.length co65 : Value).ownBlock)) (n := t908.length) (c := co19) ?_).2.2; exact (by (with_reducible repeat apply ru); exact (Kd.R_mono (Kd.R_far (p := ⟨gb956, 2, none⟩) (Kd.R_far (p := ⟨gb956, 1, none⟩) (Kd.R_far (p := ⟨gb956, 0, none⟩) (Kd.R_types HO_918000.out BK956.out (by decide)) (fun _ hk => hk.2) (.slice Ao65 t947.length co65)) (fun _ hk => hk.2) (.slice Ao69 t950.length co69)) (fun _ hk => hk.2) (.slice Ao70 t953.length co70)) (fun _ h_ => h_.1)))); (case side8 => exact (Kd.R_reads' HO_918000.out).2.1); (case side9 => refine (Kd.R_reads' (e := 29) (base := w.heap.size) (ok := fun k_ => (some k_ ≠ (.slice Ao30 t924.length co30 : Value).ownBlock ∧ some k_ ≠ (.slice Ao69 t950.length co69 : Value).ownBlock)) (n := t911.length) (c := co21) ?_).2.2; exact (by (with_reducible repeat apply ru); exact (Kd.R_mono (Kd.R_far (p := ⟨gb956, 2, none⟩) (Kd.R_far (p := ⟨gb956, 1, none⟩) (Kd.R_far (p := ⟨gb956, 0, none⟩) (Kd.R_types HO_918001.out BK956.out (by decide)) (fun _ hk => hk.2) (.slice Ao65 t947.length co65)) (fun _ hk => hk.2) (.slice Ao69 t950.length co69)) (fun _ hk => hk.2) (.slice Ao70 t953.length co70)) (fun _ h_ => h_.1)))); (case side10 => exact (Kd.R_reads' HO_918001.out).2.1); (case side11 => refine (Kd.R_reads' (e := 119) (base := w.heap.size) (ok := fun k_ => (some k_ ≠ (.slice Ao31 t927.length co31 : Value).ownBlock ∧ some k_ ≠ (.slice Ao70 t953.length co70 : Value).ownBlock)) (n := t914.length) (c := co22) ?_).2.2; exact (by (with_reducible repeat apply ru); exact (Kd.R_mono (Kd.R_far (p := ⟨gb956, 2, none⟩) (Kd.R_far (p := ⟨gb956, 1, none⟩) (Kd.R_far (p := ⟨gb956, 0, none⟩) (Kd.R_types HO_918002.out BK956.out (by decide)) (fun _ hk => hk.2) (.slice Ao65 t947.length co65)) (fun _ hk => hk.2) (.slice Ao69 t950.length co69)) (fun _ hk => hk.2) (.slice Ao70 t953.length co70)) (fun _ h_ => h_.1)))); (case side12 => exact (Kd.R_reads' HO_918002.out).2.1); rintro e w72 ⟨rfl, hb⟩; refine ⟨_, rfl, ?_⟩; have n0_ := Aside0.mk (Kd.R_below (by (with_reducible repeat apply ru); exact (Kd.R_mono (Kd.R_far (p := ⟨gb956, 2, none⟩) (Kd.R_far (p := ⟨gb956, 1, none⟩) (Kd.R_far (p := ⟨gb956, 0, none⟩) (Kd.R_types HO_918000.out BK956.out (by decide)) (fun _ hk => hk.2) (.slice Ao65 t947.length co65)) (fun _ hk => hk.2) (.slice Ao69 t950.length co69)) (fun _ hk => hk.2) (.slice Ao70 t953.length co70)) (fun _ h_ => h_.1))) hb); have n1_ := Aside0.mk (Kd.R_below (by (with_reducible repeat apply ru); exact (Kd.R_mono (Kd.R_far (p := ⟨gb956, 2, none⟩) (Kd.R_far (p := ⟨gb956, 1, none⟩) (Kd.R_far (p := ⟨gb956, 0, none⟩) (Kd.R_types HO_918001.out BK956.out (by decide)) (fun _ hk => hk.2) (.slice Ao65 t947.length co65)) (fun _ hk => hk.2) (.slice Ao69 t950.length co69)) (fun _ hk => hk.2) (.slice Ao70 t953.length co70)) (fun _ h_ => h_.1))) hb); have n2_ := Aside0.mk (Kd.R_below (by (with_reducible repeat apply ru); exact (Kd.R_mono (Kd.R_far (p := ⟨gb956, 2, none⟩) (Kd.R_far (p := ⟨gb956, 1, none⟩) (Kd.R_far (p := ⟨gb956, 0, none⟩) (Kd.R_types HO_918002.out BK956.out (by decide)) (fun _ hk => hk.2) (.slice Ao65 t947.length co65)) (fun _ hk => hk.2) (.slice Ao69 t950.length co69)) (fun _ hk => hk.2) (.slice Ao70 t953.length co70)) (fun _ h_ => h_.1))) hb); have n3_ := Aside0.mk (Kd.R_below (by (with_reducible repeat apply ru); exact (Kd.R_mono (Kd.R_far (p := ⟨gb956, 2, none⟩) (Kd.R_far (p := ⟨gb956, 1, none⟩) (Kd.R_far (p := ⟨gb956, 0, none⟩) (Kd.R_types HO_931000.out BK956.out (by decide)) (fun _ hk => hk.2) (.slice Ao65 t947.length co65)) (fun _ hk => hk.2) (.slice Ao69 t950.length co69)) (fun _ hk => hk.2) (.slice Ao70 t953.length co70)) (fun _ h_ => h_.1))) hb); have n4_ := Aside0.mk (Kd.R_below (by (with_reducible repeat apply ru); exact (Kd.R_mono (Kd.R_far (p := ⟨gb956, 2, none⟩) (Kd.R_far (p := ⟨gb956, 1, none⟩) (Kd.R_far (p := ⟨gb956, 0, none⟩) (Kd.R_types HO_931001.out BK956.out (by decide)) (fun _ hk => hk.2) (.slice Ao65 t947.length co65)) (fun _ hk => hk.2) (.slice Ao69 t950.length co69)) (fun _ hk => hk.2) (.slice Ao70 t953.length co70)) (fun _ h_ => h_.1))) hb); have n5_ := Aside0.mk (Kd.R_below (by (with_reducible repeat apply ru); exact (Kd.R_mono (Kd.R_far (p := ⟨gb956, 2, none⟩) (Kd.R_far (p := ⟨gb956, 1, none⟩) (Kd.R_far (p := ⟨gb956, 0, none⟩) (Kd.R_types HO_931002.out BK956.out (by decide)) (fun _ hk => hk.2) (.slice Ao65 t947.length co65)) (fun _ hk => hk.2) (.slice Ao69 t950.length co69)) (fun _ hk => hk.2) (.slice Ao70 t953.length co70)) (fun _ h_ => h_.1))) hb); have n6_ := Aside0.mk (Kd.R_below (by (with_reducible repeat apply ru); exact (Kd.R_mono (Kd.R_far (p := ⟨gb956, 2, none⟩) (Kd.R_far (p := ⟨gb956, 1, none⟩) (Kd.R_far (p := ⟨gb956, 0, none⟩) (Kd.R_types HO946.out BK956.out (by decide)) (fun _ hk => hk.2) (.slice Ao65 t947.length co65)) (fun _ hk => hk.2) (.slice Ao69 t950.length co69)) (fun _ hk => hk.2) (.slice Ao70 t953.length co70)) (fun _ h_ => h_.1))) hb); have n7_ := Aside0.mk (Kd.R_below (by (with_reducible repeat apply ru); exact (Kd.R_mono (Kd.R_far (p := ⟨gb956, 2, none⟩) (Kd.R_far (p := ⟨gb956, 1, none⟩) (Kd.R_far (p := ⟨gb956, 0, none⟩) (Kd.R_types HO949.out BK956.out (by decide)) (fun _ hk => hk.2) (.slice Ao65 t947.length co65)) (fun _ hk => hk.2) (.slice Ao69 t950.length co69)) (fun _ hk => hk.2) (.slice Ao70 t953.length co70)) (fun _ h_ => h_.1))) hb); have n8_ := Aside0.mk (Kd.R_below (by (with_reducible repeat apply ru); exact (Kd.R_mono (Kd.R_far (p := ⟨gb956, 2, none⟩) (Kd.R_far (p := ⟨gb956, 1, none⟩) (Kd.R_far (p := ⟨gb956, 0, none⟩) (Kd.R_types HO952.out BK956.out (by decide)) (fun _ hk => hk.2) (.slice Ao65 t947.length co65)) (fun _ hk => hk.2) (.slice Ao69 t950.length co69)) (fun _ hk => hk.2) (.slice Ao70 t953.length co70)) (fun _ h_ => h_.1))) hb); have n9_ := Aside0.mk (Kd.R_below (by (with_reducible repeat apply ru); exact (Kd.R_mono (Kd.R_far (p := ⟨gb956, 2, none⟩) (Kd.R_far (p := ⟨gb956, 1, none⟩) (Kd.R_far (p := ⟨gb956, 0, none⟩) (Kd.R_types HO955.out BK956.out (by decide)) (fun _ hk => hk.2) (.slice Ao65 t947.length co65)) (fun _ hk => hk.2) (.slice Ao69 t950.length co69)) (fun _ hk => hk.2) (.slice Ao70 t953.length co70)) (fun _ h_ => h_.1))) hb); have n10_ := Aside0.mk (blk_below (g := gb917) (o := .cells #[.slice Ao19 t908.length co19, .slice Ao21 t911.length co21, .slice Ao22 t914.length co22] 66 (0, 0)) (by (with_reducible repeat refine bu ?_); refine blk_far ?_ NB917_956.out _; (with_reducible repeat refine bu ?_); refine blk_far ?_ NB917_956.out _; (with_reducible repeat refine bu ?_); refine blk_far ?_ NB917_956.out _; (with_reducible repeat refine bu ?_); exact BK917.out) hb); have n11_ := Aside0.mk (blk_below (g := gb930) (o := .cells #[.slice Ao27 t921.length co27, .slice Ao30 t924.length co30, .slice Ao31 t927.length co31] 66 (0, 0)) (by (with_reducible repeat refine bu ?_); refine blk_far ?_ NB930_956.out _; (with_reducible repeat refine bu ?_); refine blk_far ?_ NB930_956.out _; (with_reducible repeat refine bu ?_); refine blk_far ?_ NB930_956.out _; (with_reducible repeat refine bu ?_); exact BK930.out) hb); have n12_ := Aside0.mk (blk_below (g := gb956) (o := .cells #[.slice Ao65 t947.length co65, .slice Ao69 t950.length co69, .slice Ao70 t953.length co70] 66 (0, 0)) (by (with_reducible repeat refine bu ?_); refine blk_put (cs := #[.slice Ao65 t947.length co65, .slice Ao69 t950.length co69, .slice none 0 0]) ?_ 2 _ rfl; (with_reducible repeat refine bu ?_); refine blk_put (cs := #[.slice Ao65 t947.length co65, .slice none 0 0, .slice none 0 0]) ?_ 1 _ rfl; (with_reducible repeat refine bu ?_); refine blk_put (cs := #[.slice none 0 0, .slice none 0 0, .slice none 0 0]) ?_ 0 _ rfl; (with_reducible repeat refine bu ?_); exact BK956.out) hb); have n13_ := Aside0.mk (below_step (bl HB) hb); clear HO_918000; clear HO_918001; clear HO_918002; clear HO_931000; clear HO_931001; clear HO_931002; clear HO946; clear HO949; clear HO952; clear HO955; clear BK917; clear BK930; clear BK956; clear HB; have HO_918000 := n0_; have HO_918001 := n1_; have HO_918002 := n2_; have HO_931000 := n3_; have HO_931001 := n4_; have HO_931002 := n5_; have HO946 := n6_; have HO949 := n7_; have HO952 := n8_; have HO955 := n9_; have BK917 := n10_; have BK930 := n11_; have BK956 := n12_; have HB := n13_; clear n0_ n1_ n2_ n3_ n4_ n5_ n6_ n7_ n8_ n9_ n10_ n11_ n12_ n13_; (try clear hb); (try clear hb2); (try clear hk); (try clear hi); have hcz73_0 : w72.cell? ⟨gb930, 0, none⟩ = some (.slice Ao27 t921.length co27) := (blk_cell BK930.out 0).trans rfl; have hcz73_1 : w72.cell? ⟨gb930, 1, none⟩ = some (.slice Ao30 t924.length co30) := (blk_cell BK930.out 1).trans rfl; have hcz73_2 : w72.cell? ⟨gb930, 2, none⟩ = some (.slice Ao31 t927.length co31) := (blk_cell BK930.out 2).trans rfl; have hfz73_0 := blk_frozen BK930.out 0; have hfz73_1 := blk_frozen BK930.out 1; have hfz73_2 := blk_frozen BK930.out 2) | ((with_reducible refine gate_callee (f := 43) rfl ?_); refine goesL_ (some 63) rfl rfl Try.func43 (by kernel_rfl) rfl #[.agg #[.slice Ao27 t940.length co27, .slice Ao30 t941.length co30, .slice Ao31 t942.length co31], .int .i64 1] rfl (by (try simp only [List.map_toArray, List.map_cons, List.map_nil]); first | done | (rw [show t940.length = t921.length from (Kd.R_reads' HO_931000.out).1.symm, show t941.length = t924.length from (Kd.R_reads' HO_931001.out).1.symm, show t942.length = t927.length from (Kd.R_reads' HO_931002.out).1.symm] <;> rfl) | rfl | (simp only [List.length_drop, List.length_take]; rfl)) ?_; (with_reducible refine (laws_heldBoxBox.calls kj13 _ _ t940 _ _ t941 _ _ t942 1 t958 _ ?side1 ?side2 ?side3 ?side4 ?side5 ?side6 A53.out).mono ?_); (case side1 => repeat (first | exact (Kd.R_reads' HO_931000.out).2.2 | (with_reducible refine Kd.C_alloc ?_ _) | (with_reducible refine Kd.C_drewN ?_ _) | (with_reducible refine Kd.C_drew ?_))); (case side2 => rw [show t940.length = t921.length from (Kd.R_reads' HO_931000.out).1.symm]; exact (Kd.R_reads' HO_931000.out).2.1); (case side3 => repeat (first | exact (Kd.R_reads' HO_931001.out).2.2 | (with_reducible refine Kd.C_alloc ?_ _) | (with_reducible refine Kd.C_drewN ?_ _) | (with_reducible refine Kd.C_drew ?_))); (case side4 => rw [show t941.length = t924.length from (Kd.R_reads' HO_931001.out).1.symm]; exact (Kd.R_reads' HO_931001.out).2.1); (case side5 => repeat (first | exact (Kd.R_reads' HO_931002.out).2.2 | (with_reducible refine Kd.C_alloc ?_ _) | (with_reducible refine Kd.C_drewN ?_ _) | (with_reducible refine Kd.C_drew ?_))); (case side6 => rw [show t942.length = t927.length from (Kd.R_reads' HO_931002.out).1.symm]; exact (Kd.R_reads' HO_931002.out).2.1); rintro e w74 ⟨rfl, hb⟩; refine ⟨_, rfl, ?_⟩; have n0_ := Aside0.mk (Kd.R_below (rs HO_918000) hb); have n1_ := Aside0.mk (Kd.R_below (rs HO_918001) hb); have n2_ := Aside0.mk (Kd.R_below (rs HO_918002) hb); have n3_ := Aside0.mk (Kd.R_below (rs HO_931000) hb); have n4_ := Aside0.mk (Kd.R_below (rs HO_931001) hb); have n5_ := Aside0.mk (Kd.R_below (rs HO_931002) hb); have n6_ := Aside0.mk (Kd.R_below (rs HO946) hb); have n7_ := Aside0.mk (Kd.R_below (rs HO949) hb); have n8_ := Aside0.mk (Kd.R_below (rs HO952) hb); have n9_ := Aside0.mk (Kd.R_below (rs HO955) hb); have n10_ := bkB BK917 hb; have n11_ := bkB BK930 hb; have n12_ := bkB BK956 hb; have n13_ := Aside0.mk (below_step (bl HB) hb); clear HO_918000; clear HO_918001; clear HO_918002; clear HO_931000; clear HO_931001; clear HO_931002; clear HO946; clear HO949; clear HO952; clear HO955; clear BK917; clear BK930; clear BK956; clear HB; have HO_918000 := n0_; have HO_918001 := n1_; have HO_918002 := n2_; have HO_931000 := n3_; have HO_931001 := n4_; have HO_931002 := n5_; have HO946 := n6_; have HO949 := n7_; have HO952 := n8_; have HO955 := n9_; have BK917 := n10_; have BK930 := n11_; have BK956 := n12_; have HB := n13_; clear n0_ n1_ n2_ n3_ n4_ n5_ n6_ n7_ n8_ n9_ n10_ n11_ n12_ n13_; (try clear hb); (try clear hb2); (try clear hk); (try clear hi)))
                        go_ret
                        exact ⟨by first | rfl | (simp [errW_none, errW_some] <;> rfl) | (simp [*, errW_none, errW_some] <;> rfl), by repeat (first | (with_reducible first | exact HB.out | apply below_alloc | apply pw_below_drewN | apply below_drew1 | refine below_set ?_ GE917.out | refine below_set ?_ GE930.out | refine below_set ?_ GE956.out) | exact HB.out)⟩
                      · rw [if_neg c55] at H
                        have c55b0 : (t958 == t939) = false := beq_eq_false_iff_ne.mpr c55
                        have c55b1 : (t958 != t939) = true := bne_iff_ne.mpr c55
                        exact absurd ((Option.some.inj H).trans hrt.out) (by decide)
                  · replace c52 := Bool.eq_false_iff.mpr c52
                    subst c52
                    have H1 : (some false) = some r := by rw [if_neg (show ¬ (false = true) by decide)] at H; exact H
                    clear H
                    have H := H1
                    clear H1
                    exact absurd ((Option.some.inj H).trans hrt.out) (by decide)
                · rw [if_neg c48] at H
                  have c48b0 : (t943 == t939) = false := beq_eq_false_iff_ne.mpr c48
                  have c48b1 : (t943 != t939) = true := bne_iff_ne.mpr c48
                  exact absurd ((Option.some.inj H).trans hrt.out) (by decide)
      · replace c12 := Bool.eq_false_iff.mpr c12
        subst c12
        have H1 : (some false) = some r := by rw [if_neg (show ¬ (false = true) by decide)] at H; exact H
        clear H
        have H := H1
        clear H1
        exact absurd ((Option.some.inj H).trans hrt.out) (by decide)
    · replace c9 := Bool.eq_false_iff.mpr c9
      subst c9
      have H1 : (some false) = some r := by rw [if_neg (show ¬ (false = true) by decide)] at H; exact H
      clear H
      have H := H1
      clear H1
      exact absurd ((Option.some.inj H).trans hrt.out) (by decide)

end Go.Proofs.Ytiocgkggegahhaa.P

/- The plain law of FnExactBoxNew: what the printed law computes is true. -/
namespace Go.Proofs.Ytiocgkggegahhaa.P
open Go.RowKit Go.Proofs.YtiocgkggegahhaaUFnExactBoxNew.PrintWords Go.Proofs.YtiocgkggegahhaaUFnExactBoxNew.PrintLast Go.Proofs.YtiocgkggegahhaaUFnExactBoxNew.PrintMore
set_option linter.unusedVariables false
set_option linter.unusedSimpArgs false
/-- A rule's marks, from number b on. -/
def markR (b : Int) : S24 := ⟨Int.tmod b 3 == 0, b + 1, b + 2, b + 3, b + 4, b + 5, b + 6⟩
def marksR (n : Nat) (a : Int) : List S24 := (List.range n).map (fun j : Nat => markR (a + 7 * (j : Int)))
theorem marksR_len (n : Nat) (a : Int) : (marksR n a).length = n := by simp [marksR]
theorem marksR_get {n i : Nat} (a : Int) (h : i < n) : rd_T24 (marksR n a) (i : Int) = markR (a + 7 * i) := by
  rw [rd24_get (by rw [marksR_len]; exact h)]
  simp [marksR]
theorem take24' {l : List S24} {i : Nat} (h : i < l.length) : l.take (i + 1) = l.take i ++ [rd_T24 l (i : Int)] := by
  rw [rd24_get h]
  exact List.take_succ_eq_append_getElem h
theorem wk {b : Int} (h : 0 ≤ b ∧ b ≤ 100000000) : wrap64 (b + 1) = b + 1 := w64 _ (by omega)
theorem markRules_a (l : List S24) (hl : l.length ≤ 2000000) : Ans (fun k => laws_markRulRuleS.f k l 1) (fun r => r = (1 + 7 * (l.length : Int), marksR l.length 1)) := by
  unfold laws_markRulRuleS.f
  have L : ∀ (m i : Nat), i + m = l.length → Ans (fun k => laws_markRulRuleS.l0 k ((marksR l.length 1).take i ++ l.drop i) (1 + 7 * (i : Int)) (i : Int)) (fun r => r = (1 + 7 * (l.length : Int), marksR l.length 1)) := by
    intro m
    induction m with
    | zero =>
      intro i hi
      refine Ans.succ ?_
      unfold laws_markRulRuleS.l0
      have e : (marksR l.length 1).take i ++ l.drop i = marksR l.length 1 := by
        rw [List.take_of_length_le (by rw [marksR_len]; omega), List.drop_eq_nil_of_le (by omega), List.append_nil]
      rw [e]
      refine Ans.neg (by rw [marksR_len]; omega) (Ans.pure ?_)
      have : i = l.length := by omega
      rw [this]
    | succ m ih =>
      intro i hi
      refine Ans.succ ?_
      unfold laws_markRulRuleS.l0
      have hil : i < l.length := by omega
      have hlen : ((marksR l.length 1).take i ++ l.drop i).length = l.length := by
        rw [List.length_append, List.length_take, List.length_drop, marksR_len]; omega
      have e1 : ((i : Int)).toNat = i := by omega
      obtain ⟨b, hb⟩ : ∃ b : Int, b = 1 + 7 * (i : Int) := ⟨_, rfl⟩
      have hA : ((marksR l.length 1).take i).length = i := by rw [List.length_take, marksR_len]; omega
      have hset : ∀ v : S24, ((marksR l.length 1).take i ++ l.drop i).set i v = (marksR l.length 1).take i ++ v :: l.drop (i + 1) := by
        intro v
        rw [List.set_append_right _ _ (by omega), hA, Nat.sub_self, drop24 hil, List.set_cons_zero]
      have hget : ∀ v : S24, rd_T24 ((marksR l.length 1).take i ++ v :: l.drop (i + 1)) (i : Int) = v := by
        intro v
        rw [rd24_get (by rw [List.length_append, hA]; simp)]
        rw [List.getElem_append_right (by omega)]
        simp [hA]
      have hset2 : ∀ u v : S24, ((marksR l.length 1).take i ++ u :: l.drop (i + 1)).set i v = (marksR l.length 1).take i ++ v :: l.drop (i + 1) := by
        intro u v
        rw [List.set_append_right _ _ (by omega), hA, Nat.sub_self, List.set_cons_zero]
      rw [wi i (by omega), ← hb, e1]
      rw [wk (b := b) (by omega), wk (b := b + 1) (by omega), wk (b := b + 1 + 1) (by omega), wk (b := b + 1 + 1 + 1) (by omega), wk (b := b + 1 + 1 + 1 + 1) (by omega), wk (b := b + 1 + 1 + 1 + 1 + 1) (by omega), wk (b := b + 1 + 1 + 1 + 1 + 1 + 1) (by omega)]
      refine Ans.pos (by rw [hlen]; omega) (Ans.pos (by omega) (Ans.bsome ?_))
      rw [hset]
      refine Ans.bsome ?_
      simp only [hget, hset2]
      refine Ans.bsome ?_
      simp only [hget, hset2]
      refine Ans.bsome ?_
      simp only [hget, hset2]
      refine Ans.bsome ?_
      simp only [hget, hset2]
      refine Ans.bsome ?_
      simp only [hget, hset2]
      have hm : (marksR l.length 1).take i ++ (⟨Int.tmod b 3 == 0, b + 1, b + 1 + 1, b + 1 + 1 + 1, b + 1 + 1 + 1 + 1, b + 1 + 1 + 1 + 1 + 1, b + 1 + 1 + 1 + 1 + 1 + 1⟩ : S24) :: l.drop (i + 1) = (marksR l.length 1).take (i + 1) ++ l.drop (i + 1) := by
        rw [take24' (by rw [marksR_len]; exact hil), marksR_get 1 hil, ← hb]
        simp [markR, Int.add_assoc]
      rw [hm]
      have hb' : b + 1 + 1 + 1 + 1 + 1 + 1 + 1 = 1 + 7 * ((i + 1 : Nat) : Int) := by push_cast; omega
      rw [hb']
      exact ih (i + 1) (by omega)
  have := L l.length 0 (by omega)
  simpa using this
theorem heldRules_a (n : Nat) (hn : n ≤ 2000000) : Ans (fun k => laws_heldRulRuleS.f k (marksR n 1) 1) (fun r => r = 1 + 7 * (n : Int)) := by
  unfold laws_heldRulRuleS.f
  have L : ∀ (m i : Nat), i + m = n → Ans (fun k => laws_heldRulRuleS.l0 k (marksR n 1) (1 + 7 * (i : Int)) (i : Int)) (fun r => r = 1 + 7 * (n : Int)) := by
    intro m
    induction m with
    | zero =>
      intro i hi
      refine Ans.succ ?_
      unfold laws_heldRulRuleS.l0
      have : i = n := by omega
      refine Ans.neg (by rw [marksR_len]; omega) (Ans.pure (by rw [this]))
    | succ m ih =>
      intro i hi
      refine Ans.succ ?_
      unfold laws_heldRulRuleS.l0
      obtain ⟨b, hb⟩ : ∃ b : Int, b = 1 + 7 * (i : Int) := ⟨_, rfl⟩
      rw [wi i (by omega), marksR_get 1 (by omega : i < n), ← hb]
      rw [wk (b := b) (by omega), wk (b := b + 1) (by omega), wk (b := b + 1 + 1) (by omega), wk (b := b + 1 + 1 + 1) (by omega), wk (b := b + 1 + 1 + 1 + 1) (by omega), wk (b := b + 1 + 1 + 1 + 1 + 1) (by omega), wk (b := b + 1 + 1 + 1 + 1 + 1 + 1) (by omega)]
      have hb' : b + 1 + 1 + 1 + 1 + 1 + 1 + 1 = 1 + 7 * ((i + 1 : Nat) : Int) := by push_cast; omega
      rw [hb']
      refine Ans.pos (by rw [marksR_len]; omega) (Ans.pos (by omega) (Ans.neg (by simp [markR]) ?_))
      refine Ans.pos (by simp [markR]) (Ans.pos (by simp [markR]; omega) (Ans.pos (by simp [markR]; omega) (Ans.pos (by simp [markR]; omega) (Ans.pos (by simp [markR]; omega) (Ans.pos (by simp [markR]; omega) (ih (i + 1) (by omega)))))))
  exact L n 0 (by omega)
/-- The box of some rules. -/
def boxV (l : List S24) : List S24 := if rulesB l then l else []
theorem boxV_len (l : List S24) : (boxV l).length ≤ 5 := by
  unfold boxV
  split
  · rename_i h
    simp only [rulesB, Bool.and_eq_true, decide_eq_true_eq] at h
    omega
  · simp
theorem implBoxNew_f (l : List S24) : impl_BoxNew.f l = some (boxV l, [], []) := by
  unfold impl_BoxNew.f impl_rulesOk.f boxV impl_RulRule_77.f impl_RulRule_76.f
  rw [Option.bind_some]
  show (if rulesB l = true then _ else _) = _
  cases h : rulesB l
  · simp
  · have : l.length < 1000000000000 := by
      simp only [rulesB, Bool.and_eq_true, decide_eq_true_eq] at h
      omega
    simp [this]
theorem specBoxNew_a (l : List S24) : Ans (fun k => spec_BoxNew.f k l) (fun r => r = (boxV l, [], [])) := by
  unfold spec_BoxNew.f boxV
  refine Ans.bind (l6Rules_a l) ?_
  rintro _ rfl
  cases h : rulesB l
  · exact Ans.neg (by simp) (Ans.pure (by simp))
  · have : l.length ≤ 5 := by
      simp only [rulesB, Bool.and_eq_true, decide_eq_true_eq] at h
      omega
    exact Ans.pos rfl (Ans.bsome (Ans.pos (by simp; omega) (Ans.pure (by simp))))
theorem eqBox_a (l : List S24) (hl : l.length ≤ 1048576) : Ans (fun k => laws_eqBoxBox.f k l [] [] l [] []) (fun r => r = true) := by
  unfold laws_eqBoxBox.f laws_eqMapTab.f laws_eqEndPointS.f laws_eqBoxConnS.f
  refine Ans.bind (eqRulRuleS_a l hl) ?_
  rintro _ rfl
  refine Ans.pos rfl ?_
  have z1 : Ans (fun k => laws_eqEndPointS.l0 k [] [] 0) (fun r => r = true) := by
    refine Ans.succ ?_
    unfold laws_eqEndPointS.l0
    exact Ans.neg (by simp) (Ans.pure rfl)
  have z2 : Ans (fun k => laws_eqBoxConnS.l0 k [] [] 0) (fun r => r = true) := by
    refine Ans.succ ?_
    unfold laws_eqBoxConnS.l0
    exact Ans.neg (by simp) (Ans.pure rfl)
  refine Ans.bind (R := fun r => r = true) (Ans.bind (R := fun r => r = true) (Ans.pos rfl z1) (by rintro _ rfl; exact Ans.pos rfl (Ans.pure rfl))) ?_
  rintro _ rfl
  refine Ans.pos rfl ?_
  refine Ans.bind (R := fun r => r = true) (Ans.pos rfl z2) ?_
  rintro _ rfl
  exact Ans.pos rfl (Ans.pure rfl)
theorem markBox_a (l : List S24) (hl : l.length ≤ 2000000) : Ans (fun k => laws_markBoxBox.f k l [] [] 1) (fun r => r = (1 + 7 * (l.length : Int), marksR l.length 1, [], [])) := by
  unfold laws_markBoxBox.f laws_markMapTab.f laws_markEndPointS.f laws_markBoxConnS.f
  refine Ans.bind (markRules_a l hl) ?_
  rintro _ rfl
  have z1 : ∀ a : Int, Ans (fun k => laws_markEndPointS.l0 k [] a 0) (fun r => r = (a, [])) := by
    intro a
    refine Ans.succ ?_
    unfold laws_markEndPointS.l0
    exact Ans.neg (by simp) (Ans.pure rfl)
  have z2 : ∀ a : Int, Ans (fun k => laws_markBoxConnS.l0 k [] a 0) (fun r => r = (a, [])) := by
    intro a
    refine Ans.succ ?_
    unfold laws_markBoxConnS.l0
    exact Ans.neg (by simp) (Ans.pure rfl)
  dsimp only
  refine Ans.bind (R := fun r => r = (1 + 7 * (l.length : Int), [])) (Ans.bind (z1 _) (by rintro _ rfl; exact Ans.pure rfl)) ?_
  rintro _ rfl
  refine Ans.bind (z2 _) ?_
  rintro _ rfl
  exact Ans.pure rfl
theorem heldBox_a (n : Nat) (hn : n ≤ 2000000) : Ans (fun k => laws_heldBoxBox.f k (marksR n 1) [] [] 1) (fun r => r = 1 + 7 * (n : Int)) := by
  unfold laws_heldBoxBox.f laws_heldMapTab.f laws_heldEndPointS.f laws_heldBoxConnS.f
  refine Ans.bind (heldRules_a n hn) ?_
  rintro _ rfl
  refine Ans.neg (by omega) ?_
  have z1 : ∀ a : Int, Ans (fun k => laws_heldEndPointS.l0 k [] a 0) (fun r => r = a) := by
    intro a
    refine Ans.succ ?_
    unfold laws_heldEndPointS.l0
    exact Ans.neg (by simp) (Ans.pure rfl)
  have z2 : ∀ a : Int, Ans (fun k => laws_heldBoxConnS.l0 k [] a 0) (fun r => r = a) := by
    intro a
    refine Ans.succ ?_
    unfold laws_heldBoxConnS.l0
    exact Ans.neg (by simp) (Ans.pure rfl)
  refine Ans.bind (R := fun r => r = 1 + 7 * (n : Int)) (Ans.bind (z1 _) (by rintro _ rfl; exact Ans.neg (by omega) (Ans.pure rfl))) ?_
  rintro _ rfl
  refine Ans.neg (by omega) ?_
  refine Ans.bind (z2 _) ?_
  rintro _ rfl
  exact Ans.neg (by omega) (Ans.pure rfl)
def laws_FnExactBoxNew.Pure : Prop := ∀ (l : List S80), l.length ≤ maxLen → ∃ k, laws_FnExactBoxNew.f k l = some true
theorem laws_FnExactBoxNew.pure : laws_FnExactBoxNew.Pure := by
  intro l hm
  have hm' : l.length ≤ 9223372036854775807 := Nat.le_trans hm (by decide)
  have A : Ans (fun k => laws_FnExactBoxNew.f k l) (fun r => r = true) := by
    unfold laws_FnExactBoxNew.f laws_szRulRuleS.f
    have e : wrap64 (1048576 - (l.length : Int)) = 1048576 - l.length := w64 _ (by omega)
    rw [e]
    by_cases c : (1048576 - (l.length : Int)) < 0
    · rw [if_pos c]
      exact Ans.bsome (Ans.pos (by omega) (Ans.pure rfl))
    · rw [if_neg c]
      refine Ans.bsome (Ans.neg c ?_)
      have hl : l.length ≤ 1048576 := by omega
      have hL : (l.map convR).length ≤ 1048576 := by rw [List.length_map]; omega
      have hB := boxV_len (l.map convR)
      refine Ans.bind (toRulRuleS_a l hl) ?_
      rintro _ rfl
      refine Ans.bind (specBoxNew_a _) ?_
      rintro _ rfl
      refine Ans.bind (toRulRuleS_a l hl) ?_
      rintro _ rfl
      rw [implBoxNew_f]
      refine Ans.bsome ?_
      dsimp only
      refine Ans.bind (eqBox_a _ (by omega)) ?_
      rintro _ rfl
      refine Ans.pos rfl ?_
      refine Ans.bind (toRulRuleS_a l hl) ?_
      rintro _ rfl
      refine Ans.bind (eqRulRuleS_a _ hL) ?_
      rintro _ rfl
      refine Ans.pos rfl ?_
      refine Ans.bind (markRules_a _ (by omega)) ?_
      rintro _ rfl
      refine Ans.neg (by dsimp only; omega) ?_
      refine Ans.bind (eqBox_a _ (by omega)) ?_
      rintro _ rfl
      refine Ans.succ ?_
      unfold laws_FnExactBoxNew.j0
      refine Ans.neg (by simp) ?_
      refine Ans.bind (markBox_a _ (by omega)) ?_
      rintro _ rfl
      dsimp only
      refine Ans.bind (heldBox_a _ (by omega)) ?_
      rintro _ rfl
      refine Ans.neg (by omega) (Ans.pos rfl ?_)
      refine Ans.bind (toRulRuleS_a l hl) ?_
      rintro _ rfl
      rw [implBoxNew_f]
      refine Ans.bsome ?_
      dsimp only
      refine Ans.bind (eqBox_a _ (by omega)) ?_
      rintro _ rfl
      refine Ans.pos rfl ?_
      refine Ans.bind (heldBox_a _ (by omega)) ?_
      rintro _ rfl
      exact Ans.neg (by omega) (Ans.pos rfl (Ans.pure rfl))
  obtain ⟨k, v, rfl, h⟩ := A.got
  exact ⟨k, h⟩
end Go.Proofs.Ytiocgkggegahhaa.P

/- Arguments that are structs, slices of structs and the like: what is read of them when a law is called. -/
namespace Go.Proofs.Ytiocgkggegahhaa.P
open Go.RowKit Go.Proofs.YtiocgkggegahhaaUFnExactBoxNew.PrintWords Go.Proofs.YtiocgkggegahhaaUFnExactBoxNew.PrintLast Go.Proofs.YtiocgkggegahhaaUFnExactBoxNew.PrintMore
set_option linter.unusedVariables false
set_option linter.unusedSimpArgs false
theorem list_of {α : Type} {n : Nat} {Q : Nat → α → Prop} (h : ∀ i, i < n → ∃ y, Q i y) : ∃ l : List α, l.length = n ∧ ∀ (j : Nat) (p : α), l[j]? = some p → Q j p := by
  induction n with
  | zero => exact ⟨[], rfl, fun j p hj => by simp at hj⟩
  | succ n ih =>
    obtain ⟨l, hl, hq⟩ := ih (fun i hi => h i (by omega))
    obtain ⟨y, hy⟩ := h n (by omega)
    refine ⟨l ++ [y], by simp [hl], fun j p hj => ?_⟩
    by_cases hjn : j < n
    · rw [List.getElem?_append_left (by omega)] at hj
      exact hq j p hj
    · rw [List.getElem?_append_right (by omega)] at hj
      have : j - l.length = 0 := by
        rcases Nat.eq_zero_or_pos (j - l.length) with h0 | h0
        · exact h0
        · rw [List.getElem?_eq_none (by simp; omega)] at hj; cases hj
      rw [this] at hj
      simp at hj
      subst hj
      have : j = n := by omega
      subst this
      exact hy
/-- A type whose values read as elements of the kind d, each of them good. -/
structure Reads {α : Type} (P : Program) (d : Kd α) (good : α → Prop) (e : TypeId) : Prop where
  size : P.cellsOf e = d.sz
  ofTrod : ∀ {H : Type} {enc : TypeId × Value → H} {w : World} {base : Nat} {spare : Nat → Bool} {held : Bool} {n : Nat} {cs : List Value} {x : DataW H × List MemPlace}, DataW.trod enc P w base spare held n e cs = some x → ∃ y, d.K w y cs ∧ good y
section
variable {α : Type} {P : Program} {d : Kd α} {good : α → Prop} {H : Type} {enc : TypeId × Value → H} {w : World} {base : Nat} {spare : Nat → Bool} {held : Bool}
theorem row_of {t e : TypeId} {fuel : Nat} {a : Option Addr} {len cap : Nat} {x : DataW H × List MemPlace} (ht : P.underlying t = some (.slice e)) (R : Reads P d good e) (h : DataW.trod enc P w base spare held fuel t [.slice a len cap] = some x) :
    ∃ l : List α, l.length = len ∧ Kd.C d w a l.length l ∧ l.length ≤ cap ∧ l.length ≤ maxLen ∧ ∀ (j : Nat) (p : α), l[j]? = some p → good p := by
  rcases Deep.open_slice ht h with ⟨hcs, _⟩ | ⟨ad, len', cap', m, n, D, Pl, hcs, hb, hl, hm, hmm, hx, hel⟩
  · simp at hcs
    obtain ⟨rfl, rfl, rfl⟩ := hcs
    exact ⟨[], rfl, Kd.C_nil d w, Nat.le_refl _, by simp, fun j p hj => by simp at hj⟩
  · simp at hcs
    obtain ⟨rfl, rfl, rfl⟩ := hcs
    have hlm : len ≤ m := by rw [hmm]; split <;> omega
    obtain ⟨l, h1, h2⟩ := list_of (n := len) (Q := fun i y => good y ∧ ∃ c, c.length = d.sz ∧ d.K w y c ∧ ∀ q u, c[q]? = some u → w.cell? (ad.add (i * d.sz + q)) = some u) (fun i hi => by
      obtain ⟨cs, hc, htr⟩ := hel i (by omega)
      obtain ⟨y, hy, hg⟩ := R.ofTrod htr
      rw [R.size] at hc
      refine ⟨y, hg, cs, ?_, hy, ?_⟩
      · exact (World.cells?_some hc).2.1
      · intro q u hq
        have hlen := (World.cells?_some hc).2.1
        have hlt : q < d.sz := by rw [← hlen]; exact (List.getElem?_eq_some_iff.1 hq).1
        have hcell := (World.cells?_some hc).2.2 q hlt
        rw [hq] at hcell
        rw [Deep.add_add] at hcell
        exact hcell)
    have hml : (maxLen : Nat) ≤ 9223372036854775807 := by decide
    refine ⟨l, h1, ⟨rfl, by omega, fun _ => ⟨ad, rfl, fun j p hj => (h2 j p hj).2⟩⟩, by omega, by omega, fun j p hj => (h2 j p hj).1⟩
theorem row_any {t e : TypeId} {fuel : Nat} {v : Value} {x : DataW H × List MemPlace} (ht : P.underlying t = some (.slice e)) (R : Reads P d good e) (h : DataW.trod enc P w base spare held fuel t [v] = some x) :
    ∃ (a : Option Addr) (cap : Nat) (l : List α), v = .slice a l.length cap ∧ Kd.C d w a l.length l ∧ l.length ≤ cap ∧ l.length ≤ maxLen ∧ ∀ (j : Nat) (p : α), l[j]? = some p → good p := by
  have hv : ∃ a len cap, v = .slice a len cap := by
    rcases Deep.open_slice ht h with ⟨hcs, _⟩ | ⟨ad, len', cap', m, n, D, Pl, hcs, _⟩
    · exact ⟨none, 0, 0, by simpa using hcs⟩
    · exact ⟨some ad, len', cap', by simpa using hcs⟩
  obtain ⟨a, len, cap, rfl⟩ := hv
  obtain ⟨l, rfl, h1, h2, h3, h4⟩ := row_of ht R h
  exact ⟨a, cap, l, rfl, h1, h2, h3, h4⟩
end
/-- One field of a record, read. -/
theorem field_at {H : Type} {enc : TypeId × Value → H} {P : Program} {w : World} {base : Nat} {spare : Nat → Bool} {held : Bool} {t : TypeId} {fs : Array Field} {fuel : Nat} {cs : List Value} {x : DataW H × List MemPlace} (ht : P.underlying t = some (.struct fs)) (h : DataW.trod enc P w base spare held fuel t cs = some x) :
    cs.length = P.cellsOf t ∧ ∃ n, ∀ (i : Nat) (f : Field), fs[i]? = some f → ∃ z, DataW.trod enc P w base spare held n f.type ((cs.drop f.offset).take (P.cellsOf f.type)) = some z := by
  obtain ⟨xs, n, _, _, hl, hxs, hf⟩ := DataW.trod_struct ht h
  refine ⟨hl, n, fun i f hi => ?_⟩
  have hlt : i < xs.length := by
    rw [hxs]
    exact (Array.getElem?_eq_some_iff.1 hi).1
  exact ⟨_, (hf i f hi).trans (List.getElem?_eq_getElem hlt)⟩
theorem arr1 {α : Type} {c : Array α} (h : c.size = 1) : ∃ u, c = #[u] := by
  obtain ⟨l⟩ := c
  match l, h with
  | [u], _ => exact ⟨u, rfl⟩
theorem len2 {α : Type} {cs : List α} (h : cs.length = 2) : ∃ u v, cs = [u, v] := by
  match cs, h with
  | [u, v], _ => exact ⟨u, v, rfl⟩
theorem len7 {α : Type} {cs : List α} (h : cs.length = 7) : ∃ u0 u1 u2 u3 u4 u5 u6, cs = [u0, u1, u2, u3, u4, u5, u6] := by
  match cs, h with
  | [u0, u1, u2, u3, u4, u5, u6], _ => exact ⟨u0, u1, u2, u3, u4, u5, u6, rfl⟩
def goodI (n : Int) : Prop := (Lit.int .i64 n).wf = true
theorem take_one {cs : List Value} {i : Nat} {v : Value} (h : (cs.drop i).take 1 = [v]) : cs[i]? = some v := by
  have h1 : ((cs.drop i).take 1)[0]? = some v := by rw [h]; rfl
  rw [List.getElem?_take, if_pos (by omega), List.getElem?_drop] at h1
  simpa using h1
theorem reads_end : Reads Try.prog k34 (fun x => goodI x.f0 ∧ goodI x.f1) 34 := by
  refine ⟨by kernel_rfl, @fun H enc w base spare held fuel cs x h => ?_⟩
  obtain ⟨hl, n, hf⟩ := field_at Try.underlying34 h
  have c2 : Try.prog.cellsOf 34 = 2 := by kernel_rfl
  have c1 : Try.prog.cellsOf 3 = 1 := by kernel_rfl
  rw [c2] at hl
  obtain ⟨z0, h0⟩ := hf 0 _ rfl
  obtain ⟨z1, h1⟩ := hf 1 _ rfl
  replace h0 : DataW.trod _ _ _ _ _ _ n 3 ((_ : List Value).drop 0 |>.take (Try.prog.cellsOf 3)) = some z0 := h0
  replace h1 : DataW.trod _ _ _ _ _ _ n 3 ((_ : List Value).drop 1 |>.take (Try.prog.cellsOf 3)) = some z1 := h1
  rw [c1] at h0 h1
  obtain ⟨a, ha, _, wa⟩ := DataW.trod_int Try.underlying3 h0
  obtain ⟨b, hb, _, wb⟩ := DataW.trod_int Try.underlying3 h1
  obtain ⟨u, v, rfl⟩ : ∃ u v, cs = [u, v] := len2 hl
  simp at ha hb
  subst ha; subst hb
  exact ⟨⟨a, b⟩, k34_mk _ ⟨a, b⟩, wa, wb⟩
theorem reads_rule : Reads Try.prog k80 (fun _ => True) 80 := by
  refine ⟨by kernel_rfl, @fun H enc w base spare held fuel cs x h => ?_⟩
  obtain ⟨hl, n, hf⟩ := field_at Try.underlying80 h
  have c7 : Try.prog.cellsOf 80 = 7 := by kernel_rfl
  have c1 : Try.prog.cellsOf 3 = 1 := by kernel_rfl
  have c4 : Try.prog.cellsOf 4 = 1 := by kernel_rfl
  rw [c7] at hl
  obtain ⟨z0, h0⟩ := hf 0 _ rfl
  obtain ⟨z1, h1⟩ := hf 1 _ rfl
  obtain ⟨z2, h2⟩ := hf 2 _ rfl
  obtain ⟨z3, h3⟩ := hf 3 _ rfl
  obtain ⟨z4, h4⟩ := hf 4 _ rfl
  obtain ⟨z5, h5⟩ := hf 5 _ rfl
  obtain ⟨z6, h6⟩ := hf 6 _ rfl
  replace h0 : DataW.trod _ _ _ _ _ _ n 4 ((_ : List Value).drop 0 |>.take (Try.prog.cellsOf 4)) = some z0 := h0
  replace h1 : DataW.trod _ _ _ _ _ _ n 3 ((_ : List Value).drop 1 |>.take (Try.prog.cellsOf 3)) = some z1 := h1
  replace h2 : DataW.trod _ _ _ _ _ _ n 3 ((_ : List Value).drop 2 |>.take (Try.prog.cellsOf 3)) = some z2 := h2
  replace h3 : DataW.trod _ _ _ _ _ _ n 3 ((_ : List Value).drop 3 |>.take (Try.prog.cellsOf 3)) = some z3 := h3
  replace h4 : DataW.trod _ _ _ _ _ _ n 3 ((_ : List Value).drop 4 |>.take (Try.prog.cellsOf 3)) = some z4 := h4
  replace h5 : DataW.trod _ _ _ _ _ _ n 3 ((_ : List Value).drop 5 |>.take (Try.prog.cellsOf 3)) = some z5 := h5
  replace h6 : DataW.trod _ _ _ _ _ _ n 3 ((_ : List Value).drop 6 |>.take (Try.prog.cellsOf 3)) = some z6 := h6
  rw [c4] at h0
  rw [c1] at h1 h2 h3 h4 h5 h6
  obtain ⟨b, hb, _⟩ := DataW.trod_bool Try.underlying4 h0
  obtain ⟨a1, ha1, _⟩ := DataW.trod_int Try.underlying3 h1
  obtain ⟨a2, ha2, _⟩ := DataW.trod_int Try.underlying3 h2
  obtain ⟨a3, ha3, _⟩ := DataW.trod_int Try.underlying3 h3
  obtain ⟨a4, ha4, _⟩ := DataW.trod_int Try.underlying3 h4
  obtain ⟨a5, ha5, _⟩ := DataW.trod_int Try.underlying3 h5
  obtain ⟨a6, ha6, _⟩ := DataW.trod_int Try.underlying3 h6
  obtain ⟨u0, u1, u2, u3, u4, u5, u6, rfl⟩ : ∃ u0 u1 u2 u3 u4 u5 u6, cs = [u0, u1, u2, u3, u4, u5, u6] := len7 hl
  simp at hb ha1 ha2 ha3 ha4 ha5 ha6
  subst hb; subst ha1; subst ha2; subst ha3; subst ha4; subst ha5; subst ha6
  exact ⟨⟨b, a1, a2, a3, a4, a5, a6⟩, k80_mk _ ⟨b, a1, a2, a3, a4, a5, a6⟩, trivial⟩
end Go.Proofs.Ytiocgkggegahhaa.P
