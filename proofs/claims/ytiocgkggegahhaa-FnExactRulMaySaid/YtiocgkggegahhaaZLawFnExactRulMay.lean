/- The law FnExactRulMay: whatever rules and ends it is handed within the model's bounds, it returns true, and what it was handed reads as it did.
   Conditions: none beyond those of the given statement. -/
import Derived.Test.YtiocgkggegahhaaRows
import Derived.WalkKit
import Derived.ProofKit
import Derived.OpenShut
import Derived.ShutString
import Derived.ChangeOld
import Derived.Below
import Derived.SizedLaws
import Derived.Test.YtiocgkggegahhaaGLawFnExactRulMayx5
namespace Go.Proofs.Ytiocgkggegahhaa.fnExactRulMay
open Go.ChangeShapes Go.WideShapes Go.ChangeAt Go.RowKit Go.Proofs.YtiocgkggegahhaaUFnExactRulMay.PrintWords
open Go.ChangeMaps (open_string shut_string)
set_option linter.unusedVariables false
theorem own : ownKnob Try.prog.godebug = none := by kernel_rfl
theorem laidOut : laidOutB Try.prog = true := by kernel_rfl
set_option maxRecDepth 100000 in
theorem lifted (os : Os) (started : os.Started) (H : Type) (enc : TypeId × Value → H) :
    ReturnsInHanded {} Try.checked os 4 .any (Rows.fnExactRulMaySpec.pre6 enc Try.prog Try.f4 Rows.fnExactRulMayRow.domain false) (Rows.fnExactRulMaySpec.post enc Try.prog Try.f4 false true false false) := by
  refine returnsInHanded_of_change_sized (C := Try.checked) own started (by kernel_rfl) Try.func4
    (ChangeSpec.witness6 (enc := enc) (C := Try.checked) false ⟨#[], #[.slice none 0 0, .agg #[.int .i64 0, .int .i64 0], .agg #[.int .i64 0, .int .i64 0]], []⟩ 8 (by kernel_rfl) (by kernel_rfl) (by kernel_rfl) (by kernel_rfl)) ?_
  intro W base args ds gs before hval0 hW hcnd hsz0 _
  have hval : ∀ (j : Nat) t v, Try.f4.params[j]? = some t → args[j]? = some v → Value.okWide Try.prog W .any base t v := hval0
  have hW' := hW
  obtain ⟨p, q, hA0, hV, rfl, hfz, hnd⟩ := hW
  have hA : DataW.TrodAll enc Try.prog W 0 (fun _ => true) true Try.f4.params.toList args.toList ds p := hA0
  rw [Try.params4] at hA hval
  obtain ⟨v0, vs0, d0, ds0, p0, q0, hargs, rfl, rfl, h0, r0⟩ := trodAll_cons hA
  obtain ⟨v1, vs1, d1, ds1, p1, q1, rfl, rfl, rfl, h1, r1⟩ := trodAll_cons r0
  obtain ⟨v2, vs2, d2, ds2, p2, q2, rfl, rfl, rfl, h2, r2⟩ := trodAll_cons r1
  obtain ⟨rfl, rfl, rfl⟩ := trodAll_nil r2
  obtain rfl : args = #[v0, v1, v2] := by cases args; simp_all
  obtain ⟨rfl, rfl⟩ := trodVars_none hV
  obtain ⟨a0, len0, cap0, rfl⟩ := okWide_slice Try.underlying33 (hval 0 33 v0 rfl rfl)
  obtain ⟨c1, rfl, hc1⟩ := okWide_struct Try.underlying34 (hval 1 34 v1 rfl rfl)
  obtain ⟨c2, rfl, hc2⟩ := okWide_struct Try.underlying34 (hval 2 34 v2 rfl rfl)
  have k0 := h0
  have k1 := h1
  have k2 := h2
  have lt0 : ∀ x ∈ p0, x.block < W.heap.size := by obtain ⟨m, hm⟩ := k0; exact DataW.trod_lt m _ _ _ hm
  have lt1 : ∀ x ∈ p1, x.block < W.heap.size := by obtain ⟨m, hm⟩ := k1; exact DataW.trod_lt m _ _ _ hm
  have lt2 : ∀ x ∈ p2, x.block < W.heap.size := by obtain ⟨m, hm⟩ := k2; exact DataW.trod_lt m _ _ _ hm
  obtain ⟨f0, h0⟩ := h0
  obtain ⟨l, rfl, hC, hlc, hlm, _⟩ := P.row_of Try.underlying33 P.reads_rule h0
  obtain ⟨f1, h1⟩ := h1
  obtain ⟨y1, hy1, _⟩ := P.reads_end.ofTrod h1
  obtain ⟨f2, h2⟩ := h2
  obtain ⟨y2, hy2, _⟩ := P.reads_end.ofTrod h2
  have e1 : c1 = #[.int .i64 y1.f0, .int .i64 y1.f1] := by
    have z := P.k34_open hy1
    exact Array.ext' (by simpa [Value.cells] using z)
  have e2 : c2 = #[.int .i64 y2.f0, .int .i64 y2.f1] := by
    have z := P.k34_open hy2
    exact Array.ext' (by simpa [Value.cells] using z)
  subst e1
  subst e2
  obtain ⟨k, hk⟩ := P.laws_FnExactRulMay.pure l y1.f0 y1.f1 y2.f0 y2.f1 hlm
  clear hA0 hval0 hsz0
  refine (P.laws_FnExactRulMay.calls k a0 cap0 l y1.f0 y1.f1 y2.f0 y2.f1 true W hC hlc hk ⟨rfl⟩).mono fun e W' ⟨he, bel⟩ => ?_
  subst he
  exact ⟨_, rfl, _, _, _, [], _, [], hW', trodAll_mk1 (shut_bool Try.underlying4 _), (trodAll_cons_mk (Below.trod laidOut (by kernel_rfl) (of_decide_eq_true (by kernel_rfl)) k0 bel lt0) (trodAll_cons_mk (Below.trod laidOut (by kernel_rfl) (of_decide_eq_true (by kernel_rfl)) k1 bel lt1) (trodAll_cons_mk (Below.trod laidOut (by kernel_rfl) (of_decide_eq_true (by kernel_rfl)) k2 bel lt2) trodAll_mk0))), rfl, bel.frame _, fun h => by cases h⟩
theorem over : Rows.fnExactRulMayRow.holds Try.pinned (OpenSpec.ofChange Rows.fnExactRulMaySpec) :=
  OpenClaim.holds_of_wide 4 Try.f4 rfl rfl rfl rfl rfl rfl rfl ⟨rfl, rfl, rfl, rfl, rfl⟩ rfl rfl rfl rfl rfl (by kernel_rfl) Try.func4 (by kernel_rfl)
    (of_decide_eq_true (by kernel_rfl)) (by unfold Func.isWrapper; first | (rw [if_pos (by decide +kernel)]; kernel_rfl) | (rw [if_neg (by decide +kernel)]; exact ⟨rfl, rfl⟩))
    (fun os started H enc _ => lifted os started H enc)
theorem proved : Rows.FnExactRulMaySaid := over
#print axioms proved
end Go.Proofs.Ytiocgkggegahhaa.fnExactRulMay
namespace Go.Proofs.Ytiocgkggegahhaa
/-- The row, under a short name, for the claim. -/
theorem fnExactRulMay_holds : Rows.FnExactRulMaySaid := fnExactRulMay.proved
end Go.Proofs.Ytiocgkggegahhaa
