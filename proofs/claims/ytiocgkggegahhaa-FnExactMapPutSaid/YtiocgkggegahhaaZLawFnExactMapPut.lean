/- The law FnExactMapPut: whatever table and end it is handed within the model's bounds, it returns true, and what it was handed reads as it did.
   Conditions: none beyond those of the given statement. -/
import Derived.Test.YtiocgkggegahhaaRows
import Derived.WalkKit
import Derived.ProofKit
import Derived.OpenShut
import Derived.ShutString
import Derived.ChangeOld
import Derived.Below
import Derived.SizedLaws
import Derived.Test.YtiocgkggegahhaaGLawFnExactMapPutx9
namespace Go.Proofs.Ytiocgkggegahhaa.fnExactMapPut
open Go.ChangeShapes Go.WideShapes Go.ChangeAt Go.RowKit Go.Proofs.YtiocgkggegahhaaUFnExactMapPut.PrintWords
open Go.ChangeMaps (open_string shut_string)
set_option linter.unusedVariables false
theorem own : ownKnob Try.prog.godebug = none := by kernel_rfl
theorem laidOut : laidOutB Try.prog = true := by kernel_rfl
set_option maxHeartbeats 4000000 in
set_option maxRecDepth 100000 in
theorem lifted (os : Os) (started : os.Started) (H : Type) (enc : TypeId × Value → H) :
    ReturnsInHanded {} Try.checked os 8 .any (Rows.fnExactMapPutSpec.pre6 enc Try.prog Try.f8 Rows.fnExactMapPutRow.domain false) (Rows.fnExactMapPutSpec.post enc Try.prog Try.f8 false true false false) := by
  refine returnsInHanded_of_change_sized (C := Try.checked) own started (by kernel_rfl) Try.func8
    (ChangeSpec.witness6 (enc := enc) (C := Try.checked) false ⟨#[], #[.agg #[.slice none 0 0], .agg #[.int .i64 0, .int .i64 0]], []⟩ 8 (by kernel_rfl) (by kernel_rfl) (by kernel_rfl) (by kernel_rfl)) ?_
  intro W base args ds gs before hval0 hW hcnd hsz0 _
  have hval : ∀ (j : Nat) t v, Try.f8.params[j]? = some t → args[j]? = some v → Value.okWide Try.prog W .any base t v := hval0
  have hW' := hW
  obtain ⟨p, q, hA0, hV, rfl, hfz, hnd⟩ := hW
  have hA : DataW.TrodAll enc Try.prog W 0 (fun _ => true) true Try.f8.params.toList args.toList ds p := hA0
  rw [Try.params8] at hA hval
  obtain ⟨v0, vs0, d0, ds0, p0, q0, hargs, rfl, rfl, h0, r0⟩ := trodAll_cons hA
  obtain ⟨v1, vs1, d1, ds1, p1, q1, rfl, rfl, rfl, h1, r1⟩ := trodAll_cons r0
  obtain ⟨rfl, rfl, rfl⟩ := trodAll_nil r1
  obtain rfl : args = #[v0, v1] := by cases args; simp_all
  obtain ⟨rfl, rfl⟩ := trodVars_none hV
  obtain ⟨c0, rfl, hc0⟩ := okWide_struct Try.underlying55 (hval 0 55 v0 rfl rfl)
  obtain ⟨c1, rfl, hc1⟩ := okWide_struct Try.underlying34 (hval 1 34 v1 rfl rfl)
  have k0 := h0
  have k1 := h1
  have lt0 : ∀ x ∈ p0, x.block < W.heap.size := by obtain ⟨m, hm⟩ := k0; exact DataW.trod_lt m _ _ _ hm
  have lt1 : ∀ x ∈ p1, x.block < W.heap.size := by obtain ⟨m, hm⟩ := k1; exact DataW.trod_lt m _ _ _ hm
  obtain ⟨f0, h0⟩ := h0
  obtain ⟨hl0, n0, hf0⟩ := P.field_at Try.underlying55 h0
  obtain ⟨z0, g0⟩ := hf0 0 _ rfl
  have s55 : Try.prog.cellsOf 55 = 1 := by kernel_rfl
  have s53 : Try.prog.cellsOf 53 = 1 := by kernel_rfl
  replace g0 : DataW.trod enc Try.prog W 0 (fun _ => true) true n0 53 ((c0.toList.drop 0).take (Try.prog.cellsOf 53)) = some z0 := g0
  rw [s53] at g0
  rw [s55] at hc0
  obtain ⟨u0, rfl⟩ := P.arr1 hc0
  replace g0 : DataW.trod enc Try.prog W 0 (fun _ => true) true n0 53 [u0] = some z0 := g0
  obtain ⟨a0, cap0, l, rfl, hC, hlc, hlm, _⟩ := P.row_any Try.underlying53 P.reads_end g0
  obtain ⟨f1, h1⟩ := h1
  obtain ⟨y1, hy1, _⟩ := P.reads_end.ofTrod h1
  have e1 : c1 = #[.int .i64 y1.f0, .int .i64 y1.f1] := by
    have z := P.k34_open hy1
    exact Array.ext' (by simpa [Value.cells] using z)
  subst e1
  obtain ⟨k, hk⟩ := P.laws_FnExactMapPut.pure l y1.f0 y1.f1 hlm
  clear hA0 hval0 hsz0
  refine (P.laws_FnExactMapPut.calls k a0 cap0 l y1.f0 y1.f1 true W hC hlc hk ⟨rfl⟩).mono fun e W' ⟨he, bel⟩ => ?_
  subst he
  exact ⟨_, rfl, _, _, _, [], _, [], hW', trodAll_mk1 (shut_bool Try.underlying4 _), (trodAll_cons_mk (Below.trod laidOut (by kernel_rfl) (of_decide_eq_true (by kernel_rfl)) k0 bel lt0) (trodAll_cons_mk (Below.trod laidOut (by kernel_rfl) (of_decide_eq_true (by kernel_rfl)) k1 bel lt1) trodAll_mk0)), rfl, bel.frame _, fun h => by cases h⟩
theorem over : Rows.fnExactMapPutRow.holds Try.pinned (OpenSpec.ofChange Rows.fnExactMapPutSpec) :=
  OpenClaim.holds_of_wide 8 Try.f8 rfl rfl rfl rfl rfl rfl rfl ⟨rfl, rfl, rfl, rfl, rfl⟩ rfl rfl rfl rfl rfl (by kernel_rfl) Try.func8 (by kernel_rfl)
    (of_decide_eq_true (by kernel_rfl)) (by unfold Func.isWrapper; first | (rw [if_pos (by decide +kernel)]; kernel_rfl) | (rw [if_neg (by decide +kernel)]; exact ⟨rfl, rfl⟩))
    (fun os started H enc _ => lifted os started H enc)
theorem proved : Rows.FnExactMapPutSaid := over
#print axioms proved
end Go.Proofs.Ytiocgkggegahhaa.fnExactMapPut
namespace Go.Proofs.Ytiocgkggegahhaa
/-- The row, under a short name, for the claim. -/
theorem fnExactMapPut_holds : Rows.FnExactMapPutSaid := fnExactMapPut.proved
end Go.Proofs.Ytiocgkggegahhaa
