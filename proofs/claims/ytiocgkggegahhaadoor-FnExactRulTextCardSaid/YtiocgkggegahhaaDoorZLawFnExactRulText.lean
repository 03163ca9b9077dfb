/- The law FnExactRulText: whatever rule it is handed, it returns true, and what it was handed reads as it did.
   Conditions: none beyond those of the given statement (its listed variables hold what start-up lays; the card ties that). -/
import Derived.Test.YtiocgkggegahhaaDoorRows
import Derived.Test.YtiocgkggegahhaaDoorTie
import Derived.Test.YtiocgkggegahhaaDoorCards
import Derived.SevenTiedAt
import Derived.WalkKit
import Derived.ProofKit
import Derived.OpenShut
import Derived.ShutString
import Derived.ChangeOld
import Derived.Below
import Derived.SizedLaws
import Derived.Test.YtiocgkggegahhaaDoorGLawFnExactRulTextx2
namespace Go.Proofs.YtiocgkggegahhaaDoor.fnExactRulText
open Go.ChangeShapes Go.WideShapes Go.ChangeAt Go.RowKit
open Go.ChangeMaps (open_string shut_string)
set_option linter.unusedVariables false
theorem own : ownKnob Tryd.prog.godebug = none := by kernel_rfl
theorem laidOut : laidOutB Tryd.prog = true := by kernel_rfl
theorem field_at {H : Type} {enc : TypeId × Value → H} {P : Program} {w : World} {base : Nat} {spare : Nat → Bool} {held : Bool} {t : TypeId} {fs : Array Field} {fuel : Nat} {cs : List Value} {x : DataW H × List MemPlace} (ht : P.underlying t = some (.struct fs)) (h : DataW.trod enc P w base spare held fuel t cs = some x) :
    cs.length = P.cellsOf t ∧ ∃ n, ∀ (i : Nat) (f : Field), fs[i]? = some f → ∃ z, DataW.trod enc P w base spare held n f.type ((cs.drop f.offset).take (P.cellsOf f.type)) = some z := by
  obtain ⟨xs, n, _, _, hl, hxs, hf⟩ := DataW.trod_struct ht h
  refine ⟨hl, n, fun i f hi => ?_⟩
  have hlt : i < xs.length := by
    rw [hxs]
    exact (Array.getElem?_eq_some_iff.1 hi).1
  exact ⟨_, (hf i f hi).trans (List.getElem?_eq_getElem hlt)⟩
theorem len7 {α : Type} {cs : List α} (h : cs.length = 7) : ∃ u0 u1 u2 u3 u4 u5 u6, cs = [u0, u1, u2, u3, u4, u5, u6] := by
  match cs, h with
  | [u0, u1, u2, u3, u4, u5, u6], _ => exact ⟨u0, u1, u2, u3, u4, u5, u6, rfl⟩
theorem reads_rule {H : Type} {enc : TypeId × Value → H} {w : World} {base : Nat} {spare : Nat → Bool} {held : Bool} {fuel : Nat} {cs : List Value} {x : DataW H × List MemPlace} (h : DataW.trod enc Tryd.prog w base spare held fuel 23 cs = some x) :
    ∃ (b : Bool) (n1 n2 n3 n4 n5 n6 : Int), cs = [.bool b, .int .i64 n1, .int .i64 n2, .int .i64 n3, .int .i64 n4, .int .i64 n5, .int .i64 n6] := by
  obtain ⟨hl, n, hf⟩ := field_at Tryd.underlying23 h
  have c7 : Tryd.prog.cellsOf 23 = 7 := by kernel_rfl
  have c1 : Tryd.prog.cellsOf 3 = 1 := by kernel_rfl
  have c4 : Tryd.prog.cellsOf 4 = 1 := by kernel_rfl
  rw [c7] at hl
  obtain ⟨z0, h0⟩ := hf 0 _ rfl
  obtain ⟨z1, h1⟩ := hf 1 _ rfl
  obtain ⟨z2, h2⟩ := hf 2 _ rfl
  obtain ⟨z3, h3⟩ := hf 3 _ rfl
  obtain ⟨z4, h4⟩ := hf 4 _ rfl
  obtain ⟨z5, h5⟩ := hf 5 _ rfl
  obtain ⟨z6, h6⟩ := hf 6 _ rfl
  replace h0 : DataW.trod _ _ _ _ _ _ n 4 ((_ : List Value).drop 0 |>.take (Tryd.prog.cellsOf 4)) = some z0 := h0
  replace h1 : DataW.trod _ _ _ _ _ _ n 3 ((_ : List Value).drop 1 |>.take (Tryd.prog.cellsOf 3)) = some z1 := h1
  replace h2 : DataW.trod _ _ _ _ _ _ n 3 ((_ : List Value).drop 2 |>.take (Tryd.prog.cellsOf 3)) = some z2 := h2
  replace h3 : DataW.trod _ _ _ _ _ _ n 3 ((_ : List Value).drop 3 |>.take (Tryd.prog.cellsOf 3)) = some z3 := h3
  replace h4 : DataW.trod _ _ _ _ _ _ n 3 ((_ : List Value).drop 4 |>.take (Tryd.prog.cellsOf 3)) = some z4 := h4
  replace h5 : DataW.trod _ _ _ _ _ _ n 3 ((_ : List Value).drop 5 |>.take (Tryd.prog.cellsOf 3)) = some z5 := h5
  replace h6 : DataW.trod _ _ _ _ _ _ n 3 ((_ : List Value).drop 6 |>.take (Tryd.prog.cellsOf 3)) = some z6 := h6
  rw [c4] at h0
  rw [c1] at h1 h2 h3 h4 h5 h6
  obtain ⟨b, hb, _⟩ := DataW.trod_bool Tryd.underlying4 h0
  obtain ⟨a1, ha1, _⟩ := DataW.trod_int Tryd.underlying3 h1
  obtain ⟨a2, ha2, _⟩ := DataW.trod_int Tryd.underlying3 h2
  obtain ⟨a3, ha3, _⟩ := DataW.trod_int Tryd.underlying3 h3
  obtain ⟨a4, ha4, _⟩ := DataW.trod_int Tryd.underlying3 h4
  obtain ⟨a5, ha5, _⟩ := DataW.trod_int Tryd.underlying3 h5
  obtain ⟨a6, ha6, _⟩ := DataW.trod_int Tryd.underlying3 h6
  clear h0 h1 h2 h3 h4 h5 h6 hf
  obtain ⟨u0, u1, u2, u3, u4, u5, u6, rfl⟩ := len7 hl
  simp at hb ha1 ha2 ha3 ha4 ha5 ha6
  exact ⟨b, a1, a2, a3, a4, a5, a6, by rw [hb, ha1, ha2, ha3, ha4, ha5, ha6]⟩
set_option maxRecDepth 100000 in
theorem lifted (os : Os) (started : os.Started) (H : Type) (enc : TypeId × Value → H) (F : Stop.Interp) :
    ReturnsInHanded {} Tryd.checked os 3 .any ((OpenSpec.ofChange Rows.fnExactRulTextSpec).preRow enc Tryd.prog Tryd.f3 Rows.fnExactRulTextRow.domain false Rows.fnExactRulTextRow.laid) (((OpenSpec.ofChange Rows.fnExactRulTextSpec).at F).post enc Tryd.prog Tryd.f3 false true false false) := by
  obtain ⟨x, hx⟩ : ∃ x, DataW.whole enc Tryd.prog ((World.laidAll Tryd.prog os Rows.fnExactRulTextRow.laid).forCall (fun _ _ => 0) ⟨#[], #[.agg #[.bool false, .int .i64 0, .int .i64 0, .int .i64 0, .int .i64 0, .int .i64 0, .int .i64 0]], []⟩).memory Tryd.f3.params.toList Rows.fnExactRulTextSpec.vars false (#[.agg #[.bool false, .int .i64 0, .int .i64 0, .int .i64 0, .int .i64 0, .int .i64 0, .int .i64 0]] : Array Value).toList 8 = some x := Option.isSome_iff_exists.mp (by kernel_rfl)
  refine returnsInHanded_of_row (C := Tryd.checked) (s := OpenSpec.ofChange Rows.fnExactRulTextSpec) (F := F) own started (by kernel_rfl) Tryd.func3
    (P.witness_laid #[.agg #[.bool false, .int .i64 0, .int .i64 0, .int .i64 0, .int .i64 0, .int .i64 0, .int .i64 0]] (World.shaped_of_ZipB (by kernel_rfl) (by kernel_rfl)) (by kernel_rfl)
      (OpenSpec.preRow_of_cond 8 hx rfl (fun k hk => by cases hk) (by kernel_rfl) (by rw [MakeChecks.laidMetH_plain _ _ _ (by kernel_rfl)]; exact laidMet_laidAll _ (by kernel_rfl) (by kernel_rfl)))) ?_
  intro W base args ds gs before hval0 hW hcnd _ hsz0 hL hSh _
  have hE := P.envT_of hL (by kernel_rfl)
  have hval : ∀ (j : Nat) t v, Tryd.f3.params[j]? = some t → args[j]? = some v → Value.okWide Tryd.prog W .any base t v := hval0
  have hW' := hW
  obtain ⟨p, q, hA0, hV, rfl, hfz, hnd⟩ := hW
  have hA : DataW.TrodAll enc Tryd.prog W 0 (fun _ => true) true Tryd.f3.params.toList args.toList ds p := hA0
  rw [Tryd.params3] at hA hval
  obtain ⟨v0, vs0, d0, ds0, p0, q0, hargs, rfl, rfl, h0, r0⟩ := trodAll_cons hA
  obtain ⟨rfl, rfl, rfl⟩ := trodAll_nil r0
  obtain rfl : args = #[v0] := by cases args; simp_all
  obtain ⟨rfl, rfl⟩ := trodVars_none hV
  obtain ⟨c1, rfl, hc1⟩ := okWide_struct Tryd.underlying23 (hval 0 23 v0 rfl rfl)
  have k0 := h0
  have lt0 : ∀ x ∈ p0, x.block < W.heap.size := by obtain ⟨m, hm⟩ := k0; exact DataW.trod_lt m _ _ _ hm
  obtain ⟨f1, h1⟩ := h0
  obtain ⟨b, n1, n2, n3, n4, n5, n6, e1⟩ := reads_rule h1
  have e2 : c1 = #[.bool b, .int .i64 n1, .int .i64 n2, .int .i64 n3, .int .i64 n4, .int .i64 n5, .int .i64 n6] := Array.ext' (by simpa [Value.cells] using e1)
  subst e2
  obtain ⟨k, hk⟩ := P.laws_FnExactRulText.pure b n1 n2 n3 n4 n5 n6
  clear hA0 hval0 hsz0
  refine (P.laws_FnExactRulText.calls k b n1 n2 n3 n4 n5 n6 true W hk ⟨rfl⟩ hE).mono fun e W' ⟨he, bel⟩ => ?_
  subst he
  exact ⟨_, rfl, _, _, _, [], _, [], hW', trodAll_mk1 (shut_bool Tryd.underlying4 _), (trodAll_cons_mk (Below.trod laidOut (by kernel_rfl) (of_decide_eq_true (by kernel_rfl)) k0 bel lt0) trodAll_mk0), rfl, bel.frame _, fun h => by cases h⟩
theorem over : Rows.fnExactRulTextRow.holds Tryd.pinned (OpenSpec.ofChange Rows.fnExactRulTextSpec) :=
  OpenClaim.holds_of_cond 3 Tryd.f3 rfl rfl rfl rfl rfl rfl rfl ⟨rfl, rfl, rfl, rfl, rfl⟩ rfl rfl rfl rfl rfl (by kernel_rfl) Tryd.func3 (by kernel_rfl)
    (of_decide_eq_true (by kernel_rfl)) (by unfold Func.isWrapper; first | (rw [if_pos (by decide +kernel)]; kernel_rfl) | (rw [if_neg (by decide +kernel)]; exact ⟨rfl, rfl⟩))
    (fun os started H enc _ F => by rw [OpenClaim.pre_eq_preRow]; exact lifted os started H enc F)
/-- No parameter wants a stand-in; the program's own looks are on: what the card asks. -/
theorem plain (f : FuncId) (fn : Func) (hf : Tryd.pinned.checked.prog.funcNamed "loop.example/hatchway/laws.FnExactRulText" = some f) (hfn : Tryd.pinned.checked.prog.funcs[f]? = some fn) :
    true = Tryd.pinned.checked.prog.looks [] ∧ ∀ (j : Nat) t, fn.params[j]? = some t → Tryd.pinned.checked.prog.wantsStandIn t = false := by
  obtain rfl : f = 3 := Option.some.inj ((show Tryd.prog.funcNamed "loop.example/hatchway/laws.FnExactRulText" = some 3 by kernel_rfl).symm.trans hf) |>.symm
  obtain rfl : fn = Tryd.f3 := (Option.some.inj (Tryd.func3.symm.trans hfn)).symm
  have hall : (Tryd.f3.params.toList.all fun u => !Tryd.prog.wantsStandIn u) = true := by kernel_rfl
  refine ⟨by kernel_rfl, fun j t ht => ?_⟩
  have hm : t ∈ Tryd.f3.params.toList := by simpa using Array.mem_of_getElem? ht
  exact (show Tryd.prog.wantsStandIn t = false by simpa using List.all_eq_true.1 hall t hm)
/-- THE TIED CARD. -/
theorem proved : Rows.FnExactRulTextCardSaid :=
  Claim7.holds_tied_plain_at .later [] _ _ _ _ over (fun _ h => by cases h) (by kernel_rfl) (fun _ h => by cases h) fnExactRulText_row_tie rfl ⟨rfl, rfl⟩ (by kernel_rfl) rfl plain (by kernel_rfl)
#print axioms proved
end Go.Proofs.YtiocgkggegahhaaDoor.fnExactRulText
namespace Go.Proofs.YtiocgkggegahhaaDoor
/-- The card, under a short name, for the claim. -/
theorem fnExactRulText_holds : Rows.FnExactRulTextCardSaid := fnExactRulText.proved
end Go.Proofs.YtiocgkggegahhaaDoor
