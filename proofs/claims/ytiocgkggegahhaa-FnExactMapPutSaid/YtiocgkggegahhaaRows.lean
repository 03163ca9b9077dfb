/-
  No cell of these rows narrows 'for every input' (looked for: loops, veiled, ifaces, maps, wideKeys, modest, calm, conditions, laid).
  DERIVED. THE GIVEN ROWS OF THIS SEAT. 8 by the template 'for every input the law returns true; each argument reads behind the call as it read before'; 0 by the template 'total and deterministic' (their statements: YtiocgkggegahhaaTotals.lean).
  GIVEN WITH THE SEED: the statements are not yours to turn. If you find one false, say at which input.
  Laid BY PROGRAM, IN A SANDBOX (cutbox-rows.mjs): the forced cells as the released guide's own fill.sh prints them over the translation 08f8db7ebe8e0afb… (all of the seat's roots in one cut). By AI agents, Wed Nov 11 2026. No macro, syntax, notation, axiom, sorry.
-/
import Derived.Test.YtiocgkggegahhaaChecked
import GoSem.Claim
import GoSem.ClaimJoined
import GoSem.ClaimMapViews
import Derived.JoinedTies
import Derived.KernelRfl
namespace Go.Proofs.Ytiocgkggegahhaa
/- THE CELL 'sum', in the pinned program and in every row, IS THE sha256 OF THE DUMP (.gsa) THAT YtiocgkggegahhaaProg.lean LOADS. Nothing in Lean hashes anything: it is a label: what it is worth is what the hold of that sum in a sandbox is worth. -/
noncomputable def Try.pinned : Pinned := { name := "ytiocgkggegahhaa", sum := "08f8db7ebe8e0afbad78fb167d8631e03f682eb8b9a090ea122d1d45a4f31cfc", checked := Try.checked }
namespace Rows
def none {H : Type} : Left H := { results := [], args := [] }

/-- 'laws.FnRulOk': WHATEVER THE INPUT: true; the input reads as it did. -/
def fnRulOkSpec : ChangeSpec := { name := "fnRulOk", fn := fun _ => fun
  | [d] => { results := [.lit (.bool true)], args := [d] }
  | _ => none }
def fnRulOkRow : OpenClaim := { program := "ytiocgkggegahhaa", sum := "08f8db7ebe8e0afbad78fb167d8631e03f682eb8b9a090ea122d1d45a4f31cfc", func := "loop.example/hatchway/laws.FnRulOk", spec := "fnRulOk", unfollowed := true, recurses := true, plainKeys := false, apart := false }
def FnRulOkSaid : Prop := fnRulOkRow.holds Try.pinned (OpenSpec.ofChange fnRulOkSpec)

/-- ITS FALSE NEIGHBOUR: 'it returns false'. Refute it at one input. -/
def fnRulOkWrong : ChangeSpec := { name := "fnRulOk", fn := fun _ => fun
  | [d] => { results := [.lit (.bool false)], args := [d] }
  | _ => none }
def FnRulOkWrongFalsely : Prop := fnRulOkRow.holds Try.pinned (OpenSpec.ofChange fnRulOkWrong)

/-- 'laws.FnExactRulMay': WHATEVER THE INPUT: true; the input reads as it did. -/
def fnExactRulMaySpec : ChangeSpec := { name := "fnExactRulMay", fn := fun _ => fun
  | [d1, d2, d3] => { results := [.lit (.bool true)], args := [d1, d2, d3] }
  | _ => none }
def fnExactRulMayRow : OpenClaim := { program := "ytiocgkggegahhaa", sum := "08f8db7ebe8e0afbad78fb167d8631e03f682eb8b9a090ea122d1d45a4f31cfc", func := "loop.example/hatchway/laws.FnExactRulMay", spec := "fnExactRulMay", unfollowed := true, recurses := true, plainKeys := false, apart := false }
def FnExactRulMaySaid : Prop := fnExactRulMayRow.holds Try.pinned (OpenSpec.ofChange fnExactRulMaySpec)

/-- ITS FALSE NEIGHBOUR: 'it returns false'. Refute it at one input. -/
def fnExactRulMayWrong : ChangeSpec := { name := "fnExactRulMay", fn := fun _ => fun
  | [d1, d2, d3] => { results := [.lit (.bool false)], args := [d1, d2, d3] }
  | _ => none }
def FnExactRulMayWrongFalsely : Prop := fnExactRulMayRow.holds Try.pinned (OpenSpec.ofChange fnExactRulMayWrong)

/-- 'laws.FnRulLess': WHATEVER THE INPUT: true; the input reads as it did. -/
def fnRulLessSpec : ChangeSpec := { name := "fnRulLess", fn := fun _ => fun
  | [d] => { results := [.lit (.bool true)], args := [d] }
  | _ => none }
def fnRulLessRow : OpenClaim := { program := "ytiocgkggegahhaa", sum := "08f8db7ebe8e0afbad78fb167d8631e03f682eb8b9a090ea122d1d45a4f31cfc", func := "loop.example/hatchway/laws.FnRulLess", spec := "fnRulLess", unfollowed := true, recurses := true, plainKeys := false, apart := false }
def FnRulLessSaid : Prop := fnRulLessRow.holds Try.pinned (OpenSpec.ofChange fnRulLessSpec)

/-- ITS FALSE NEIGHBOUR: 'it returns false'. Refute it at one input. -/
def fnRulLessWrong : ChangeSpec := { name := "fnRulLess", fn := fun _ => fun
  | [d] => { results := [.lit (.bool false)], args := [d] }
  | _ => none }
def FnRulLessWrongFalsely : Prop := fnRulLessRow.holds Try.pinned (OpenSpec.ofChange fnRulLessWrong)

/-- 'laws.FnRulMay': WHATEVER THE INPUT: true; the input reads as it did. -/
def fnRulMaySpec : ChangeSpec := { name := "fnRulMay", fn := fun _ => fun
  | [d] => { results := [.lit (.bool true)], args := [d] }
  | _ => none }
def fnRulMayRow : OpenClaim := { program := "ytiocgkggegahhaa", sum := "08f8db7ebe8e0afbad78fb167d8631e03f682eb8b9a090ea122d1d45a4f31cfc", func := "loop.example/hatchway/laws.FnRulMay", spec := "fnRulMay", unfollowed := true, recurses := true, plainKeys := false, apart := false }
def FnRulMaySaid : Prop := fnRulMayRow.holds Try.pinned (OpenSpec.ofChange fnRulMaySpec)

/-- ITS FALSE NEIGHBOUR: 'it returns false'. Refute it at one input. -/
def fnRulMayWrong : ChangeSpec := { name := "fnRulMay", fn := fun _ => fun
  | [d] => { results := [.lit (.bool false)], args := [d] }
  | _ => none }
def FnRulMayWrongFalsely : Prop := fnRulMayRow.holds Try.pinned (OpenSpec.ofChange fnRulMayWrong)

/-- 'laws.FnMapMany': WHATEVER THE INPUT: true; the input reads as it did. -/
def fnMapManySpec : ChangeSpec := { name := "fnMapMany", fn := fun _ => fun
  | [d1, d2] => { results := [.lit (.bool true)], args := [d1, d2] }
  | _ => none }
def fnMapManyRow : OpenClaim := { program := "ytiocgkggegahhaa", sum := "08f8db7ebe8e0afbad78fb167d8631e03f682eb8b9a090ea122d1d45a4f31cfc", func := "loop.example/hatchway/laws.FnMapMany", spec := "fnMapMany", plainKeys := false, apart := false }
def FnMapManySaid : Prop := fnMapManyRow.holds Try.pinned (OpenSpec.ofChange fnMapManySpec)

/-- ITS FALSE NEIGHBOUR: 'it returns false'. Refute it at one input. -/
def fnMapManyWrong : ChangeSpec := { name := "fnMapMany", fn := fun _ => fun
  | [d1, d2] => { results := [.lit (.bool false)], args := [d1, d2] }
  | _ => none }
def FnMapManyWrongFalsely : Prop := fnMapManyRow.holds Try.pinned (OpenSpec.ofChange fnMapManyWrong)

/-- 'laws.FnExactMapPut': WHATEVER THE INPUT: true; the input reads as it did. -/
def fnExactMapPutSpec : ChangeSpec := { name := "fnExactMapPut", fn := fun _ => fun
  | [d1, d2] => { results := [.lit (.bool true)], args := [d1, d2] }
  | _ => none }
def fnExactMapPutRow : OpenClaim := { program := "ytiocgkggegahhaa", sum := "08f8db7ebe8e0afbad78fb167d8631e03f682eb8b9a090ea122d1d45a4f31cfc", func := "loop.example/hatchway/laws.FnExactMapPut", spec := "fnExactMapPut", plainKeys := false, apart := false }
def FnExactMapPutSaid : Prop := fnExactMapPutRow.holds Try.pinned (OpenSpec.ofChange fnExactMapPutSpec)

/-- ITS FALSE NEIGHBOUR: 'it returns false'. Refute it at one input. -/
def fnExactMapPutWrong : ChangeSpec := { name := "fnExactMapPut", fn := fun _ => fun
  | [d1, d2] => { results := [.lit (.bool false)], args := [d1, d2] }
  | _ => none }
def FnExactMapPutWrongFalsely : Prop := fnExactMapPutRow.holds Try.pinned (OpenSpec.ofChange fnExactMapPutWrong)

/-- 'laws.FnMapPut': WHATEVER THE INPUT: true; the input reads as it did. -/
def fnMapPutSpec : ChangeSpec := { name := "fnMapPut", fn := fun _ => fun
  | [d] => { results := [.lit (.bool true)], args := [d] }
  | _ => none }
def fnMapPutRow : OpenClaim := { program := "ytiocgkggegahhaa", sum := "08f8db7ebe8e0afbad78fb167d8631e03f682eb8b9a090ea122d1d45a4f31cfc", func := "loop.example/hatchway/laws.FnMapPut", spec := "fnMapPut", plainKeys := false, apart := false }
def FnMapPutSaid : Prop := fnMapPutRow.holds Try.pinned (OpenSpec.ofChange fnMapPutSpec)

/-- ITS FALSE NEIGHBOUR: 'it returns false'. Refute it at one input. -/
def fnMapPutWrong : ChangeSpec := { name := "fnMapPut", fn := fun _ => fun
  | [d] => { results := [.lit (.bool false)], args := [d] }
  | _ => none }
def FnMapPutWrongFalsely : Prop := fnMapPutRow.holds Try.pinned (OpenSpec.ofChange fnMapPutWrong)

/-- 'laws.FnExactBoxNew': WHATEVER THE INPUT: true; the input reads as it did. -/
def fnExactBoxNewSpec : ChangeSpec := { name := "fnExactBoxNew", fn := fun _ => fun
  | [d] => { results := [.lit (.bool true)], args := [d] }
  | _ => none }
def fnExactBoxNewRow : OpenClaim := { program := "ytiocgkggegahhaa", sum := "08f8db7ebe8e0afbad78fb167d8631e03f682eb8b9a090ea122d1d45a4f31cfc", func := "loop.example/hatchway/laws.FnExactBoxNew", spec := "fnExactBoxNew", unfollowed := true, recurses := true, plainKeys := false, apart := false }
def FnExactBoxNewSaid : Prop := fnExactBoxNewRow.holds Try.pinned (OpenSpec.ofChange fnExactBoxNewSpec)

/-- ITS FALSE NEIGHBOUR: 'it returns false'. Refute it at one input. -/
def fnExactBoxNewWrong : ChangeSpec := { name := "fnExactBoxNew", fn := fun _ => fun
  | [d] => { results := [.lit (.bool false)], args := [d] }
  | _ => none }
def FnExactBoxNewWrongFalsely : Prop := fnExactBoxNewRow.holds Try.pinned (OpenSpec.ofChange fnExactBoxNewWrong)

/- THE SECOND FORM. 'bulk': how many values and letters a reading holds, each counted each time it is reached (what is shared counts as often as it is met; a slice's spare places count too). A statement '..UptoSaid' is the law's where the arguments, and the package variables that the reading takes, are together of bulk at most 1048576: NARROWER than '..Said'. Prove '..Said' where nothing that the law and all that it calls make is longer than what came in: it says more and counts as full. Else prove '..UptoSaid'. A law counts once. -/
mutual
def uptoBulk {H : Type} : DataW H → Nat
  | .lit (.string bytes) => bytes.length + 1
  | .lit _ => 1
  | .nil => 1
  | .ptr d => uptoBulk d + 1
  | .slice elems spare => uptoBulkAll elems + uptoBulkAll spare + 1
  | .agg parts => uptoBulkAll parts + 1
  | .iface _ d => uptoBulk d + 1
  | .map entries => uptoBulkEntries entries + 1
  | .held _ => 1
def uptoBulkAll {H : Type} : List (DataW H) → Nat
  | [] => 0
  | d :: r => uptoBulk d + uptoBulkAll r
def uptoBulkEntries {H : Type} : List (Lit × DataW H) → Nat
  | [] => 0
  | x :: r => uptoBulkEntry x + uptoBulkEntries r
def uptoBulkEntry {H : Type} : Lit × DataW H → Nat
  | (.string bytes, d) => bytes.length + uptoBulk d + 1
  | (_, d) => uptoBulk d + 1
 end
def uptoSmall : (H : Type) → List (DataW H) → Bool := fun _ ds => decide (uptoBulkAll ds ≤ 1048576)
def OpenSpec.upto (s : _root_.Go.ChangeSpec) : _root_.Go.OpenSpec := { _root_.Go.OpenSpec.ofChange s with cond := some uptoSmall }

/-- 'laws.FnRulOk', WHERE WHAT IT READS IS OF BULK AT MOST 1048576: true; the input reads as it did. -/
def fnRulOkUptoRow : OpenClaim := { program := "ytiocgkggegahhaa", sum := "08f8db7ebe8e0afbad78fb167d8631e03f682eb8b9a090ea122d1d45a4f31cfc", func := "loop.example/hatchway/laws.FnRulOk", spec := "fnRulOk", unfollowed := true, recurses := true, plainKeys := false, apart := false, narrowed := true }
def FnRulOkUptoSaid : Prop := fnRulOkUptoRow.holds Try.pinned (OpenSpec.upto fnRulOkSpec)

/-- 'laws.FnExactRulMay', WHERE WHAT IT READS IS OF BULK AT MOST 1048576: true; the input reads as it did. -/
def fnExactRulMayUptoRow : OpenClaim := { program := "ytiocgkggegahhaa", sum := "08f8db7ebe8e0afbad78fb167d8631e03f682eb8b9a090ea122d1d45a4f31cfc", func := "loop.example/hatchway/laws.FnExactRulMay", spec := "fnExactRulMay", unfollowed := true, recurses := true, plainKeys := false, apart := false, narrowed := true }
def FnExactRulMayUptoSaid : Prop := fnExactRulMayUptoRow.holds Try.pinned (OpenSpec.upto fnExactRulMaySpec)

/-- 'laws.FnRulLess', WHERE WHAT IT READS IS OF BULK AT MOST 1048576: true; the input reads as it did. -/
def fnRulLessUptoRow : OpenClaim := { program := "ytiocgkggegahhaa", sum := "08f8db7ebe8e0afbad78fb167d8631e03f682eb8b9a090ea122d1d45a4f31cfc", func := "loop.example/hatchway/laws.FnRulLess", spec := "fnRulLess", unfollowed := true, recurses := true, plainKeys := false, apart := false, narrowed := true }
def FnRulLessUptoSaid : Prop := fnRulLessUptoRow.holds Try.pinned (OpenSpec.upto fnRulLessSpec)

/-- 'laws.FnRulMay', WHERE WHAT IT READS IS OF BULK AT MOST 1048576: true; the input reads as it did. -/
def fnRulMayUptoRow : OpenClaim := { program := "ytiocgkggegahhaa", sum := "08f8db7ebe8e0afbad78fb167d8631e03f682eb8b9a090ea122d1d45a4f31cfc", func := "loop.example/hatchway/laws.FnRulMay", spec := "fnRulMay", unfollowed := true, recurses := true, plainKeys := false, apart := false, narrowed := true }
def FnRulMayUptoSaid : Prop := fnRulMayUptoRow.holds Try.pinned (OpenSpec.upto fnRulMaySpec)

/-- 'laws.FnMapMany', WHERE WHAT IT READS IS OF BULK AT MOST 1048576: true; the input reads as it did. -/
def fnMapManyUptoRow : OpenClaim := { program := "ytiocgkggegahhaa", sum := "08f8db7ebe8e0afbad78fb167d8631e03f682eb8b9a090ea122d1d45a4f31cfc", func := "loop.example/hatchway/laws.FnMapMany", spec := "fnMapMany", plainKeys := false, apart := false, narrowed := true }
def FnMapManyUptoSaid : Prop := fnMapManyUptoRow.holds Try.pinned (OpenSpec.upto fnMapManySpec)

/-- 'laws.FnExactMapPut', WHERE WHAT IT READS IS OF BULK AT MOST 1048576: true; the input reads as it did. -/
def fnExactMapPutUptoRow : OpenClaim := { program := "ytiocgkggegahhaa", sum := "08f8db7ebe8e0afbad78fb167d8631e03f682eb8b9a090ea122d1d45a4f31cfc", func := "loop.example/hatchway/laws.FnExactMapPut", spec := "fnExactMapPut", plainKeys := false, apart := false, narrowed := true }
def FnExactMapPutUptoSaid : Prop := fnExactMapPutUptoRow.holds Try.pinned (OpenSpec.upto fnExactMapPutSpec)

/-- 'laws.FnMapPut', WHERE WHAT IT READS IS OF BULK AT MOST 1048576: true; the input reads as it did. -/
def fnMapPutUptoRow : OpenClaim := { program := "ytiocgkggegahhaa", sum := "08f8db7ebe8e0afbad78fb167d8631e03f682eb8b9a090ea122d1d45a4f31cfc", func := "loop.example/hatchway/laws.FnMapPut", spec := "fnMapPut", plainKeys := false, apart := false, narrowed := true }
def FnMapPutUptoSaid : Prop := fnMapPutUptoRow.holds Try.pinned (OpenSpec.upto fnMapPutSpec)

/-- 'laws.FnExactBoxNew', WHERE WHAT IT READS IS OF BULK AT MOST 1048576: true; the input reads as it did. -/
def fnExactBoxNewUptoRow : OpenClaim := { program := "ytiocgkggegahhaa", sum := "08f8db7ebe8e0afbad78fb167d8631e03f682eb8b9a090ea122d1d45a4f31cfc", func := "loop.example/hatchway/laws.FnExactBoxNew", spec := "fnExactBoxNew", unfollowed := true, recurses := true, plainKeys := false, apart := false, narrowed := true }
def FnExactBoxNewUptoSaid : Prop := fnExactBoxNewUptoRow.holds Try.pinned (OpenSpec.upto fnExactBoxNewSpec)

end Rows
end Go.Proofs.Ytiocgkggegahhaa
