/-
  NARROWER THAN 'FOR EVERY INPUT', by the rows' own cells (each row's printed sentence says how): FnBoxNew: ifaces, laid · FnExactBoxOk: ifaces, laid · FnExactBoxFar: ifaces, laid · FnBoxOk: ifaces, laid · FnExactBoxTurn: ifaces, laid · FnBoxPlain: ifaces, laid · FnBoxTurn: ifaces, laid.
  DERIVED. THE GIVEN ROWS OF THIS SEAT. 7 by the template 'for every input the law returns true; each argument reads behind the call as it read before'; 0 by the template 'total and deterministic' (their statements: YtgpolhlmedmloaaGreatDoorTotals.lean).
  GIVEN WITH THE SEED: the statements are not yours to turn. If you find one false, say at which input.
  Laid BY PROGRAM, IN A SANDBOX (cutbox-rows.mjs): the forced cells as the released guide's own fill.sh prints them over the translation d0edc057af41fb2f… (all of the seat's roots in one cut). By AI agents, Wed Nov 11 2026. No macro, syntax, notation, axiom, sorry.
-/
import Derived.Test.YtgpolhlmedmloaaGreatDoorChecked
import GoSem.Claim
import GoSem.ClaimJoined
import GoSem.ClaimMapViews
import Derived.JoinedTies
import Derived.KernelRfl
namespace Go.Proofs.YtgpolhlmedmloaaGreatDoor
/- THE CELL 'sum', in the pinned program and in every row, IS THE sha256 OF THE DUMP (.gsa) THAT YtgpolhlmedmloaaGreatDoorProg.lean LOADS. Nothing in Lean hashes anything: it is a label: what it is worth is what the hold of that sum in a sandbox is worth. -/
noncomputable def Tryz.pinned : Pinned := { name := "ytgpolhlmedmloaagreatdoor", sum := "d0edc057af41fb2f95817aa2acbdb047b778733b202f530d074d43c601aa0161", checked := Tryz.checked }
namespace Rows
def none {H : Type} : Left H := { results := [], args := [] }

/- WHAT THE LISTED PACKAGE-LEVEL VARIABLES READ AS WHEN THE CALL BEGINS. Each datum BY PROGRAM (the guide's laid-datum.mjs) off the statement by which the dump's own 'gosem.cut.vars' lays the variable. In a bare row this is a premise. The card (YtgpolhlmedmloaaGreatDoorCards.lean) ties it to the program's text. -/
def laid_math_bits_deBruijn32tab {H : Type} : DataW H := .agg [.lit (.int .u8 0), .lit (.int .u8 1), .lit (.int .u8 28), .lit (.int .u8 2), .lit (.int .u8 29), .lit (.int .u8 14), .lit (.int .u8 24), .lit (.int .u8 3), .lit (.int .u8 30), .lit (.int .u8 22), .lit (.int .u8 20), .lit (.int .u8 15), .lit (.int .u8 25), .lit (.int .u8 17), .lit (.int .u8 4), .lit (.int .u8 8), .lit (.int .u8 31), .lit (.int .u8 27), .lit (.int .u8 13), .lit (.int .u8 23), .lit (.int .u8 21), .lit (.int .u8 19), .lit (.int .u8 16), .lit (.int .u8 7), .lit (.int .u8 26), .lit (.int .u8 12), .lit (.int .u8 18), .lit (.int .u8 6), .lit (.int .u8 11), .lit (.int .u8 5), .lit (.int .u8 10), .lit (.int .u8 9)]
def laid_math_bits_deBruijn64tab {H : Type} : DataW H := .agg [.lit (.int .u8 0), .lit (.int .u8 1), .lit (.int .u8 56), .lit (.int .u8 2), .lit (.int .u8 57), .lit (.int .u8 49), .lit (.int .u8 28), .lit (.int .u8 3), .lit (.int .u8 61), .lit (.int .u8 58), .lit (.int .u8 42), .lit (.int .u8 50), .lit (.int .u8 38), .lit (.int .u8 29), .lit (.int .u8 17), .lit (.int .u8 4), .lit (.int .u8 62), .lit (.int .u8 47), .lit (.int .u8 59), .lit (.int .u8 36), .lit (.int .u8 45), .lit (.int .u8 43), .lit (.int .u8 51), .lit (.int .u8 22), .lit (.int .u8 53), .lit (.int .u8 39), .lit (.int .u8 33), .lit (.int .u8 30), .lit (.int .u8 24), .lit (.int .u8 18), .lit (.int .u8 12), .lit (.int .u8 5), .lit (.int .u8 63), .lit (.int .u8 55), .lit (.int .u8 48), .lit (.int .u8 27), .lit (.int .u8 60), .lit (.int .u8 41), .lit (.int .u8 37), .lit (.int .u8 16), .lit (.int .u8 46), .lit (.int .u8 35), .lit (.int .u8 44), .lit (.int .u8 21), .lit (.int .u8 52), .lit (.int .u8 32), .lit (.int .u8 23), .lit (.int .u8 11), .lit (.int .u8 54), .lit (.int .u8 26), .lit (.int .u8 40), .lit (.int .u8 15), .lit (.int .u8 34), .lit (.int .u8 20), .lit (.int .u8 31), .lit (.int .u8 10), .lit (.int .u8 25), .lit (.int .u8 14), .lit (.int .u8 19), .lit (.int .u8 9), .lit (.int .u8 13), .lit (.int .u8 8), .lit (.int .u8 7), .lit (.int .u8 6)]
def laid_internal_strconv_uint64pow10 {H : Type} : DataW H := .agg [.lit (.int .u64 1), .lit (.int .u64 10), .lit (.int .u64 100), .lit (.int .u64 1000), .lit (.int .u64 10000), .lit (.int .u64 100000), .lit (.int .u64 1000000), .lit (.int .u64 10000000), .lit (.int .u64 100000000), .lit (.int .u64 1000000000), .lit (.int .u64 10000000000), .lit (.int .u64 100000000000), .lit (.int .u64 1000000000000), .lit (.int .u64 10000000000000), .lit (.int .u64 100000000000000), .lit (.int .u64 1000000000000000), .lit (.int .u64 10000000000000000), .lit (.int .u64 100000000000000000), .lit (.int .u64 1000000000000000000), .lit (.int .u64 10000000000000000000)]
def laid_strconv_ErrRange {H : Type} : DataW H := .iface "*errors.errorString" (.ptr (.agg [.lit (.string [118, 97, 108, 117, 101, 32, 111, 117, 116, 32, 111, 102, 32, 114, 97, 110, 103, 101])]))
def laid_strconv_ErrSyntax {H : Type} : DataW H := .iface "*errors.errorString" (.ptr (.agg [.lit (.string [105, 110, 118, 97, 108, 105, 100, 32, 115, 121, 110, 116, 97, 120])]))
def laid_loop_example_hatchway_impl_errEnd {H : Type} : DataW H := .iface "*errors.errorString" (.ptr (.agg [.lit (.string [110, 111, 32, 101, 110, 100])]))

/-- 'laws.FnBoxNew': WHATEVER THE INPUT: true; the input reads as it did. -/
def fnBoxNewSpec : ChangeSpec := { name := "fnBoxNew", vars := ["loop.example/hatchway/impl.errEnd"], fn := fun _ => fun
  | [d, g1] => { results := [.lit (.bool true)], args := [d], vars := [g1] }
  | _ => none }
def fnBoxNewRow : OpenClaim := { program := "ytgpolhlmedmloaagreatdoor", sum := "d0edc057af41fb2f95817aa2acbdb047b778733b202f530d074d43c601aa0161", func := "loop.example/hatchway/laws.FnBoxNew", spec := "fnBoxNew", inPlace := ["internal/bytealg.CountString", "internal/bytealg.IndexByteString", "internal/bytealg.IndexString"], unfollowed := true, recurses := true, named := ["internal/bytealg.MaxLen", "loop.example/hatchway/impl.errEnd", "strconv.ErrSyntax", "strconv.ErrRange", "internal/strconv.uint64pow10", "math/bits.deBruijn32tab", "math/bits.deBruijn64tab"], ifaces := true, plainKeys := false, apart := false, laid := [("math/bits.deBruijn32tab", laid_math_bits_deBruijn32tab), ("math/bits.deBruijn64tab", laid_math_bits_deBruijn64tab), ("internal/strconv.uint64pow10", laid_internal_strconv_uint64pow10), ("strconv.ErrRange", laid_strconv_ErrRange), ("strconv.ErrSyntax", laid_strconv_ErrSyntax), ("loop.example/hatchway/impl.errEnd", laid_loop_example_hatchway_impl_errEnd)] }
def FnBoxNewSaid : Prop := fnBoxNewRow.holds Tryz.pinned (OpenSpec.ofChange fnBoxNewSpec)

/-- ITS FALSE NEIGHBOUR: 'it returns false'. Refute it at one input. -/
def fnBoxNewWrong : ChangeSpec := { name := "fnBoxNew", vars := ["loop.example/hatchway/impl.errEnd"], fn := fun _ => fun
  | [d, g1] => { results := [.lit (.bool false)], args := [d], vars := [g1] }
  | _ => none }
def FnBoxNewWrongFalsely : Prop := fnBoxNewRow.holds Tryz.pinned (OpenSpec.ofChange fnBoxNewWrong)

/-- 'laws.FnExactBoxOk': WHATEVER THE INPUT: true; the input reads as it did. -/
def fnExactBoxOkSpec : ChangeSpec := { name := "fnExactBoxOk", vars := ["loop.example/hatchway/impl.errEnd"], fn := fun _ => fun
  | [d, g1] => { results := [.lit (.bool true)], args := [d], vars := [g1] }
  | _ => none }
def fnExactBoxOkRow : OpenClaim := { program := "ytgpolhlmedmloaagreatdoor", sum := "d0edc057af41fb2f95817aa2acbdb047b778733b202f530d074d43c601aa0161", func := "loop.example/hatchway/laws.FnExactBoxOk", spec := "fnExactBoxOk", inPlace := ["internal/bytealg.CountString", "internal/bytealg.IndexByteString", "internal/bytealg.IndexString"], unfollowed := true, recurses := true, named := ["internal/bytealg.MaxLen", "loop.example/hatchway/impl.errEnd", "strconv.ErrSyntax", "strconv.ErrRange", "internal/strconv.uint64pow10", "math/bits.deBruijn32tab", "math/bits.deBruijn64tab"], ifaces := true, plainKeys := false, apart := false, laid := [("math/bits.deBruijn32tab", laid_math_bits_deBruijn32tab), ("math/bits.deBruijn64tab", laid_math_bits_deBruijn64tab), ("internal/strconv.uint64pow10", laid_internal_strconv_uint64pow10), ("strconv.ErrRange", laid_strconv_ErrRange), ("strconv.ErrSyntax", laid_strconv_ErrSyntax), ("loop.example/hatchway/impl.errEnd", laid_loop_example_hatchway_impl_errEnd)] }
def FnExactBoxOkSaid : Prop := fnExactBoxOkRow.holds Tryz.pinned (OpenSpec.ofChange fnExactBoxOkSpec)

/-- ITS FALSE NEIGHBOUR: 'it returns false'. Refute it at one input. -/
def fnExactBoxOkWrong : ChangeSpec := { name := "fnExactBoxOk", vars := ["loop.example/hatchway/impl.errEnd"], fn := fun _ => fun
  | [d, g1] => { results := [.lit (.bool false)], args := [d], vars := [g1] }
  | _ => none }
def FnExactBoxOkWrongFalsely : Prop := fnExactBoxOkRow.holds Tryz.pinned (OpenSpec.ofChange fnExactBoxOkWrong)

/-- 'laws.FnExactBoxFar': WHATEVER THE INPUT: true; the input reads as it did. -/
def fnExactBoxFarSpec : ChangeSpec := { name := "fnExactBoxFar", vars := ["loop.example/hatchway/impl.errEnd"], fn := fun _ => fun
  | [d1, d2, g1] => { results := [.lit (.bool true)], args := [d1, d2], vars := [g1] }
  | _ => none }
def fnExactBoxFarRow : OpenClaim := { program := "ytgpolhlmedmloaagreatdoor", sum := "d0edc057af41fb2f95817aa2acbdb047b778733b202f530d074d43c601aa0161", func := "loop.example/hatchway/laws.FnExactBoxFar", spec := "fnExactBoxFar", inPlace := ["internal/bytealg.CountString", "internal/bytealg.IndexByteString", "internal/bytealg.IndexString", "internal/abi.NoEscape"], unfollowed := true, recurses := true, named := ["internal/bytealg.MaxLen", "loop.example/hatchway/impl.errEnd", "strconv.ErrSyntax", "strconv.ErrRange", "internal/strconv.uint64pow10", "math/bits.deBruijn32tab", "math/bits.deBruijn64tab"], ifaces := true, plainKeys := false, apart := false, laid := [("math/bits.deBruijn32tab", laid_math_bits_deBruijn32tab), ("math/bits.deBruijn64tab", laid_math_bits_deBruijn64tab), ("internal/strconv.uint64pow10", laid_internal_strconv_uint64pow10), ("strconv.ErrRange", laid_strconv_ErrRange), ("strconv.ErrSyntax", laid_strconv_ErrSyntax), ("loop.example/hatchway/impl.errEnd", laid_loop_example_hatchway_impl_errEnd)] }
def FnExactBoxFarSaid : Prop := fnExactBoxFarRow.holds Tryz.pinned (OpenSpec.ofChange fnExactBoxFarSpec)

/-- ITS FALSE NEIGHBOUR: 'it returns false'. Refute it at one input. -/
def fnExactBoxFarWrong : ChangeSpec := { name := "fnExactBoxFar", vars := ["loop.example/hatchway/impl.errEnd"], fn := fun _ => fun
  | [d1, d2, g1] => { results := [.lit (.bool false)], args := [d1, d2], vars := [g1] }
  | _ => none }
def FnExactBoxFarWrongFalsely : Prop := fnExactBoxFarRow.holds Tryz.pinned (OpenSpec.ofChange fnExactBoxFarWrong)

/-- 'laws.FnBoxOk': WHATEVER THE INPUT: true; the input reads as it did. -/
def fnBoxOkSpec : ChangeSpec := { name := "fnBoxOk", vars := ["loop.example/hatchway/impl.errEnd"], fn := fun _ => fun
  | [d, g1] => { results := [.lit (.bool true)], args := [d], vars := [g1] }
  | _ => none }
def fnBoxOkRow : OpenClaim := { program := "ytgpolhlmedmloaagreatdoor", sum := "d0edc057af41fb2f95817aa2acbdb047b778733b202f530d074d43c601aa0161", func := "loop.example/hatchway/laws.FnBoxOk", spec := "fnBoxOk", inPlace := ["internal/bytealg.CountString", "internal/bytealg.IndexByteString", "internal/bytealg.IndexString"], unfollowed := true, recurses := true, named := ["internal/bytealg.MaxLen", "loop.example/hatchway/impl.errEnd", "strconv.ErrSyntax", "strconv.ErrRange", "internal/strconv.uint64pow10", "math/bits.deBruijn32tab", "math/bits.deBruijn64tab"], ifaces := true, plainKeys := false, apart := false, laid := [("math/bits.deBruijn32tab", laid_math_bits_deBruijn32tab), ("math/bits.deBruijn64tab", laid_math_bits_deBruijn64tab), ("internal/strconv.uint64pow10", laid_internal_strconv_uint64pow10), ("strconv.ErrRange", laid_strconv_ErrRange), ("strconv.ErrSyntax", laid_strconv_ErrSyntax), ("loop.example/hatchway/impl.errEnd", laid_loop_example_hatchway_impl_errEnd)] }
def FnBoxOkSaid : Prop := fnBoxOkRow.holds Tryz.pinned (OpenSpec.ofChange fnBoxOkSpec)

/-- ITS FALSE NEIGHBOUR: 'it returns false'. Refute it at one input. -/
def fnBoxOkWrong : ChangeSpec := { name := "fnBoxOk", vars := ["loop.example/hatchway/impl.errEnd"], fn := fun _ => fun
  | [d, g1] => { results := [.lit (.bool false)], args := [d], vars := [g1] }
  | _ => none }
def FnBoxOkWrongFalsely : Prop := fnBoxOkRow.holds Tryz.pinned (OpenSpec.ofChange fnBoxOkWrong)

/-- 'laws.FnExactBoxTurn': WHATEVER THE INPUT: true; the input reads as it did. -/
def fnExactBoxTurnSpec : ChangeSpec := { name := "fnExactBoxTurn", vars := ["loop.example/hatchway/impl.errEnd"], fn := fun _ => fun
  | [d1, d2, g1] => { results := [.lit (.bool true)], args := [d1, d2], vars := [g1] }
  | _ => none }
def fnExactBoxTurnRow : OpenClaim := { program := "ytgpolhlmedmloaagreatdoor", sum := "d0edc057af41fb2f95817aa2acbdb047b778733b202f530d074d43c601aa0161", func := "loop.example/hatchway/laws.FnExactBoxTurn", spec := "fnExactBoxTurn", inPlace := ["internal/bytealg.CountString", "internal/bytealg.IndexByteString", "internal/bytealg.IndexString"], unfollowed := true, recurses := true, named := ["internal/bytealg.MaxLen", "loop.example/hatchway/impl.errEnd", "strconv.ErrSyntax", "strconv.ErrRange", "internal/strconv.uint64pow10", "math/bits.deBruijn32tab", "math/bits.deBruijn64tab"], ifaces := true, plainKeys := false, apart := false, laid := [("math/bits.deBruijn32tab", laid_math_bits_deBruijn32tab), ("math/bits.deBruijn64tab", laid_math_bits_deBruijn64tab), ("internal/strconv.uint64pow10", laid_internal_strconv_uint64pow10), ("strconv.ErrRange", laid_strconv_ErrRange), ("strconv.ErrSyntax", laid_strconv_ErrSyntax), ("loop.example/hatchway/impl.errEnd", laid_loop_example_hatchway_impl_errEnd)] }
def FnExactBoxTurnSaid : Prop := fnExactBoxTurnRow.holds Tryz.pinned (OpenSpec.ofChange fnExactBoxTurnSpec)

/-- ITS FALSE NEIGHBOUR: 'it returns false'. Refute it at one input. -/
def fnExactBoxTurnWrong : ChangeSpec := { name := "fnExactBoxTurn", vars := ["loop.example/hatchway/impl.errEnd"], fn := fun _ => fun
  | [d1, d2, g1] => { results := [.lit (.bool false)], args := [d1, d2], vars := [g1] }
  | _ => none }
def FnExactBoxTurnWrongFalsely : Prop := fnExactBoxTurnRow.holds Tryz.pinned (OpenSpec.ofChange fnExactBoxTurnWrong)

/-- 'laws.FnBoxPlain': WHATEVER THE INPUT: true; the input reads as it did. -/
def fnBoxPlainSpec : ChangeSpec := { name := "fnBoxPlain", vars := ["loop.example/hatchway/impl.errEnd"], fn := fun _ => fun
  | [d, g1] => { results := [.lit (.bool true)], args := [d], vars := [g1] }
  | _ => none }
def fnBoxPlainRow : OpenClaim := { program := "ytgpolhlmedmloaagreatdoor", sum := "d0edc057af41fb2f95817aa2acbdb047b778733b202f530d074d43c601aa0161", func := "loop.example/hatchway/laws.FnBoxPlain", spec := "fnBoxPlain", inPlace := ["internal/bytealg.CountString", "internal/bytealg.IndexByteString", "internal/bytealg.IndexString", "internal/abi.NoEscape"], unfollowed := true, recurses := true, named := ["internal/bytealg.MaxLen", "loop.example/hatchway/impl.errEnd", "strconv.ErrSyntax", "strconv.ErrRange", "internal/strconv.uint64pow10", "math/bits.deBruijn32tab", "math/bits.deBruijn64tab"], ifaces := true, plainKeys := false, apart := false, laid := [("math/bits.deBruijn32tab", laid_math_bits_deBruijn32tab), ("math/bits.deBruijn64tab", laid_math_bits_deBruijn64tab), ("internal/strconv.uint64pow10", laid_internal_strconv_uint64pow10), ("strconv.ErrRange", laid_strconv_ErrRange), ("strconv.ErrSyntax", laid_strconv_ErrSyntax), ("loop.example/hatchway/impl.errEnd", laid_loop_example_hatchway_impl_errEnd)] }
def FnBoxPlainSaid : Prop := fnBoxPlainRow.holds Tryz.pinned (OpenSpec.ofChange fnBoxPlainSpec)

/-- ITS FALSE NEIGHBOUR: 'it returns false'. Refute it at one input. -/
def fnBoxPlainWrong : ChangeSpec := { name := "fnBoxPlain", vars := ["loop.example/hatchway/impl.errEnd"], fn := fun _ => fun
  | [d, g1] => { results := [.lit (.bool false)], args := [d], vars := [g1] }
  | _ => none }
def FnBoxPlainWrongFalsely : Prop := fnBoxPlainRow.holds Tryz.pinned (OpenSpec.ofChange fnBoxPlainWrong)

/-- 'laws.FnBoxTurn': WHATEVER THE INPUT: true; the input reads as it did. -/
def fnBoxTurnSpec : ChangeSpec := { name := "fnBoxTurn", vars := ["loop.example/hatchway/impl.errEnd"], fn := fun _ => fun
  | [d, g1] => { results := [.lit (.bool true)], args := [d], vars := [g1] }
  | _ => none }
def fnBoxTurnRow : OpenClaim := { program := "ytgpolhlmedmloaagreatdoor", sum := "d0edc057af41fb2f95817aa2acbdb047b778733b202f530d074d43c601aa0161", func := "loop.example/hatchway/laws.FnBoxTurn", spec := "fnBoxTurn", inPlace := ["internal/bytealg.CountString", "internal/bytealg.IndexByteString", "internal/bytealg.IndexString"], unfollowed := true, recurses := true, named := ["internal/bytealg.MaxLen", "loop.example/hatchway/impl.errEnd", "strconv.ErrSyntax", "strconv.ErrRange", "internal/strconv.uint64pow10", "math/bits.deBruijn32tab", "math/bits.deBruijn64tab"], ifaces := true, plainKeys := false, apart := false, laid := [("math/bits.deBruijn32tab", laid_math_bits_deBruijn32tab), ("math/bits.deBruijn64tab", laid_math_bits_deBruijn64tab), ("internal/strconv.uint64pow10", laid_internal_strconv_uint64pow10), ("strconv.ErrRange", laid_strconv_ErrRange), ("strconv.ErrSyntax", laid_strconv_ErrSyntax), ("loop.example/hatchway/impl.errEnd", laid_loop_example_hatchway_impl_errEnd)] }
def FnBoxTurnSaid : Prop := fnBoxTurnRow.holds Tryz.pinned (OpenSpec.ofChange fnBoxTurnSpec)

/-- ITS FALSE NEIGHBOUR: 'it returns false'. Refute it at one input. -/
def fnBoxTurnWrong : ChangeSpec := { name := "fnBoxTurn", vars := ["loop.example/hatchway/impl.errEnd"], fn := fun _ => fun
  | [d, g1] => { results := [.lit (.bool false)], args := [d], vars := [g1] }
  | _ => none }
def FnBoxTurnWrongFalsely : Prop := fnBoxTurnRow.holds Tryz.pinned (OpenSpec.ofChange fnBoxTurnWrong)

/- THE SECOND FORM. 'bulk': how many values and letters a reading holds, each counted each time it is reached (what is shared counts as often as it is met; a slice's spare places count too). A statement '..UptoSaid' is the law's where the arguments, and the package variables that the reading takes, are together of bulk at most 1048576: NARROWER than '..Said'. Prove '..Said' where nothing that the law and all that it calls make is longer than what came in: it says more and counts as full. Else prove '..UptoSaid'. A law counts once. -/
mutual
def uptoBulk {H : Type} : DataW H → Nat
  | .lit (.string bytes) => bytes.length + 1
  | .lit _ => 1
  | .nil => 1
  | .ptr d => uptoBulk d + 1
  | .slice elems spare => uptoBulkAll elems + uptoBulkAll spare + 1
  | .agg parts => uptoBulkAll parts + 1
  | .iface _ d => uptoBulk d + 1
  | .map entries => uptoBulkEntries entries + 1
  | .held _ => 1
def uptoBulkAll {H : Type} : List (DataW H) → Nat
  | [] => 0
  | d :: r => uptoBulk d + uptoBulkAll r
def uptoBulkEntries {H : Type} : List (Lit × DataW H) → Nat
  | [] => 0
  | x :: r => uptoBulkEntry x + uptoBulkEntries r
def uptoBulkEntry {H : Type} : Lit × DataW H → Nat
  | (.string bytes, d) => bytes.length + uptoBulk d + 1
  | (_, d) => uptoBulk d + 1
 end
def uptoSmall : (H : Type) → List (DataW H) → Bool := fun _ ds => decide (uptoBulkAll ds ≤ 1048576)
def OpenSpec.upto (s : _root_.Go.ChangeSpec) : _root_.Go.OpenSpec := { _root_.Go.OpenSpec.ofChange s with cond := some uptoSmall }

/-- 'laws.FnBoxNew', WHERE WHAT IT READS IS OF BULK AT MOST 1048576: true; the input reads as it did. -/
def fnBoxNewUptoRow : OpenClaim := { program := "ytgpolhlmedmloaagreatdoor", sum := "d0edc057af41fb2f95817aa2acbdb047b778733b202f530d074d43c601aa0161", func := "loop.example/hatchway/laws.FnBoxNew", spec := "fnBoxNew", inPlace := ["internal/bytealg.CountString", "internal/bytealg.IndexByteString", "internal/bytealg.IndexString"], unfollowed := true, recurses := true, named := ["internal/bytealg.MaxLen", "loop.example/hatchway/impl.errEnd", "strconv.ErrSyntax", "strconv.ErrRange", "internal/strconv.uint64pow10", "math/bits.deBruijn32tab", "math/bits.deBruijn64tab"], ifaces := true, plainKeys := false, apart := false, laid := [("math/bits.deBruijn32tab", laid_math_bits_deBruijn32tab), ("math/bits.deBruijn64tab", laid_math_bits_deBruijn64tab), ("internal/strconv.uint64pow10", laid_internal_strconv_uint64pow10), ("strconv.ErrRange", laid_strconv_ErrRange), ("strconv.ErrSyntax", laid_strconv_ErrSyntax), ("loop.example/hatchway/impl.errEnd", laid_loop_example_hatchway_impl_errEnd)], narrowed := true }
def FnBoxNewUptoSaid : Prop := fnBoxNewUptoRow.holds Tryz.pinned (OpenSpec.upto fnBoxNewSpec)

/-- 'laws.FnExactBoxOk', WHERE WHAT IT READS IS OF BULK AT MOST 1048576: true; the input reads as it did. -/
def fnExactBoxOkUptoRow : OpenClaim := { program := "ytgpolhlmedmloaagreatdoor", sum := "d0edc057af41fb2f95817aa2acbdb047b778733b202f530d074d43c601aa0161", func := "loop.example/hatchway/laws.FnExactBoxOk", spec := "fnExactBoxOk", inPlace := ["internal/bytealg.CountString", "internal/bytealg.IndexByteString", "internal/bytealg.IndexString"], unfollowed := true, recurses := true, named := ["internal/bytealg.MaxLen", "loop.example/hatchway/impl.errEnd", "strconv.ErrSyntax", "strconv.ErrRange", "internal/strconv.uint64pow10", "math/bits.deBruijn32tab", "math/bits.deBruijn64tab"], ifaces := true, plainKeys := false, apart := false, laid := [("math/bits.deBruijn32tab", laid_math_bits_deBruijn32tab), ("math/bits.deBruijn64tab", laid_math_bits_deBruijn64tab), ("internal/strconv.uint64pow10", laid_internal_strconv_uint64pow10), ("strconv.ErrRange", laid_strconv_ErrRange), ("strconv.ErrSyntax", laid_strconv_ErrSyntax), ("loop.example/hatchway/impl.errEnd", laid_loop_example_hatchway_impl_errEnd)], narrowed := true }
def FnExactBoxOkUptoSaid : Prop := fnExactBoxOkUptoRow.holds Tryz.pinned (OpenSpec.upto fnExactBoxOkSpec)

/-- 'laws.FnExactBoxFar', WHERE WHAT IT READS IS OF BULK AT MOST 1048576: true; the input reads as it did. -/
def fnExactBoxFarUptoRow : OpenClaim := { program := "ytgpolhlmedmloaagreatdoor", sum := "d0edc057af41fb2f95817aa2acbdb047b778733b202f530d074d43c601aa0161", func := "loop.example/hatchway/laws.FnExactBoxFar", spec := "fnExactBoxFar", inPlace := ["internal/bytealg.CountString", "internal/bytealg.IndexByteString", "internal/bytealg.IndexString", "internal/abi.NoEscape"], unfollowed := true, recurses := true, named := ["internal/bytealg.MaxLen", "loop.example/hatchway/impl.errEnd", "strconv.ErrSyntax", "strconv.ErrRange", "internal/strconv.uint64pow10", "math/bits.deBruijn32tab", "math/bits.deBruijn64tab"], ifaces := true, plainKeys := false, apart := false, laid := [("math/bits.deBruijn32tab", laid_math_bits_deBruijn32tab), ("math/bits.deBruijn64tab", laid_math_bits_deBruijn64tab), ("internal/strconv.uint64pow10", laid_internal_strconv_uint64pow10), ("strconv.ErrRange", laid_strconv_ErrRange), ("strconv.ErrSyntax", laid_strconv_ErrSyntax), ("loop.example/hatchway/impl.errEnd", laid_loop_example_hatchway_impl_errEnd)], narrowed := true }
def FnExactBoxFarUptoSaid : Prop := fnExactBoxFarUptoRow.holds Tryz.pinned (OpenSpec.upto fnExactBoxFarSpec)

/-- 'laws.FnBoxOk', WHERE WHAT IT READS IS OF BULK AT MOST 1048576: true; the input reads as it did. -/
def fnBoxOkUptoRow : OpenClaim := { program := "ytgpolhlmedmloaagreatdoor", sum := "d0edc057af41fb2f95817aa2acbdb047b778733b202f530d074d43c601aa0161", func := "loop.example/hatchway/laws.FnBoxOk", spec := "fnBoxOk", inPlace := ["internal/bytealg.CountString", "internal/bytealg.IndexByteString", "internal/bytealg.IndexString"], unfollowed := true, recurses := true, named := ["internal/bytealg.MaxLen", "loop.example/hatchway/impl.errEnd", "strconv.ErrSyntax", "strconv.ErrRange", "internal/strconv.uint64pow10", "math/bits.deBruijn32tab", "math/bits.deBruijn64tab"], ifaces := true, plainKeys := false, apart := false, laid := [("math/bits.deBruijn32tab", laid_math_bits_deBruijn32tab), ("math/bits.deBruijn64tab", laid_math_bits_deBruijn64tab), ("internal/strconv.uint64pow10", laid_internal_strconv_uint64pow10), ("strconv.ErrRange", laid_strconv_ErrRange), ("strconv.ErrSyntax", laid_strconv_ErrSyntax), ("loop.example/hatchway/impl.errEnd", laid_loop_example_hatchway_impl_errEnd)], narrowed := true }
def FnBoxOkUptoSaid : Prop := fnBoxOkUptoRow.holds Tryz.pinned (OpenSpec.upto fnBoxOkSpec)

/-- 'laws.FnExactBoxTurn', WHERE WHAT IT READS IS OF BULK AT MOST 1048576: true; the input reads as it did. -/
def fnExactBoxTurnUptoRow : OpenClaim := { program := "ytgpolhlmedmloaagreatdoor", sum := "d0edc057af41fb2f95817aa2acbdb047b778733b202f530d074d43c601aa0161", func := "loop.example/hatchway/laws.FnExactBoxTurn", spec := "fnExactBoxTurn", inPlace := ["internal/bytealg.CountString", "internal/bytealg.IndexByteString", "internal/bytealg.IndexString"], unfollowed := true, recurses := true, named := ["internal/bytealg.MaxLen", "loop.example/hatchway/impl.errEnd", "strconv.ErrSyntax", "strconv.ErrRange", "internal/strconv.uint64pow10", "math/bits.deBruijn32tab", "math/bits.deBruijn64tab"], ifaces := true, plainKeys := false, apart := false, laid := [("math/bits.deBruijn32tab", laid_math_bits_deBruijn32tab), ("math/bits.deBruijn64tab", laid_math_bits_deBruijn64tab), ("internal/strconv.uint64pow10", laid_internal_strconv_uint64pow10), ("strconv.ErrRange", laid_strconv_ErrRange), ("strconv.ErrSyntax", laid_strconv_ErrSyntax), ("loop.example/hatchway/impl.errEnd", laid_loop_example_hatchway_impl_errEnd)], narrowed := true }
def FnExactBoxTurnUptoSaid : Prop := fnExactBoxTurnUptoRow.holds Tryz.pinned (OpenSpec.upto fnExactBoxTurnSpec)

/-- 'laws.FnBoxPlain', WHERE WHAT IT READS IS OF BULK AT MOST 1048576: true; the input reads as it did. -/
def fnBoxPlainUptoRow : OpenClaim := { program := "ytgpolhlmedmloaagreatdoor", sum := "d0edc057af41fb2f95817aa2acbdb047b778733b202f530d074d43c601aa0161", func := "loop.example/hatchway/laws.FnBoxPlain", spec := "fnBoxPlain", inPlace := ["internal/bytealg.CountString", "internal/bytealg.IndexByteString", "internal/bytealg.IndexString", "internal/abi.NoEscape"], unfollowed := true, recurses := true, named := ["internal/bytealg.MaxLen", "loop.example/hatchway/impl.errEnd", "strconv.ErrSyntax", "strconv.ErrRange", "internal/strconv.uint64pow10", "math/bits.deBruijn32tab", "math/bits.deBruijn64tab"], ifaces := true, plainKeys := false, apart := false, laid := [("math/bits.deBruijn32tab", laid_math_bits_deBruijn32tab), ("math/bits.deBruijn64tab", laid_math_bits_deBruijn64tab), ("internal/strconv.uint64pow10", laid_internal_strconv_uint64pow10), ("strconv.ErrRange", laid_strconv_ErrRange), ("strconv.ErrSyntax", laid_strconv_ErrSyntax), ("loop.example/hatchway/impl.errEnd", laid_loop_example_hatchway_impl_errEnd)], narrowed := true }
def FnBoxPlainUptoSaid : Prop := fnBoxPlainUptoRow.holds Tryz.pinned (OpenSpec.upto fnBoxPlainSpec)

/-- 'laws.FnBoxTurn', WHERE WHAT IT READS IS OF BULK AT MOST 1048576: true; the input reads as it did. -/
def fnBoxTurnUptoRow : OpenClaim := { program := "ytgpolhlmedmloaagreatdoor", sum := "d0edc057af41fb2f95817aa2acbdb047b778733b202f530d074d43c601aa0161", func := "loop.example/hatchway/laws.FnBoxTurn", spec := "fnBoxTurn", inPlace := ["internal/bytealg.CountString", "internal/bytealg.IndexByteString", "internal/bytealg.IndexString"], unfollowed := true, recurses := true, named := ["internal/bytealg.MaxLen", "loop.example/hatchway/impl.errEnd", "strconv.ErrSyntax", "strconv.ErrRange", "internal/strconv.uint64pow10", "math/bits.deBruijn32tab", "math/bits.deBruijn64tab"], ifaces := true, plainKeys := false, apart := false, laid := [("math/bits.deBruijn32tab", laid_math_bits_deBruijn32tab), ("math/bits.deBruijn64tab", laid_math_bits_deBruijn64tab), ("internal/strconv.uint64pow10", laid_internal_strconv_uint64pow10), ("strconv.ErrRange", laid_strconv_ErrRange), ("strconv.ErrSyntax", laid_strconv_ErrSyntax), ("loop.example/hatchway/impl.errEnd", laid_loop_example_hatchway_impl_errEnd)], narrowed := true }
def FnBoxTurnUptoSaid : Prop := fnBoxTurnUptoRow.holds Tryz.pinned (OpenSpec.upto fnBoxTurnSpec)

end Rows
end Go.Proofs.YtgpolhlmedmloaaGreatDoor
