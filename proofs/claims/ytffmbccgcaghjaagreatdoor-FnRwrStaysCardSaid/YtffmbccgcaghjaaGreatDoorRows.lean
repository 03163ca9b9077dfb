/-
  NARROWER THAN 'FOR EVERY INPUT', by the rows' own cells (each row's printed sentence says how): FnRwrLine: ifaces, laid · FnExactRwrLine: ifaces, laid · FnBakRwr: ifaces, laid · FnRwrStays: ifaces, laid · FnExactRwrStream: ifaces, laid · FnRwrRoom: ifaces, laid · FnRwrAgain: ifaces, laid · FnRwrJoin: ifaces, laid · FnRwrStream: ifaces, laid.
  DERIVED. THE GIVEN ROWS OF THIS SEAT. 9 by the template 'for every input the law returns true; each argument reads behind the call as it read before'; 0 by the template 'total and deterministic' (their statements: YtffmbccgcaghjaaGreatDoorTotals.lean).
  GIVEN WITH THE SEED: the statements are not yours to turn. If you find one false, say at which input.
  Laid BY PROGRAM, IN A SANDBOX (cutbox-rows.mjs): the forced cells as the released guide's own fill.sh prints them over the translation 194f5579badce8a9… (all of the seat's roots in one cut). By AI agents, Wed Nov 11 2026. No macro, syntax, notation, axiom, sorry.
-/
import Derived.Test.YtffmbccgcaghjaaGreatDoorChecked
import GoSem.Claim
import GoSem.ClaimJoined
import GoSem.ClaimMapViews
import Derived.JoinedTies
import Derived.KernelRfl
namespace Go.Proofs.YtffmbccgcaghjaaGreatDoor
/- THE CELL 'sum', in the pinned program and in every row, IS THE sha256 OF THE DUMP (.gsa) THAT YtffmbccgcaghjaaGreatDoorProg.lean LOADS. Nothing in Lean hashes anything: it is a label: what it is worth is what the hold of that sum in a sandbox is worth. -/
noncomputable def Tryz.pinned : Pinned := { name := "ytffmbccgcaghjaagreatdoor", sum := "194f5579badce8a95ec8d242d6e5f4ab797ba2c3ec2f42dd008d00a884aba59f", checked := Tryz.checked }
namespace Rows
def none {H : Type} : Left H := { results := [], args := [] }

/- WHAT THE LISTED PACKAGE-LEVEL VARIABLES READ AS WHEN THE CALL BEGINS. Each datum BY PROGRAM (the guide's laid-datum.mjs) off the statement by which the dump's own 'gosem.cut.vars' lays the variable. In a bare row this is a premise. The card (YtffmbccgcaghjaaGreatDoorCards.lean) ties it to the program's text. -/
def laid_math_bits_deBruijn32tab {H : Type} : DataW H := .agg [.lit (.int .u8 0), .lit (.int .u8 1), .lit (.int .u8 28), .lit (.int .u8 2), .lit (.int .u8 29), .lit (.int .u8 14), .lit (.int .u8 24), .lit (.int .u8 3), .lit (.int .u8 30), .lit (.int .u8 22), .lit (.int .u8 20), .lit (.int .u8 15), .lit (.int .u8 25), .lit (.int .u8 17), .lit (.int .u8 4), .lit (.int .u8 8), .lit (.int .u8 31), .lit (.int .u8 27), .lit (.int .u8 13), .lit (.int .u8 23), .lit (.int .u8 21), .lit (.int .u8 19), .lit (.int .u8 16), .lit (.int .u8 7), .lit (.int .u8 26), .lit (.int .u8 12), .lit (.int .u8 18), .lit (.int .u8 6), .lit (.int .u8 11), .lit (.int .u8 5), .lit (.int .u8 10), .lit (.int .u8 9)]
def laid_math_bits_deBruijn64tab {H : Type} : DataW H := .agg [.lit (.int .u8 0), .lit (.int .u8 1), .lit (.int .u8 56), .lit (.int .u8 2), .lit (.int .u8 57), .lit (.int .u8 49), .lit (.int .u8 28), .lit (.int .u8 3), .lit (.int .u8 61), .lit (.int .u8 58), .lit (.int .u8 42), .lit (.int .u8 50), .lit (.int .u8 38), .lit (.int .u8 29), .lit (.int .u8 17), .lit (.int .u8 4), .lit (.int .u8 62), .lit (.int .u8 47), .lit (.int .u8 59), .lit (.int .u8 36), .lit (.int .u8 45), .lit (.int .u8 43), .lit (.int .u8 51), .lit (.int .u8 22), .lit (.int .u8 53), .lit (.int .u8 39), .lit (.int .u8 33), .lit (.int .u8 30), .lit (.int .u8 24), .lit (.int .u8 18), .lit (.int .u8 12), .lit (.int .u8 5), .lit (.int .u8 63), .lit (.int .u8 55), .lit (.int .u8 48), .lit (.int .u8 27), .lit (.int .u8 60), .lit (.int .u8 41), .lit (.int .u8 37), .lit (.int .u8 16), .lit (.int .u8 46), .lit (.int .u8 35), .lit (.int .u8 44), .lit (.int .u8 21), .lit (.int .u8 52), .lit (.int .u8 32), .lit (.int .u8 23), .lit (.int .u8 11), .lit (.int .u8 54), .lit (.int .u8 26), .lit (.int .u8 40), .lit (.int .u8 15), .lit (.int .u8 34), .lit (.int .u8 20), .lit (.int .u8 31), .lit (.int .u8 10), .lit (.int .u8 25), .lit (.int .u8 14), .lit (.int .u8 19), .lit (.int .u8 9), .lit (.int .u8 13), .lit (.int .u8 8), .lit (.int .u8 7), .lit (.int .u8 6)]
def laid_internal_strconv_uint64pow10 {H : Type} : DataW H := .agg [.lit (.int .u64 1), .lit (.int .u64 10), .lit (.int .u64 100), .lit (.int .u64 1000), .lit (.int .u64 10000), .lit (.int .u64 100000), .lit (.int .u64 1000000), .lit (.int .u64 10000000), .lit (.int .u64 100000000), .lit (.int .u64 1000000000), .lit (.int .u64 10000000000), .lit (.int .u64 100000000000), .lit (.int .u64 1000000000000), .lit (.int .u64 10000000000000), .lit (.int .u64 100000000000000), .lit (.int .u64 1000000000000000), .lit (.int .u64 10000000000000000), .lit (.int .u64 100000000000000000), .lit (.int .u64 1000000000000000000), .lit (.int .u64 10000000000000000000)]
def laid_strconv_ErrRange {H : Type} : DataW H := .iface "*errors.errorString" (.ptr (.agg [.lit (.string [118, 97, 108, 117, 101, 32, 111, 117, 116, 32, 111, 102, 32, 114, 97, 110, 103, 101])]))
def laid_strconv_ErrSyntax {H : Type} : DataW H := .iface "*errors.errorString" (.ptr (.agg [.lit (.string [105, 110, 118, 97, 108, 105, 100, 32, 115, 121, 110, 116, 97, 120])]))
def laid_loop_example_hatchway_impl_errEnd {H : Type} : DataW H := .iface "*errors.errorString" (.ptr (.agg [.lit (.string [110, 111, 32, 101, 110, 100])]))

/-- 'laws.FnRwrLine': WHATEVER THE INPUT: true; the input reads as it did. -/
def fnRwrLineSpec : ChangeSpec := { name := "fnRwrLine", vars := ["loop.example/hatchway/impl.errEnd"], fn := fun _ => fun
  | [d, g1] => { results := [.lit (.bool true)], args := [d], vars := [g1] }
  | _ => none }
def fnRwrLineRow : OpenClaim := { program := "ytffmbccgcaghjaagreatdoor", sum := "194f5579badce8a95ec8d242d6e5f4ab797ba2c3ec2f42dd008d00a884aba59f", func := "loop.example/hatchway/laws.FnRwrLine", spec := "fnRwrLine", inPlace := ["internal/bytealg.IndexByteString", "internal/bytealg.IndexString"], named := ["loop.example/hatchway/impl.errEnd", "internal/bytealg.MaxLen", "strconv.ErrSyntax", "strconv.ErrRange", "internal/strconv.uint64pow10", "math/bits.deBruijn32tab", "math/bits.deBruijn64tab"], ifaces := true, plainKeys := false, apart := false, laid := [("math/bits.deBruijn32tab", laid_math_bits_deBruijn32tab), ("math/bits.deBruijn64tab", laid_math_bits_deBruijn64tab), ("internal/strconv.uint64pow10", laid_internal_strconv_uint64pow10), ("strconv.ErrRange", laid_strconv_ErrRange), ("strconv.ErrSyntax", laid_strconv_ErrSyntax), ("loop.example/hatchway/impl.errEnd", laid_loop_example_hatchway_impl_errEnd)] }
def FnRwrLineSaid : Prop := fnRwrLineRow.holds Tryz.pinned (OpenSpec.ofChange fnRwrLineSpec)

/-- ITS FALSE NEIGHBOUR: 'it returns false'. Refute it at one input. -/
def fnRwrLineWrong : ChangeSpec := { name := "fnRwrLine", vars := ["loop.example/hatchway/impl.errEnd"], fn := fun _ => fun
  | [d, g1] => { results := [.lit (.bool false)], args := [d], vars := [g1] }
  | _ => none }
def FnRwrLineWrongFalsely : Prop := fnRwrLineRow.holds Tryz.pinned (OpenSpec.ofChange fnRwrLineWrong)

/-- 'laws.FnExactRwrLine': WHATEVER THE INPUT: true; the input reads as it did. -/
def fnExactRwrLineSpec : ChangeSpec := { name := "fnExactRwrLine", vars := ["loop.example/hatchway/impl.errEnd"], fn := fun _ => fun
  | [d1, d2, g1] => { results := [.lit (.bool true)], args := [d1, d2], vars := [g1] }
  | _ => none }
def fnExactRwrLineRow : OpenClaim := { program := "ytffmbccgcaghjaagreatdoor", sum := "194f5579badce8a95ec8d242d6e5f4ab797ba2c3ec2f42dd008d00a884aba59f", func := "loop.example/hatchway/laws.FnExactRwrLine", spec := "fnExactRwrLine", inPlace := ["internal/bytealg.IndexByteString", "internal/bytealg.IndexString"], named := ["loop.example/hatchway/impl.errEnd", "internal/bytealg.MaxLen", "strconv.ErrSyntax", "strconv.ErrRange", "internal/strconv.uint64pow10", "math/bits.deBruijn32tab", "math/bits.deBruijn64tab"], ifaces := true, plainKeys := false, apart := false, laid := [("math/bits.deBruijn32tab", laid_math_bits_deBruijn32tab), ("math/bits.deBruijn64tab", laid_math_bits_deBruijn64tab), ("internal/strconv.uint64pow10", laid_internal_strconv_uint64pow10), ("strconv.ErrRange", laid_strconv_ErrRange), ("strconv.ErrSyntax", laid_strconv_ErrSyntax), ("loop.example/hatchway/impl.errEnd", laid_loop_example_hatchway_impl_errEnd)] }
def FnExactRwrLineSaid : Prop := fnExactRwrLineRow.holds Tryz.pinned (OpenSpec.ofChange fnExactRwrLineSpec)

/-- ITS FALSE NEIGHBOUR: 'it returns false'. Refute it at one input. -/
def fnExactRwrLineWrong : ChangeSpec := { name := "fnExactRwrLine", vars := ["loop.example/hatchway/impl.errEnd"], fn := fun _ => fun
  | [d1, d2, g1] => { results := [.lit (.bool false)], args := [d1, d2], vars := [g1] }
  | _ => none }
def FnExactRwrLineWrongFalsely : Prop := fnExactRwrLineRow.holds Tryz.pinned (OpenSpec.ofChange fnExactRwrLineWrong)

/-- 'laws.FnBakRwr': WHATEVER THE INPUT: true; the input reads as it did. -/
def fnBakRwrSpec : ChangeSpec := { name := "fnBakRwr", vars := ["loop.example/hatchway/impl.errEnd"], fn := fun _ => fun
  | [d1, d2, g1] => { results := [.lit (.bool true)], args := [d1, d2], vars := [g1] }
  | _ => none }
def fnBakRwrRow : OpenClaim := { program := "ytffmbccgcaghjaagreatdoor", sum := "194f5579badce8a95ec8d242d6e5f4ab797ba2c3ec2f42dd008d00a884aba59f", func := "loop.example/hatchway/laws.FnBakRwr", spec := "fnBakRwr", inPlace := ["internal/bytealg.IndexByteString", "internal/bytealg.IndexString"], named := ["loop.example/hatchway/impl.errEnd", "internal/bytealg.MaxLen", "strconv.ErrSyntax", "strconv.ErrRange", "internal/strconv.uint64pow10", "math/bits.deBruijn32tab", "math/bits.deBruijn64tab"], ifaces := true, plainKeys := false, apart := false, laid := [("math/bits.deBruijn32tab", laid_math_bits_deBruijn32tab), ("math/bits.deBruijn64tab", laid_math_bits_deBruijn64tab), ("internal/strconv.uint64pow10", laid_internal_strconv_uint64pow10), ("strconv.ErrRange", laid_strconv_ErrRange), ("strconv.ErrSyntax", laid_strconv_ErrSyntax), ("loop.example/hatchway/impl.errEnd", laid_loop_example_hatchway_impl_errEnd)] }
def FnBakRwrSaid : Prop := fnBakRwrRow.holds Tryz.pinned (OpenSpec.ofChange fnBakRwrSpec)

/-- ITS FALSE NEIGHBOUR: 'it returns false'. Refute it at one input. -/
def fnBakRwrWrong : ChangeSpec := { name := "fnBakRwr", vars := ["loop.example/hatchway/impl.errEnd"], fn := fun _ => fun
  | [d1, d2, g1] => { results := [.lit (.bool false)], args := [d1, d2], vars := [g1] }
  | _ => none }
def FnBakRwrWrongFalsely : Prop := fnBakRwrRow.holds Tryz.pinned (OpenSpec.ofChange fnBakRwrWrong)

/-- 'laws.FnRwrStays': WHATEVER THE INPUT: true; the input reads as it did. -/
def fnRwrStaysSpec : ChangeSpec := { name := "fnRwrStays", vars := ["loop.example/hatchway/impl.errEnd"], fn := fun _ => fun
  | [d1, d2, g1] => { results := [.lit (.bool true)], args := [d1, d2], vars := [g1] }
  | _ => none }
def fnRwrStaysRow : OpenClaim := { program := "ytffmbccgcaghjaagreatdoor", sum := "194f5579badce8a95ec8d242d6e5f4ab797ba2c3ec2f42dd008d00a884aba59f", func := "loop.example/hatchway/laws.FnRwrStays", spec := "fnRwrStays", inPlace := ["internal/bytealg.CountString", "internal/bytealg.IndexByteString", "internal/bytealg.IndexString", "internal/abi.NoEscape"], unfollowed := true, recurses := true, named := ["internal/bytealg.MaxLen", "loop.example/hatchway/impl.errEnd", "strconv.ErrSyntax", "strconv.ErrRange", "internal/strconv.uint64pow10", "math/bits.deBruijn32tab", "math/bits.deBruijn64tab"], ifaces := true, plainKeys := false, apart := false, laid := [("math/bits.deBruijn32tab", laid_math_bits_deBruijn32tab), ("math/bits.deBruijn64tab", laid_math_bits_deBruijn64tab), ("internal/strconv.uint64pow10", laid_internal_strconv_uint64pow10), ("strconv.ErrRange", laid_strconv_ErrRange), ("strconv.ErrSyntax", laid_strconv_ErrSyntax), ("loop.example/hatchway/impl.errEnd", laid_loop_example_hatchway_impl_errEnd)] }
def FnRwrStaysSaid : Prop := fnRwrStaysRow.holds Tryz.pinned (OpenSpec.ofChange fnRwrStaysSpec)

/-- ITS FALSE NEIGHBOUR: 'it returns false'. Refute it at one input. -/
def fnRwrStaysWrong : ChangeSpec := { name := "fnRwrStays", vars := ["loop.example/hatchway/impl.errEnd"], fn := fun _ => fun
  | [d1, d2, g1] => { results := [.lit (.bool false)], args := [d1, d2], vars := [g1] }
  | _ => none }
def FnRwrStaysWrongFalsely : Prop := fnRwrStaysRow.holds Tryz.pinned (OpenSpec.ofChange fnRwrStaysWrong)

/-- 'laws.FnExactRwrStream': WHATEVER THE INPUT: true; the input reads as it did. -/
def fnExactRwrStreamSpec : ChangeSpec := { name := "fnExactRwrStream", vars := ["loop.example/hatchway/impl.errEnd"], fn := fun _ => fun
  | [d1, d2, g1] => { results := [.lit (.bool true)], args := [d1, d2], vars := [g1] }
  | _ => none }
def fnExactRwrStreamRow : OpenClaim := { program := "ytffmbccgcaghjaagreatdoor", sum := "194f5579badce8a95ec8d242d6e5f4ab797ba2c3ec2f42dd008d00a884aba59f", func := "loop.example/hatchway/laws.FnExactRwrStream", spec := "fnExactRwrStream", inPlace := ["internal/bytealg.CountString", "internal/bytealg.IndexByteString", "internal/bytealg.IndexString", "internal/abi.NoEscape"], unfollowed := true, recurses := true, named := ["internal/bytealg.MaxLen", "loop.example/hatchway/impl.errEnd", "strconv.ErrSyntax", "strconv.ErrRange", "internal/strconv.uint64pow10", "math/bits.deBruijn32tab", "math/bits.deBruijn64tab"], ifaces := true, plainKeys := false, apart := false, laid := [("math/bits.deBruijn32tab", laid_math_bits_deBruijn32tab), ("math/bits.deBruijn64tab", laid_math_bits_deBruijn64tab), ("internal/strconv.uint64pow10", laid_internal_strconv_uint64pow10), ("strconv.ErrRange", laid_strconv_ErrRange), ("strconv.ErrSyntax", laid_strconv_ErrSyntax), ("loop.example/hatchway/impl.errEnd", laid_loop_example_hatchway_impl_errEnd)] }
def FnExactRwrStreamSaid : Prop := fnExactRwrStreamRow.holds Tryz.pinned (OpenSpec.ofChange fnExactRwrStreamSpec)

/-- ITS FALSE NEIGHBOUR: 'it returns false'. Refute it at one input. -/
def fnExactRwrStreamWrong : ChangeSpec := { name := "fnExactRwrStream", vars := ["loop.example/hatchway/impl.errEnd"], fn := fun _ => fun
  | [d1, d2, g1] => { results := [.lit (.bool false)], args := [d1, d2], vars := [g1] }
  | _ => none }
def FnExactRwrStreamWrongFalsely : Prop := fnExactRwrStreamRow.holds Tryz.pinned (OpenSpec.ofChange fnExactRwrStreamWrong)

/-- 'laws.FnRwrRoom': WHATEVER THE INPUT: true; the input reads as it did. -/
def fnRwrRoomSpec : ChangeSpec := { name := "fnRwrRoom", vars := ["loop.example/hatchway/impl.errEnd"], fn := fun _ => fun
  | [d, g1] => { results := [.lit (.bool true)], args := [d], vars := [g1] }
  | _ => none }
def fnRwrRoomRow : OpenClaim := { program := "ytffmbccgcaghjaagreatdoor", sum := "194f5579badce8a95ec8d242d6e5f4ab797ba2c3ec2f42dd008d00a884aba59f", func := "loop.example/hatchway/laws.FnRwrRoom", spec := "fnRwrRoom", inPlace := ["internal/bytealg.CountString", "internal/bytealg.IndexByteString", "internal/bytealg.IndexString", "internal/abi.NoEscape"], unfollowed := true, recurses := true, named := ["internal/bytealg.MaxLen", "loop.example/hatchway/impl.errEnd", "strconv.ErrSyntax", "strconv.ErrRange", "internal/strconv.uint64pow10", "math/bits.deBruijn32tab", "math/bits.deBruijn64tab"], ifaces := true, plainKeys := false, apart := false, laid := [("math/bits.deBruijn32tab", laid_math_bits_deBruijn32tab), ("math/bits.deBruijn64tab", laid_math_bits_deBruijn64tab), ("internal/strconv.uint64pow10", laid_internal_strconv_uint64pow10), ("strconv.ErrRange", laid_strconv_ErrRange), ("strconv.ErrSyntax", laid_strconv_ErrSyntax), ("loop.example/hatchway/impl.errEnd", laid_loop_example_hatchway_impl_errEnd)] }
def FnRwrRoomSaid : Prop := fnRwrRoomRow.holds Tryz.pinned (OpenSpec.ofChange fnRwrRoomSpec)

/-- ITS FALSE NEIGHBOUR: 'it returns false'. Refute it at one input. -/
def fnRwrRoomWrong : ChangeSpec := { name := "fnRwrRoom", vars := ["loop.example/hatchway/impl.errEnd"], fn := fun _ => fun
  | [d, g1] => { results := [.lit (.bool false)], args := [d], vars := [g1] }
  | _ => none }
def FnRwrRoomWrongFalsely : Prop := fnRwrRoomRow.holds Tryz.pinned (OpenSpec.ofChange fnRwrRoomWrong)

/-- 'laws.FnRwrAgain': WHATEVER THE INPUT: true; the input reads as it did. -/
def fnRwrAgainSpec : ChangeSpec := { name := "fnRwrAgain", vars := ["loop.example/hatchway/impl.errEnd"], fn := fun _ => fun
  | [d, g1] => { results := [.lit (.bool true)], args := [d], vars := [g1] }
  | _ => none }
def fnRwrAgainRow : OpenClaim := { program := "ytffmbccgcaghjaagreatdoor", sum := "194f5579badce8a95ec8d242d6e5f4ab797ba2c3ec2f42dd008d00a884aba59f", func := "loop.example/hatchway/laws.FnRwrAgain", spec := "fnRwrAgain", inPlace := ["internal/bytealg.CountString", "internal/bytealg.IndexByteString", "internal/bytealg.IndexString", "internal/abi.NoEscape"], unfollowed := true, recurses := true, named := ["internal/bytealg.MaxLen", "loop.example/hatchway/impl.errEnd", "strconv.ErrSyntax", "strconv.ErrRange", "internal/strconv.uint64pow10", "math/bits.deBruijn32tab", "math/bits.deBruijn64tab"], ifaces := true, plainKeys := false, apart := false, laid := [("math/bits.deBruijn32tab", laid_math_bits_deBruijn32tab), ("math/bits.deBruijn64tab", laid_math_bits_deBruijn64tab), ("internal/strconv.uint64pow10", laid_internal_strconv_uint64pow10), ("strconv.ErrRange", laid_strconv_ErrRange), ("strconv.ErrSyntax", laid_strconv_ErrSyntax), ("loop.example/hatchway/impl.errEnd", laid_loop_example_hatchway_impl_errEnd)] }
def FnRwrAgainSaid : Prop := fnRwrAgainRow.holds Tryz.pinned (OpenSpec.ofChange fnRwrAgainSpec)

/-- ITS FALSE NEIGHBOUR: 'it returns false'. Refute it at one input. -/
def fnRwrAgainWrong : ChangeSpec := { name := "fnRwrAgain", vars := ["loop.example/hatchway/impl.errEnd"], fn := fun _ => fun
  | [d, g1] => { results := [.lit (.bool false)], args := [d], vars := [g1] }
  | _ => none }
def FnRwrAgainWrongFalsely : Prop := fnRwrAgainRow.holds Tryz.pinned (OpenSpec.ofChange fnRwrAgainWrong)

/-- 'laws.FnRwrJoin': WHATEVER THE INPUT: true; the input reads as it did. -/
def fnRwrJoinSpec : ChangeSpec := { name := "fnRwrJoin", vars := ["loop.example/hatchway/impl.errEnd"], fn := fun _ => fun
  | [d1, d2, g1] => { results := [.lit (.bool true)], args := [d1, d2], vars := [g1] }
  | _ => none }
def fnRwrJoinRow : OpenClaim := { program := "ytffmbccgcaghjaagreatdoor", sum := "194f5579badce8a95ec8d242d6e5f4ab797ba2c3ec2f42dd008d00a884aba59f", func := "loop.example/hatchway/laws.FnRwrJoin", spec := "fnRwrJoin", inPlace := ["internal/bytealg.CountString", "internal/bytealg.IndexByteString", "internal/bytealg.IndexString", "internal/abi.NoEscape"], unfollowed := true, recurses := true, named := ["internal/bytealg.MaxLen", "loop.example/hatchway/impl.errEnd", "strconv.ErrSyntax", "strconv.ErrRange", "internal/strconv.uint64pow10", "math/bits.deBruijn32tab", "math/bits.deBruijn64tab"], ifaces := true, plainKeys := false, apart := false, laid := [("math/bits.deBruijn32tab", laid_math_bits_deBruijn32tab), ("math/bits.deBruijn64tab", laid_math_bits_deBruijn64tab), ("internal/strconv.uint64pow10", laid_internal_strconv_uint64pow10), ("strconv.ErrRange", laid_strconv_ErrRange), ("strconv.ErrSyntax", laid_strconv_ErrSyntax), ("loop.example/hatchway/impl.errEnd", laid_loop_example_hatchway_impl_errEnd)] }
def FnRwrJoinSaid : Prop := fnRwrJoinRow.holds Tryz.pinned (OpenSpec.ofChange fnRwrJoinSpec)

/-- ITS FALSE NEIGHBOUR: 'it returns false'. Refute it at one input. -/
def fnRwrJoinWrong : ChangeSpec := { name := "fnRwrJoin", vars := ["loop.example/hatchway/impl.errEnd"], fn := fun _ => fun
  | [d1, d2, g1] => { results := [.lit (.bool false)], args := [d1, d2], vars := [g1] }
  | _ => none }
def FnRwrJoinWrongFalsely : Prop := fnRwrJoinRow.holds Tryz.pinned (OpenSpec.ofChange fnRwrJoinWrong)

/-- 'laws.FnRwrStream': WHATEVER THE INPUT: true; the input reads as it did. -/
def fnRwrStreamSpec : ChangeSpec := { name := "fnRwrStream", vars := ["loop.example/hatchway/impl.errEnd"], fn := fun _ => fun
  | [d, g1] => { results := [.lit (.bool true)], args := [d], vars := [g1] }
  | _ => none }
def fnRwrStreamRow : OpenClaim := { program := "ytffmbccgcaghjaagreatdoor", sum := "194f5579badce8a95ec8d242d6e5f4ab797ba2c3ec2f42dd008d00a884aba59f", func := "loop.example/hatchway/laws.FnRwrStream", spec := "fnRwrStream", inPlace := ["internal/bytealg.CountString", "internal/bytealg.IndexByteString", "internal/bytealg.IndexString", "internal/abi.NoEscape"], unfollowed := true, recurses := true, named := ["internal/bytealg.MaxLen", "loop.example/hatchway/impl.errEnd", "strconv.ErrSyntax", "strconv.ErrRange", "internal/strconv.uint64pow10", "math/bits.deBruijn32tab", "math/bits.deBruijn64tab"], ifaces := true, plainKeys := false, apart := false, laid := [("math/bits.deBruijn32tab", laid_math_bits_deBruijn32tab), ("math/bits.deBruijn64tab", laid_math_bits_deBruijn64tab), ("internal/strconv.uint64pow10", laid_internal_strconv_uint64pow10), ("strconv.ErrRange", laid_strconv_ErrRange), ("strconv.ErrSyntax", laid_strconv_ErrSyntax), ("loop.example/hatchway/impl.errEnd", laid_loop_example_hatchway_impl_errEnd)] }
def FnRwrStreamSaid : Prop := fnRwrStreamRow.holds Tryz.pinned (OpenSpec.ofChange fnRwrStreamSpec)

/-- ITS FALSE NEIGHBOUR: 'it returns false'. Refute it at one input. -/
def fnRwrStreamWrong : ChangeSpec := { name := "fnRwrStream", vars := ["loop.example/hatchway/impl.errEnd"], fn := fun _ => fun
  | [d, g1] => { results := [.lit (.bool false)], args := [d], vars := [g1] }
  | _ => none }
def FnRwrStreamWrongFalsely : Prop := fnRwrStreamRow.holds Tryz.pinned (OpenSpec.ofChange fnRwrStreamWrong)

/- THE SECOND FORM. 'bulk': how many values and letters a reading holds, each counted each time it is reached (what is shared counts as often as it is met; a slice's spare places count too). A statement '..UptoSaid' is the law's where the arguments, and the package variables that the reading takes, are together of bulk at most 1048576: NARROWER than '..Said'. Prove '..Said' where nothing that the law and all that it calls make is longer than what came in: it says more and counts as full. Else prove '..UptoSaid'. A law counts once. -/
mutual
def uptoBulk {H : Type} : DataW H → Nat
  | .lit (.string bytes) => bytes.length + 1
  | .lit _ => 1
  | .nil => 1
  | .ptr d => uptoBulk d + 1
  | .slice elems spare => uptoBulkAll elems + uptoBulkAll spare + 1
  | .agg parts => uptoBulkAll parts + 1
  | .iface _ d => uptoBulk d + 1
  | .map entries => uptoBulkEntries entries + 1
  | .held _ => 1
def uptoBulkAll {H : Type} : List (DataW H) → Nat
  | [] => 0
  | d :: r => uptoBulk d + uptoBulkAll r
def uptoBulkEntries {H : Type} : List (Lit × DataW H) → Nat
  | [] => 0
  | x :: r => uptoBulkEntry x + uptoBulkEntries r
def uptoBulkEntry {H : Type} : Lit × DataW H → Nat
  | (.string bytes, d) => bytes.length + uptoBulk d + 1
  | (_, d) => uptoBulk d + 1
 end
def uptoSmall : (H : Type) → List (DataW H) → Bool := fun _ ds => decide (uptoBulkAll ds ≤ 1048576)
def OpenSpec.upto (s : _root_.Go.ChangeSpec) : _root_.Go.OpenSpec := { _root_.Go.OpenSpec.ofChange s with cond := some uptoSmall }

/-- 'laws.FnRwrLine', WHERE WHAT IT READS IS OF BULK AT MOST 1048576: true; the input reads as it did. -/
def fnRwrLineUptoRow : OpenClaim := { program := "ytffmbccgcaghjaagreatdoor", sum := "194f5579badce8a95ec8d242d6e5f4ab797ba2c3ec2f42dd008d00a884aba59f", func := "loop.example/hatchway/laws.FnRwrLine", spec := "fnRwrLine", inPlace := ["internal/bytealg.IndexByteString", "internal/bytealg.IndexString"], named := ["loop.example/hatchway/impl.errEnd", "internal/bytealg.MaxLen", "strconv.ErrSyntax", "strconv.ErrRange", "internal/strconv.uint64pow10", "math/bits.deBruijn32tab", "math/bits.deBruijn64tab"], ifaces := true, plainKeys := false, apart := false, laid := [("math/bits.deBruijn32tab", laid_math_bits_deBruijn32tab), ("math/bits.deBruijn64tab", laid_math_bits_deBruijn64tab), ("internal/strconv.uint64pow10", laid_internal_strconv_uint64pow10), ("strconv.ErrRange", laid_strconv_ErrRange), ("strconv.ErrSyntax", laid_strconv_ErrSyntax), ("loop.example/hatchway/impl.errEnd", laid_loop_example_hatchway_impl_errEnd)], narrowed := true }
def FnRwrLineUptoSaid : Prop := fnRwrLineUptoRow.holds Tryz.pinned (OpenSpec.upto fnRwrLineSpec)

/-- 'laws.FnExactRwrLine', WHERE WHAT IT READS IS OF BULK AT MOST 1048576: true; the input reads as it did. -/
def fnExactRwrLineUptoRow : OpenClaim := { program := "ytffmbccgcaghjaagreatdoor", sum := "194f5579badce8a95ec8d242d6e5f4ab797ba2c3ec2f42dd008d00a884aba59f", func := "loop.example/hatchway/laws.FnExactRwrLine", spec := "fnExactRwrLine", inPlace := ["internal/bytealg.IndexByteString", "internal/bytealg.IndexString"], named := ["loop.example/hatchway/impl.errEnd", "internal/bytealg.MaxLen", "strconv.ErrSyntax", "strconv.ErrRange", "internal/strconv.uint64pow10", "math/bits.deBruijn32tab", "math/bits.deBruijn64tab"], ifaces := true, plainKeys := false, apart := false, laid := [("math/bits.deBruijn32tab", laid_math_bits_deBruijn32tab), ("math/bits.deBruijn64tab", laid_math_bits_deBruijn64tab), ("internal/strconv.uint64pow10", laid_internal_strconv_uint64pow10), ("strconv.ErrRange", laid_strconv_ErrRange), ("strconv.ErrSyntax", laid_strconv_ErrSyntax), ("loop.example/hatchway/impl.errEnd", laid_loop_example_hatchway_impl_errEnd)], narrowed := true }
def FnExactRwrLineUptoSaid : Prop := fnExactRwrLineUptoRow.holds Tryz.pinned (OpenSpec.upto fnExactRwrLineSpec)

/-- 'laws.FnBakRwr', WHERE WHAT IT READS IS OF BULK AT MOST 1048576: true; the input reads as it did. -/
def fnBakRwrUptoRow : OpenClaim := { program := "ytffmbccgcaghjaagreatdoor", sum := "194f5579badce8a95ec8d242d6e5f4ab797ba2c3ec2f42dd008d00a884aba59f", func := "loop.example/hatchway/laws.FnBakRwr", spec := "fnBakRwr", inPlace := ["internal/bytealg.IndexByteString", "internal/bytealg.IndexString"], named := ["loop.example/hatchway/impl.errEnd", "internal/bytealg.MaxLen", "strconv.ErrSyntax", "strconv.ErrRange", "internal/strconv.uint64pow10", "math/bits.deBruijn32tab", "math/bits.deBruijn64tab"], ifaces := true, plainKeys := false, apart := false, laid := [("math/bits.deBruijn32tab", laid_math_bits_deBruijn32tab), ("math/bits.deBruijn64tab", laid_math_bits_deBruijn64tab), ("internal/strconv.uint64pow10", laid_internal_strconv_uint64pow10), ("strconv.ErrRange", laid_strconv_ErrRange), ("strconv.ErrSyntax", laid_strconv_ErrSyntax), ("loop.example/hatchway/impl.errEnd", laid_loop_example_hatchway_impl_errEnd)], narrowed := true }
def FnBakRwrUptoSaid : Prop := fnBakRwrUptoRow.holds Tryz.pinned (OpenSpec.upto fnBakRwrSpec)

/-- 'laws.FnRwrStays', WHERE WHAT IT READS IS OF BULK AT MOST 1048576: true; the input reads as it did. -/
def fnRwrStaysUptoRow : OpenClaim := { program := "ytffmbccgcaghjaagreatdoor", sum := "194f5579badce8a95ec8d242d6e5f4ab797ba2c3ec2f42dd008d00a884aba59f", func := "loop.example/hatchway/laws.FnRwrStays", spec := "fnRwrStays", inPlace := ["internal/bytealg.CountString", "internal/bytealg.IndexByteString", "internal/bytealg.IndexString", "internal/abi.NoEscape"], unfollowed := true, recurses := true, named := ["internal/bytealg.MaxLen", "loop.example/hatchway/impl.errEnd", "strconv.ErrSyntax", "strconv.ErrRange", "internal/strconv.uint64pow10", "math/bits.deBruijn32tab", "math/bits.deBruijn64tab"], ifaces := true, plainKeys := false, apart := false, laid := [("math/bits.deBruijn32tab", laid_math_bits_deBruijn32tab), ("math/bits.deBruijn64tab", laid_math_bits_deBruijn64tab), ("internal/strconv.uint64pow10", laid_internal_strconv_uint64pow10), ("strconv.ErrRange", laid_strconv_ErrRange), ("strconv.ErrSyntax", laid_strconv_ErrSyntax), ("loop.example/hatchway/impl.errEnd", laid_loop_example_hatchway_impl_errEnd)], narrowed := true }
def FnRwrStaysUptoSaid : Prop := fnRwrStaysUptoRow.holds Tryz.pinned (OpenSpec.upto fnRwrStaysSpec)

/-- 'laws.FnExactRwrStream', WHERE WHAT IT READS IS OF BULK AT MOST 1048576: true; the input reads as it did. -/
def fnExactRwrStreamUptoRow : OpenClaim := { program := "ytffmbccgcaghjaagreatdoor", sum := "194f5579badce8a95ec8d242d6e5f4ab797ba2c3ec2f42dd008d00a884aba59f", func := "loop.example/hatchway/laws.FnExactRwrStream", spec := "fnExactRwrStream", inPlace := ["internal/bytealg.CountString", "internal/bytealg.IndexByteString", "internal/bytealg.IndexString", "internal/abi.NoEscape"], unfollowed := true, recurses := true, named := ["internal/bytealg.MaxLen", "loop.example/hatchway/impl.errEnd", "strconv.ErrSyntax", "strconv.ErrRange", "internal/strconv.uint64pow10", "math/bits.deBruijn32tab", "math/bits.deBruijn64tab"], ifaces := true, plainKeys := false, apart := false, laid := [("math/bits.deBruijn32tab", laid_math_bits_deBruijn32tab), ("math/bits.deBruijn64tab", laid_math_bits_deBruijn64tab), ("internal/strconv.uint64pow10", laid_internal_strconv_uint64pow10), ("strconv.ErrRange", laid_strconv_ErrRange), ("strconv.ErrSyntax", laid_strconv_ErrSyntax), ("loop.example/hatchway/impl.errEnd", laid_loop_example_hatchway_impl_errEnd)], narrowed := true }
def FnExactRwrStreamUptoSaid : Prop := fnExactRwrStreamUptoRow.holds Tryz.pinned (OpenSpec.upto fnExactRwrStreamSpec)

/-- 'laws.FnRwrRoom', WHERE WHAT IT READS IS OF BULK AT MOST 1048576: true; the input reads as it did. -/
def fnRwrRoomUptoRow : OpenClaim := { program := "ytffmbccgcaghjaagreatdoor", sum := "194f5579badce8a95ec8d242d6e5f4ab797ba2c3ec2f42dd008d00a884aba59f", func := "loop.example/hatchway/laws.FnRwrRoom", spec := "fnRwrRoom", inPlace := ["internal/bytealg.CountString", "internal/bytealg.IndexByteString", "internal/bytealg.IndexString", "internal/abi.NoEscape"], unfollowed := true, recurses := true, named := ["internal/bytealg.MaxLen", "loop.example/hatchway/impl.errEnd", "strconv.ErrSyntax", "strconv.ErrRange", "internal/strconv.uint64pow10", "math/bits.deBruijn32tab", "math/bits.deBruijn64tab"], ifaces := true, plainKeys := false, apart := false, laid := [("math/bits.deBruijn32tab", laid_math_bits_deBruijn32tab), ("math/bits.deBruijn64tab", laid_math_bits_deBruijn64tab), ("internal/strconv.uint64pow10", laid_internal_strconv_uint64pow10), ("strconv.ErrRange", laid_strconv_ErrRange), ("strconv.ErrSyntax", laid_strconv_ErrSyntax), ("loop.example/hatchway/impl.errEnd", laid_loop_example_hatchway_impl_errEnd)], narrowed := true }
def FnRwrRoomUptoSaid : Prop := fnRwrRoomUptoRow.holds Tryz.pinned (OpenSpec.upto fnRwrRoomSpec)

/-- 'laws.FnRwrAgain', WHERE WHAT IT READS IS OF BULK AT MOST 1048576: true; the input reads as it did. -/
def fnRwrAgainUptoRow : OpenClaim := { program := "ytffmbccgcaghjaagreatdoor", sum := "194f5579badce8a95ec8d242d6e5f4ab797ba2c3ec2f42dd008d00a884aba59f", func := "loop.example/hatchway/laws.FnRwrAgain", spec := "fnRwrAgain", inPlace := ["internal/bytealg.CountString", "internal/bytealg.IndexByteString", "internal/bytealg.IndexString", "internal/abi.NoEscape"], unfollowed := true, recurses := true, named := ["internal/bytealg.MaxLen", "loop.example/hatchway/impl.errEnd", "strconv.ErrSyntax", "strconv.ErrRange", "internal/strconv.uint64pow10", "math/bits.deBruijn32tab", "math/bits.deBruijn64tab"], ifaces := true, plainKeys := false, apart := false, laid := [("math/bits.deBruijn32tab", laid_math_bits_deBruijn32tab), ("math/bits.deBruijn64tab", laid_math_bits_deBruijn64tab), ("internal/strconv.uint64pow10", laid_internal_strconv_uint64pow10), ("strconv.ErrRange", laid_strconv_ErrRange), ("strconv.ErrSyntax", laid_strconv_ErrSyntax), ("loop.example/hatchway/impl.errEnd", laid_loop_example_hatchway_impl_errEnd)], narrowed := true }
def FnRwrAgainUptoSaid : Prop := fnRwrAgainUptoRow.holds Tryz.pinned (OpenSpec.upto fnRwrAgainSpec)

/-- 'laws.FnRwrJoin', WHERE WHAT IT READS IS OF BULK AT MOST 1048576: true; the input reads as it did. -/
def fnRwrJoinUptoRow : OpenClaim := { program := "ytffmbccgcaghjaagreatdoor", sum := "194f5579badce8a95ec8d242d6e5f4ab797ba2c3ec2f42dd008d00a884aba59f", func := "loop.example/hatchway/laws.FnRwrJoin", spec := "fnRwrJoin", inPlace := ["internal/bytealg.CountString", "internal/bytealg.IndexByteString", "internal/bytealg.IndexString", "internal/abi.NoEscape"], unfollowed := true, recurses := true, named := ["internal/bytealg.MaxLen", "loop.example/hatchway/impl.errEnd", "strconv.ErrSyntax", "strconv.ErrRange", "internal/strconv.uint64pow10", "math/bits.deBruijn32tab", "math/bits.deBruijn64tab"], ifaces := true, plainKeys := false, apart := false, laid := [("math/bits.deBruijn32tab", laid_math_bits_deBruijn32tab), ("math/bits.deBruijn64tab", laid_math_bits_deBruijn64tab), ("internal/strconv.uint64pow10", laid_internal_strconv_uint64pow10), ("strconv.ErrRange", laid_strconv_ErrRange), ("strconv.ErrSyntax", laid_strconv_ErrSyntax), ("loop.example/hatchway/impl.errEnd", laid_loop_example_hatchway_impl_errEnd)], narrowed := true }
def FnRwrJoinUptoSaid : Prop := fnRwrJoinUptoRow.holds Tryz.pinned (OpenSpec.upto fnRwrJoinSpec)

/-- 'laws.FnRwrStream', WHERE WHAT IT READS IS OF BULK AT MOST 1048576: true; the input reads as it did. -/
def fnRwrStreamUptoRow : OpenClaim := { program := "ytffmbccgcaghjaagreatdoor", sum := "194f5579badce8a95ec8d242d6e5f4ab797ba2c3ec2f42dd008d00a884aba59f", func := "loop.example/hatchway/laws.FnRwrStream", spec := "fnRwrStream", inPlace := ["internal/bytealg.CountString", "internal/bytealg.IndexByteString", "internal/bytealg.IndexString", "internal/abi.NoEscape"], unfollowed := true, recurses := true, named := ["internal/bytealg.MaxLen", "loop.example/hatchway/impl.errEnd", "strconv.ErrSyntax", "strconv.ErrRange", "internal/strconv.uint64pow10", "math/bits.deBruijn32tab", "math/bits.deBruijn64tab"], ifaces := true, plainKeys := false, apart := false, laid := [("math/bits.deBruijn32tab", laid_math_bits_deBruijn32tab), ("math/bits.deBruijn64tab", laid_math_bits_deBruijn64tab), ("internal/strconv.uint64pow10", laid_internal_strconv_uint64pow10), ("strconv.ErrRange", laid_strconv_ErrRange), ("strconv.ErrSyntax", laid_strconv_ErrSyntax), ("loop.example/hatchway/impl.errEnd", laid_loop_example_hatchway_impl_errEnd)], narrowed := true }
def FnRwrStreamUptoSaid : Prop := fnRwrStreamUptoRow.holds Tryz.pinned (OpenSpec.upto fnRwrStreamSpec)

end Rows
end Go.Proofs.YtffmbccgcaghjaaGreatDoor
