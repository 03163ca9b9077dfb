import Derived.Test.YtiocgkggegahhaaDoorProg
import Derived.Below
import Derived.Deep.Draws
import Derived.Deep.AppendLies
import Derived.Maps.AppendAt
import Derived.OwnWalk
import Derived.Laws.BytesArg
import Derived.Laws.MakeOwn
import Derived.Laws.OwnMore
import Derived.Deep.OwnRows
import Derived.Tactics
import Derived.Lib.ConvBytes
import Derived.Laws.Slices
import Derived.WalkKit
import Derived.KernelRfl
import Derived.RowKit3
import Derived.Deep.LoopGhost
import Derived.Deep.QuietTactic
import Derived.BigQuiet
import Derived.WideLaws
import Derived.Deep.DeepCutAuto
import Derived.Deep.CutBlock
import Derived.Deep.RegionHeld3
import Derived.Laws.Rows
import Derived.Lib.AppendStr
import Derived.ArgAppend
import Derived.Laws.IdiomCopy
import Derived.OrdersHeld
import Derived.Laws.BitsLemmas
import Derived.RowKit
import Derived.Test.YtiocgkggegahhaaDoorUFnExactRulTextWords
import Derived.Test.YtiocgkggegahhaaDoorUFnExactRulTextLast
import Derived.Test.YtiocgkggegahhaaDoorUFnExactRulTextTab
import Derived.Test.YtiocgkggegahhaaDoorUFnExactRulTextFour
import Derived.Test.YtiocgkggegahhaaDoorUFnExactRulTextQPut
import Derived.Test.YtiocgkggegahhaaDoorUFnExactRulTextApart
import Derived.Test.YtiocgkggegahhaaDoorUFnExactRulTextArr
import Derived.Test.YtiocgkggegahhaaDoorUFnExactRulTextZeros
import Derived.Test.YtiocgkggegahhaaDoorUFnExactRulTextFoot
import Derived.Test.YtiocgkggegahhaaDoorUFnExactRulTextKept
import Derived.Test.YtiocgkggegahhaaDoorUFnExactRulTextShare
import Derived.Test.YtiocgkggegahhaaDoorUFnExactRulTextN
import Derived.Test.YtiocgkggegahhaaDoorUFnExactRulTextFootNe
import Derived.Test.YtiocgkggegahhaaDoorUFnExactRulTextAt
import Derived.Test.YtiocgkggegahhaaDoorUFnExactRulTextEqStruct
import Derived.Test.YtiocgkggegahhaaDoorUFnExactRulTextRepsOne
import Derived.Test.YtiocgkggegahhaaDoorUFnExactRulTextInv
import Derived.Test.YtiocgkggegahhaaDoorUFnExactRulTextInvWords
import Derived.Test.YtiocgkggegahhaaDoorUFnExactRulTextGuard
import Derived.Test.YtiocgkggegahhaaDoorUFnExactRulTextNEv
import Derived.Test.YtiocgkggegahhaaDoorUFnExactRulTextMore
import Derived.Shelf.LaysM
import Derived.Shelf.Strconv.Itoa3
import Derived.Shelf.LaysC
import Derived.Shelf.Strconv.AtoiAll
import Derived.Shelf.Strings.Split
import Derived.Shelf.Vars
import Derived.Shelf.Lays
import Derived.Lib.Hide
import Derived.WalkSmall
import Derived.Test.YtiocgkggegahhaaDoorRows
import Derived.Lay
import Derived.LaidSub
import Derived.MakeChecks
import Derived.Stop.Joined
import Derived.Deep.DeepHandedRow
import Derived.Lib.LaidTab
-- written by hw.py for this claim
namespace Go.Proofs.YtiocgkggegahhaaDoor.P
open Go.RowKit Go.Proofs.YtiocgkggegahhaaDoorUFnExactRulText.PrintWords Go.Proofs.YtiocgkggegahhaaDoorUFnExactRulText.PrintLast Go.Proofs.YtiocgkggegahhaaDoorUFnExactRulText.PrintMore
attribute [local go_sem] max2_int min2_int max_two min_two max_three min_three max_four min_four
set_option linter.unusedVariables false
set_option linter.unusedSimpArgs false

def errW : Option Int → Value
  | none => .nilIface
  | some c => .iface 67 (.int .i64 c)
theorem errW_none : errW none = .nilIface := rfl
theorem errW_some (c : Int) : errW (some c) = .iface 67 (.int .i64 c) := rfl

theorem info3 : (Tryd.prog.info? 3).map (fun i => (i.zero, i.size, i.bytes)) = some (some (.int .i64 0), 1, 8) := by kernel_rfl
theorem info5 : (Tryd.prog.info? 5).map (fun i => (i.zero, i.size, i.bytes)) = some (some (.int .u8 0), 1, 1) := by kernel_rfl
theorem info9 : (Tryd.prog.info? 9).map (fun i => (i.zero, i.size, i.bytes)) = some (some (.string ⟨#[]⟩), 1, 16) := by kernel_rfl

end Go.Proofs.YtiocgkggegahhaaDoor.P

/-
  DERIVED: THE SHELF's CONTRACTS AT THIS DUMP, IN PLAIN WORDS (tools/lay-plain.mjs out of 'TrydShelf.lean', which tools/lay-shelf.mjs wrote): THE SAME DECLARATIONS UNDER THE SAME NAMES: 'import', 'namespace', 'open', 'def', 'theorem' AND NOTHING ELSE: no command of the shelf's: FOR A HAND-IN. Each laying: the table of numbers ('.._ren') and one theorem, a field a fact of the dump's own or the kernel's comparison; each contract: ONE APPLICATION.
-/
namespace Go.Proofs
open Go.Shelf
def Tryd.laysM171_ren : Go.Shelf.Ren := ⟨fun | 171 => 19 | 243 => 33 | 246 => 40 | 283 => 49 | 284 => 50 | 285 => 51 | 286 => 52 | 129 => 61 | 317 => 60 | 318 => 62 | 319 => 63 | 320 => 64 | 337 => 72 | 338 => 73 | n => n, fun | 3 => 3 | 9 => 9 | 2 => 2 | 4 => 4 | 171 => 73 | 0 => 0 | 53 => 74 | 37 => 32 | 5 => 5 | 173 => 77 | 212 => 90 | 51 => 91 | 20 => 20 | 213 => 92 | 46 => 84 | 232 => 106 | 233 => 107 | n => n, fun | 17 => 2 | 18 => 6 | 19 => 7 | n => n⟩
theorem Tryd.laysM171 : Go.Proofs.LaysM.n171 Tryd.prog Tryd.laysM171_ren := {
  mixed := by kernel_rfl
  f129 := Tryd.func61.trans (congrArg some (by kernel_rfl))
  f171 := Tryd.func19.trans (congrArg some (by kernel_rfl))
  f243 := Tryd.func33.trans (congrArg some (by kernel_rfl))
  f246 := Tryd.func40.trans (congrArg some (by kernel_rfl))
  f283 := Tryd.func49.trans (congrArg some (by kernel_rfl))
  f284 := Tryd.func50.trans (congrArg some (by kernel_rfl))
  f285 := Tryd.func51.trans (congrArg some (by kernel_rfl))
  f286 := Tryd.func52.trans (congrArg some (by kernel_rfl))
  f317 := Tryd.func60.trans (congrArg some (by kernel_rfl))
  f318 := Tryd.func62.trans (congrArg some (by kernel_rfl))
  f319 := Tryd.func63.trans (congrArg some (by kernel_rfl))
  f320 := Tryd.func64.trans (congrArg some (by kernel_rfl))
  f337 := Tryd.func72.trans (congrArg some (by kernel_rfl))
  f338 := Tryd.func73.trans (congrArg some (by kernel_rfl))
  t0 := Tryd.underlying0
  a0 := Tryd.isAgg0
  z0 := Tryd.sizeOf0
  v0 := Tryd.zeroValue0
  t2 := Tryd.underlying2
  a2 := Tryd.isAgg2
  z2 := Tryd.sizeOf2
  v2 := Tryd.zeroValue2
  t3 := Tryd.underlying3
  a3 := Tryd.isAgg3
  z3 := Tryd.sizeOf3
  v3 := Tryd.zeroValue3
  t4 := Tryd.underlying4
  a4 := Tryd.isAgg4
  z4 := Tryd.sizeOf4
  v4 := Tryd.zeroValue4
  t5 := Tryd.underlying5
  a5 := Tryd.isAgg5
  z5 := Tryd.sizeOf5
  v5 := Tryd.zeroValue5
  t9 := Tryd.underlying9
  a9 := Tryd.isAgg9
  z9 := Tryd.sizeOf9
  v9 := Tryd.zeroValue9
  t20 := Tryd.underlying20
  a20 := Tryd.isAgg20
  z20 := Tryd.sizeOf20
  v20 := Tryd.zeroValue20
  t37 := Tryd.underlying32
  a37 := Tryd.isAgg32
  z37 := Tryd.sizeOf32
  v37 := Tryd.zeroValue32
  t46 := Tryd.underlying84
  a46 := Tryd.isAgg84
  z46 := Tryd.sizeOf84
  v46 := Tryd.zeroValue84
  t51 := Tryd.underlying91
  a51 := Tryd.isAgg91
  z51 := Tryd.sizeOf91
  v51 := Tryd.zeroValue91
  t53 := Tryd.underlying74
  a53 := Tryd.isAgg74
  z53 := Tryd.sizeOf74
  v53 := Tryd.zeroValue74
  t171 := Tryd.underlying73
  a171 := Tryd.isAgg73
  z171 := Tryd.sizeOf73
  v171 := Tryd.zeroValue73
  t173 := Tryd.underlying77
  a173 := Tryd.isAgg77
  z173 := Tryd.sizeOf77
  v173 := Tryd.zeroValue77
  t212 := Tryd.underlying90
  a212 := Tryd.isAgg90
  z212 := Tryd.sizeOf90
  v212 := Tryd.zeroValue90
  t213 := Tryd.underlying92
  a213 := Tryd.isAgg92
  z213 := Tryd.sizeOf92
  t232 := Tryd.underlying106
  a232 := Tryd.isAgg106
  z232 := Tryd.sizeOf106
  v232 := Tryd.zeroValue106
  t233 := Tryd.underlying107
  a233 := Tryd.isAgg107
  z233 := Tryd.sizeOf107
  v233 := Tryd.zeroValue107
  g17 := by kernel_rfl
  g18 := by kernel_rfl
  g19 := by kernel_rfl
  i0 := by kernel_rfl
  i2 := by kernel_rfl
  i3 := by kernel_rfl
  i4 := by kernel_rfl
  i5 := by kernel_rfl
  i9 := by kernel_rfl
  i20 := by kernel_rfl
  i37 := by kernel_rfl
  i46 := by kernel_rfl
  i51 := by kernel_rfl
  i53 := by kernel_rfl
  i171 := by kernel_rfl
  i173 := by kernel_rfl
  i212 := by kernel_rfl
  i232 := by kernel_rfl
  i233 := by kernel_rfl
  m17 := by kernel_rfl
  m18 := by kernel_rfl
  m19 := by kernel_rfl }
open Go.RowKit Go.Sort Go.Lib in
/-- strconv.Itoa: "Itoa is equivalent to FormatInt(int64(i), 10).": i's DECIMAL NUMERAL ('Lib.itoa': a '-' where i is negative, then the digits), FOR EVERY int. The world behind the call: the world before it, new blocks behind the heap (the library's 'var a [24]byte'), draws. (LAID: no walk: one application.) -/
theorem Tryd.strconv_Itoa (n : Int) (h0 : -9223372036854775808 ≤ n) (h1 : n ≤ 9223372036854775807) (w : World) (htab : Lib.TabIs Tryd.prog w "internal/strconv.uint64pow10" .u64 Lib.pow10Tab) :
    Calls Tryd.prog 19 #[.int .i64 n] w fun e w' => e = .returned (.string ⟨(Lib.itoa n).toArray⟩) ∧ ∃ k os, w' = grow (w.drewN k) os := Any.strconv_Itoa Tryd.laysM171 n h0 h1 w htab
def Tryd.laysC172_ren : Go.Shelf.Ren := ⟨fun | 172 => 23 | 244 => 35 | 245 => 36 | 247 => 44 | 279 => 45 | 280 => 46 | 281 => 47 | 282 => 48 | 287 => 57 | 316 => 58 | 171 => 19 | 205 => 59 | 321 => 70 | 322 => 71 | 243 => 33 | 246 => 40 | 283 => 49 | 284 => 50 | 285 => 51 | 286 => 52 | 129 => 61 | 317 => 60 | 318 => 62 | 319 => 63 | 320 => 64 | 337 => 72 | 338 => 73 | n => n, fun | 9 => 9 | 3 => 3 | 75 => 48 | 76 => 49 | 4 => 4 | 5 => 5 | 167 => 67 | 37 => 32 | 0 => 0 | 85 => 68 | 2 => 2 | 168 => 70 | 53 => 74 | 175 => 82 | 46 => 84 | 210 => 87 | 127 => 95 | 145 => 98 | 143 => 96 | 21 => 21 | 171 => 73 | 173 => 77 | 212 => 90 | 51 => 91 | 20 => 20 | 213 => 92 | 232 => 106 | 233 => 107 | 80 => 108 | n => n, fun | 15 => 0 | 16 => 1 | 17 => 2 | 18 => 6 | 19 => 7 | n => n⟩
theorem Tryd.laysC172 : Go.Proofs.LaysC.n172 Tryd.prog Tryd.laysC172_ren := {
  mixed := by kernel_rfl
  f129 := Tryd.func61.trans (congrArg some (by kernel_rfl))
  f171 := Tryd.func19.trans (congrArg some (by kernel_rfl))
  f172 := Tryd.func23.trans (congrArg some (by kernel_rfl))
  f205 := Tryd.func59.trans (congrArg some (by kernel_rfl))
  f243 := Tryd.func33.trans (congrArg some (by kernel_rfl))
  f244 := Tryd.func35.trans (congrArg some (by kernel_rfl))
  f245 := Tryd.func36.trans (congrArg some (by kernel_rfl))
  f246 := Tryd.func40.trans (congrArg some (by kernel_rfl))
  f247 := Tryd.func44.trans (congrArg some (by kernel_rfl))
  f279 := Tryd.func45.trans (congrArg some (by kernel_rfl))
  f280 := Tryd.func46.trans (congrArg some (by kernel_rfl))
  f281 := Tryd.func47.trans (congrArg some (by kernel_rfl))
  f282 := Tryd.func48.trans (congrArg some (by kernel_rfl))
  f283 := Tryd.func49.trans (congrArg some (by kernel_rfl))
  f284 := Tryd.func50.trans (congrArg some (by kernel_rfl))
  f285 := Tryd.func51.trans (congrArg some (by kernel_rfl))
  f286 := Tryd.func52.trans (congrArg some (by kernel_rfl))
  f287 := Tryd.func57.trans (congrArg some (by kernel_rfl))
  f316 := Tryd.func58.trans (congrArg some (by kernel_rfl))
  f317 := Tryd.func60.trans (congrArg some (by kernel_rfl))
  f318 := Tryd.func62.trans (congrArg some (by kernel_rfl))
  f319 := Tryd.func63.trans (congrArg some (by kernel_rfl))
  f320 := Tryd.func64.trans (congrArg some (by kernel_rfl))
  f321 := Tryd.func70.trans (congrArg some (by kernel_rfl))
  f322 := Tryd.func71.trans (congrArg some (by kernel_rfl))
  f337 := Tryd.func72.trans (congrArg some (by kernel_rfl))
  f338 := Tryd.func73.trans (congrArg some (by kernel_rfl))
  t0 := Tryd.underlying0
  a0 := Tryd.isAgg0
  z0 := Tryd.sizeOf0
  v0 := Tryd.zeroValue0
  t2 := Tryd.underlying2
  a2 := Tryd.isAgg2
  z2 := Tryd.sizeOf2
  v2 := Tryd.zeroValue2
  t3 := Tryd.underlying3
  a3 := Tryd.isAgg3
  z3 := Tryd.sizeOf3
  v3 := Tryd.zeroValue3
  t4 := Tryd.underlying4
  a4 := Tryd.isAgg4
  z4 := Tryd.sizeOf4
  v4 := Tryd.zeroValue4
  t5 := Tryd.underlying5
  a5 := Tryd.isAgg5
  z5 := Tryd.sizeOf5
  v5 := Tryd.zeroValue5
  t9 := Tryd.underlying9
  a9 := Tryd.isAgg9
  z9 := Tryd.sizeOf9
  v9 := Tryd.zeroValue9
  t20 := Tryd.underlying20
  a20 := Tryd.isAgg20
  z20 := Tryd.sizeOf20
  v20 := Tryd.zeroValue20
  t21 := Tryd.underlying21
  a21 := Tryd.isAgg21
  z21 := Tryd.sizeOf21
  v21 := Tryd.zeroValue21
  t37 := Tryd.underlying32
  a37 := Tryd.isAgg32
  z37 := Tryd.sizeOf32
  v37 := Tryd.zeroValue32
  t46 := Tryd.underlying84
  a46 := Tryd.isAgg84
  z46 := Tryd.sizeOf84
  v46 := Tryd.zeroValue84
  t51 := Tryd.underlying91
  a51 := Tryd.isAgg91
  z51 := Tryd.sizeOf91
  v51 := Tryd.zeroValue91
  t53 := Tryd.underlying74
  a53 := Tryd.isAgg74
  z53 := Tryd.sizeOf74
  v53 := Tryd.zeroValue74
  t75 := Tryd.underlying48
  a75 := Tryd.isAgg48
  z75 := Tryd.sizeOf48
  v75 := Tryd.zeroValue48
  t76 := Tryd.underlying49
  a76 := Tryd.isAgg49
  z76 := Tryd.sizeOf49
  v76 := Tryd.zeroValue49
  t85 := Tryd.underlying68
  a85 := Tryd.isAgg68
  z85 := Tryd.sizeOf68
  v85 := Tryd.zeroValue68
  t127 := Tryd.underlying95
  a127 := Tryd.isAgg95
  z127 := Tryd.sizeOf95
  v127 := Tryd.zeroValue95
  t143 := Tryd.underlying96
  a143 := Tryd.isAgg96
  z143 := Tryd.sizeOf96
  v143 := Tryd.zeroValue96
  t145 := Tryd.underlying98
  a145 := Tryd.isAgg98
  z145 := Tryd.sizeOf98
  v145 := Tryd.zeroValue98
  t167 := Tryd.underlying67
  a167 := Tryd.isAgg67
  z167 := Tryd.sizeOf67
  v167 := Tryd.zeroValue67
  t168 := Tryd.underlying70
  a168 := Tryd.isAgg70
  z168 := Tryd.sizeOf70
  v168 := Tryd.zeroValue70
  t171 := Tryd.underlying73
  a171 := Tryd.isAgg73
  z171 := Tryd.sizeOf73
  v171 := Tryd.zeroValue73
  t173 := Tryd.underlying77
  a173 := Tryd.isAgg77
  z173 := Tryd.sizeOf77
  v173 := Tryd.zeroValue77
  t175 := Tryd.underlying82
  a175 := Tryd.isAgg82
  z175 := Tryd.sizeOf82
  v175 := Tryd.zeroValue82
  t210 := Tryd.underlying87
  a210 := Tryd.isAgg87
  z210 := Tryd.sizeOf87
  v210 := Tryd.zeroValue87
  t212 := Tryd.underlying90
  a212 := Tryd.isAgg90
  z212 := Tryd.sizeOf90
  v212 := Tryd.zeroValue90
  t213 := Tryd.underlying92
  a213 := Tryd.isAgg92
  z213 := Tryd.sizeOf92
  t232 := Tryd.underlying106
  a232 := Tryd.isAgg106
  z232 := Tryd.sizeOf106
  v232 := Tryd.zeroValue106
  t233 := Tryd.underlying107
  a233 := Tryd.isAgg107
  z233 := Tryd.sizeOf107
  v233 := Tryd.zeroValue107
  g15 := by kernel_rfl
  g16 := by kernel_rfl
  g17 := by kernel_rfl
  g18 := by kernel_rfl
  g19 := by kernel_rfl
  t80 := Tryd.underlying108
  a80 := Tryd.isAgg108
  z80 := Tryd.sizeOf108
  v80 := Tryd.zeroValue108
  i0 := by kernel_rfl
  i2 := by kernel_rfl
  i3 := by kernel_rfl
  i4 := by kernel_rfl
  i5 := by kernel_rfl
  i9 := by kernel_rfl
  i20 := by kernel_rfl
  i21 := by kernel_rfl
  i37 := by kernel_rfl
  i46 := by kernel_rfl
  i51 := by kernel_rfl
  i53 := by kernel_rfl
  i75 := by kernel_rfl
  i76 := by kernel_rfl
  i80 := by kernel_rfl
  i85 := by kernel_rfl
  i127 := by kernel_rfl
  i143 := by kernel_rfl
  i145 := by kernel_rfl
  i167 := by kernel_rfl
  i168 := by kernel_rfl
  i171 := by kernel_rfl
  i173 := by kernel_rfl
  i175 := by kernel_rfl
  i210 := by kernel_rfl
  i212 := by kernel_rfl
  i232 := by kernel_rfl
  i233 := by kernel_rfl
  m15 := by kernel_rfl
  m16 := by kernel_rfl
  m17 := by kernel_rfl
  m18 := by kernel_rfl
  m19 := by kernel_rfl
  c0 := by kernel_rfl
  c2 := by kernel_rfl
  c3 := by kernel_rfl
  c4 := by kernel_rfl
  c5 := by kernel_rfl
  c9 := by kernel_rfl
  c20 := by kernel_rfl
  c21 := by kernel_rfl
  c37 := by kernel_rfl
  c46 := by kernel_rfl
  c51 := by kernel_rfl
  c53 := by kernel_rfl
  c75 := by kernel_rfl
  c76 := by kernel_rfl
  c80 := by kernel_rfl
  c85 := by kernel_rfl
  c127 := by kernel_rfl
  c143 := by kernel_rfl
  c145 := by kernel_rfl
  c167 := by kernel_rfl
  c168 := by kernel_rfl
  c171 := by kernel_rfl
  c173 := by kernel_rfl
  c175 := by kernel_rfl
  c210 := by kernel_rfl
  c212 := by kernel_rfl
  c213 := by kernel_rfl
  c232 := by kernel_rfl
  c233 := by kernel_rfl }
open Go.RowKit in
/-- strconv.Atoi, AT EVERY STRING THAT SPELLS AN int ('Lib.atoiAll .. = .ok v'; of whatever length: leading zeros count): v, AND NO ERROR. The world: as it was, or with the one new row that '[]byte(..)' lays. (LAID: no walk: one application.) -/
theorem Tryd.strconv_Atoi_ok (s : ByteArray) (hmax : s.size ≤ 9223372036854775806) (v : Int) (h : Lib.atoiAll s.data.toList = .ok v) (w : World) :
    Calls Tryd.prog 23 #[.string s] w fun e w' => e = .returned (.tuple #[.int .i64 v, .nilIface]) ∧ (w' = w ∨ ∃ t, w' = Lib.bytesWorld w 5 t) := Any.strconv_Atoi_ok Tryd.laysC172 s hmax v h w
open Go.RowKit in
/-- strconv.Atoi, AT EVERY STRING THAT IS NO DECIMAL NUMERAL ('.syntax'): 0, AND AN ERROR THAT IS NOT nil: a *NumError in a new block N: {Func: "Atoi", Num: s's bytes, Err: what the variable ErrSyntax holds}. Of what was there nothing has turned. (LAID: no walk: one application.) -/
theorem Tryd.strconv_Atoi_syntax (s : ByteArray) (hlim : s.size ≤ 281474976710656) (h : Lib.atoiAll s.data.toList = Lib.atoiAll []) (ev : Value) (w : World) (hv : w.cell? ⟨0, 0, none⟩ = some ev) (hev : ev = .nilIface ∨ ∃ te pe, ev = .iface te pe) :
    Calls Tryd.prog 23 #[.string s] w fun e w' => ∃ N, e = .returned (.tuple #[.int .i64 (0), .iface 70 (.pointer (some ⟨N, 0, none⟩))]) ∧ w.heap.size ≤ N ∧ w'.heap[N]? = some (.cells #[.string ⟨#[65, 116, 111, 105]⟩, .string s, ev] 87 (0, 0)) ∧ Below w.heap.size w w' := Any.strconv_Atoi_syntax Tryd.laysC172 s hlim h ev w hv hev
open Go.RowKit in
/-- strconv.Atoi, AT EVERY NUMERAL THAT NO int HOLDS ('.range'): THE GREATEST OR THE LEAST int, BY THE SIGN ('Lib.atoiSat'), AND AN ERROR THAT IS NOT nil: a *NumError in a new block N: {Func: "Atoi", Num: s's bytes, Err: what the variable ErrRange holds}. Of what was there nothing has turned. (LAID: no walk: one application.) -/
theorem Tryd.strconv_Atoi_range (s : ByteArray) (hlim : s.size ≤ 281474976710656) (h : Lib.atoiAll s.data.toList = .range) (ev : Value) (w : World) (hv : w.cell? ⟨1, 0, none⟩ = some ev) (hev : ev = .nilIface ∨ ∃ te pe, ev = .iface te pe) :
    Calls Tryd.prog 23 #[.string s] w fun e w' => ∃ N, e = .returned (.tuple #[.int .i64 (Lib.atoiSat s.data.toList), .iface 70 (.pointer (some ⟨N, 0, none⟩))]) ∧ w.heap.size ≤ N ∧ w'.heap[N]? = some (.cells #[.string ⟨#[65, 116, 111, 105]⟩, .string s, ev] 87 (0, 0)) ∧ Below w.heap.size w w' := Any.strconv_Atoi_range Tryd.laysC172 s hlim h ev w hv hev
def Tryd.lays146_ren : Go.Shelf.Ren := ⟨fun | 146 => 22 | 221 => 34 | 268 => 41 | 138 => 42 | 143 => 43 | 195 => 53 | 197 => 54 | 218 => 55 | 219 => 56 | 260 => 65 | 217 => 66 | 225 => 67 | 224 => 68 | 267 => 69 | 266 => 74 | 314 => 75 | n => n, fun | 9 => 9 | 31 => 43 | 3 => 3 | 4 => 4 | 0 => 0 | 105 => 79 | 21 => 21 | 5 => 5 | 46 => 84 | 119 => 100 | 139 => 103 | 138 => 102 | 146 => 104 | 51 => 91 | n => n, fun | 1 => 3 | 3 => 4 | 4 => 5 | n => n⟩
theorem Tryd.lays146 : Go.Proofs.Lays.n146 Tryd.prog Tryd.lays146_ren := {
  mixed := by kernel_rfl
  f138 := Tryd.func42.trans (congrArg some (by kernel_rfl))
  f143 := Tryd.func43.trans (congrArg some (by kernel_rfl))
  f146 := Tryd.func22.trans (congrArg some (by kernel_rfl))
  f195 := Tryd.func53.trans (congrArg some (by kernel_rfl))
  f197 := Tryd.func54.trans (congrArg some (by kernel_rfl))
  f217 := Tryd.func66.trans (congrArg some (by kernel_rfl))
  f218 := Tryd.func55.trans (congrArg some (by kernel_rfl))
  f219 := Tryd.func56.trans (congrArg some (by kernel_rfl))
  f221 := Tryd.func34.trans (congrArg some (by kernel_rfl))
  f224 := Tryd.func68.trans (congrArg some (by kernel_rfl))
  f225 := Tryd.func67.trans (congrArg some (by kernel_rfl))
  f260 := Tryd.func65.trans (congrArg some (by kernel_rfl))
  f266 := Tryd.func74.trans (congrArg some (by kernel_rfl))
  f267 := Tryd.func69.trans (congrArg some (by kernel_rfl))
  f268 := Tryd.func41.trans (congrArg some (by kernel_rfl))
  f314 := Tryd.func75.trans (congrArg some (by kernel_rfl))
  t0 := Tryd.underlying0
  a0 := Tryd.isAgg0
  z0 := Tryd.sizeOf0
  v0 := Tryd.zeroValue0
  t3 := Tryd.underlying3
  a3 := Tryd.isAgg3
  z3 := Tryd.sizeOf3
  v3 := Tryd.zeroValue3
  t4 := Tryd.underlying4
  a4 := Tryd.isAgg4
  z4 := Tryd.sizeOf4
  v4 := Tryd.zeroValue4
  t5 := Tryd.underlying5
  a5 := Tryd.isAgg5
  z5 := Tryd.sizeOf5
  v5 := Tryd.zeroValue5
  t9 := Tryd.underlying9
  a9 := Tryd.isAgg9
  z9 := Tryd.sizeOf9
  v9 := Tryd.zeroValue9
  t21 := Tryd.underlying21
  a21 := Tryd.isAgg21
  z21 := Tryd.sizeOf21
  v21 := Tryd.zeroValue21
  t31 := Tryd.underlying43
  a31 := Tryd.isAgg43
  z31 := Tryd.sizeOf43
  v31 := Tryd.zeroValue43
  t46 := Tryd.underlying84
  a46 := Tryd.isAgg84
  z46 := Tryd.sizeOf84
  v46 := Tryd.zeroValue84
  t51 := Tryd.underlying91
  a51 := Tryd.isAgg91
  z51 := Tryd.sizeOf91
  v51 := Tryd.zeroValue91
  t105 := Tryd.underlying79
  a105 := Tryd.isAgg79
  z105 := Tryd.sizeOf79
  v105 := Tryd.zeroValue79
  t119 := Tryd.underlying100
  a119 := Tryd.isAgg100
  z119 := Tryd.sizeOf100
  t138 := Tryd.underlying102
  a138 := Tryd.isAgg102
  z138 := Tryd.sizeOf102
  v138 := Tryd.zeroValue102
  t139 := Tryd.underlying103
  a139 := Tryd.isAgg103
  z139 := Tryd.sizeOf103
  v139 := Tryd.zeroValue103
  t146 := Tryd.underlying104
  a146 := Tryd.isAgg104
  z146 := Tryd.sizeOf104
  v146 := Tryd.zeroValue104
  g1 := by kernel_rfl
  g3 := by kernel_rfl
  g4 := by kernel_rfl }
open Go.RowKit Go.Lib in
/-- strings.Split. (LAID: no walk: one application.) -/
theorem Tryd.strings_Split (s sep : ByteArray) (m : Int) (w : World) (hs : s.size < 4294967281) (hm : w.cell? ⟨3, 0, none⟩ = some (.int .i64 m)) (h1 : 1 ≤ sep.size) :
    Calls Tryd.prog 22 #[.string s, .string sep] w fun e w' =>
      e = .returned (.slice (some ⟨w.heap.size, 0, none⟩) (Lib.countB s sep + 1) (Lib.countB s sep + 1)) ∧ w' = w.alloc (.cells ((Lib.splitB sep 0 (Lib.countB s sep) s).map Value.string).toArray 9) := Any.strings_Split Tryd.lays146 (by kernel_rfl) s sep m w hs hm h1
end Go.Proofs

/- What the walks ask of the world's package-level variables (the table of the powers of ten), and that it stays. -/
namespace Go.Proofs.YtiocgkggegahhaaDoor.P
open Go Go.Sort Go.RowKit Go.Proofs.YtiocgkggegahhaaDoorUFnExactRulText.PrintWords Go.Proofs.YtiocgkggegahhaaDoorUFnExactRulText.PrintLast Go.Proofs.YtiocgkggegahhaaDoorUFnExactRulText.PrintMore
set_option linter.unusedVariables false
theorem var_below {P : Program} {n : String} {cs : Array Value} {w w' : World} (h : w.var? P n = some cs) (b : Below w.heap.size w w') : w'.var? P n = some cs := by
  simp only [World.var?] at h ⊢
  cases hg : P.globalNamed n with
  | none => rw [hg] at h; exact h
  | some g =>
    rw [hg] at h
    simp only [Option.bind_some] at h ⊢
    cases hk : w.heap[g]? with
    | none => rw [hk] at h; simp at h
    | some o => rw [b.block g (Array.getElem?_eq_some_iff.1 hk).1, hk]; rw [hk] at h; exact h
theorem cell_below {g : Nat} {v : Value} {w w' : World} (h : w.cell? ⟨g, 0, none⟩ = some v) (b : Below w.heap.size w w') : w'.cell? ⟨g, 0, none⟩ = some v := by
  simp only [World.cell?] at h ⊢
  cases hk : w.heap[g]? with
  | none => rw [hk] at h; simp at h
  | some o => rw [b.block g (Array.getElem?_eq_some_iff.1 hk).1, hk]; rw [hk] at h; exact h
/-- The table of the powers of ten is there. -/
structure EnvT (w : World) : Prop where
  pow : Lib.TabIs Tryd.prog w "internal/strconv.uint64pow10" .u64 Lib.pow10Tab
theorem EnvT.below {w w' : World} (h : EnvT w) (b : Below w.heap.size w w') : EnvT w' := ⟨var_below h.pow b⟩
theorem below_grow {B : Nat} {a w : World} (h : Below B a w) (hB : B ≤ w.heap.size) (os : Array Obj) : Below B a (grow w os) :=
  h.trans ⟨rfl, rfl, rfl, by simp [grow], fun k hk => by simp only [grow]; rw [Array.getElem?_append_left (by omega)]⟩
/-- strconv.Itoa, for what the program writes. -/
theorem itoa_calls (n : Int) (h0 : 0 ≤ n) (h1 : n ≤ 1000000) (w : World) (hE : EnvT w) :
    Calls Tryd.prog 19 #[.int .i64 n] w fun e w' => e = .returned (.string ⟨(Lib.itoa n).toArray⟩) ∧ Below w.heap.size w w' := by
  refine (Tryd.strconv_Itoa n (by omega) (by omega) w hE.pow).mono ?_
  rintro e w' ⟨rfl, k, os, rfl⟩
  exact ⟨rfl, below_grow (below_drewN (Below.refl _ _) k) (Nat.le_refl _) os⟩
end Go.Proofs.YtiocgkggegahhaaDoor.P

/- What the walks ask of the world's package-level variables (the table of the powers of ten, the two errors of strconv, the length up to which bytealg searches), and that it stays. -/
namespace Go.Proofs.YtiocgkggegahhaaDoor.P
open Go Go.Sort Go.RowKit Go.Proofs.YtiocgkggegahhaaDoorUFnExactRulText.PrintWords Go.Proofs.YtiocgkggegahhaaDoorUFnExactRulText.PrintLast Go.Proofs.YtiocgkggegahhaaDoorUFnExactRulText.PrintMore
set_option linter.unusedVariables false
/-- The variables hold what start-up lays, so far as the walks ask it. -/
structure Env (w : World) : Prop where
  t : EnvT w
  max : ∃ m, w.cell? ⟨3, 0, none⟩ = some (.int .i64 m)
  syn : ∃ te pe, w.cell? ⟨0, 0, none⟩ = some (.iface te pe)
  rng : ∃ te pe, w.cell? ⟨1, 0, none⟩ = some (.iface te pe)
theorem Env.below {w w' : World} (h : Env w) (b : Below w.heap.size w w') : Env w' :=
  ⟨h.t.below b, h.max.elim fun m hm => ⟨m, cell_below hm b⟩, h.syn.elim fun a ha => ha.elim fun c hc => ⟨a, c, cell_below hc b⟩, h.rng.elim fun a ha => ha.elim fun c hc => ⟨a, c, cell_below hc b⟩⟩
theorem below_bytes (w : World) (e : TypeId) (s : ByteArray) : Below w.heap.size w (Lib.bytesWorld w e s) := by
  refine ⟨?_, ?_, ?_, ?_, fun k hk => Lib.bytesWorld_at_old w e s k hk⟩ <;> unfold Lib.bytesWorld World.freeze <;> simp [World.alloc, World.drew, -World.alloc_eq, -World.drew_eq]
theorem end_cases (x : Lib.NumEnd Int) : (∃ n, x = .ok n) ∨ x = .range ∨ x = Lib.atoiAll [] := by
  cases x <;> first | exact .inl ⟨_, rfl⟩ | exact .inr (.inl rfl) | exact .inr (.inr rfl)
/-- What strconv.Atoi answers. -/
def atoiP (s : ByteArray) (v : Int) (ev : Value) : Prop := (Lib.atoiAll s.data.toList = .ok v ∧ ev = .nilIface) ∨ ((∀ n, Lib.atoiAll s.data.toList ≠ .ok n) ∧ ∃ t p, ev = .iface t p)
theorem atoi_calls (s : ByteArray) (hs : s.size ≤ 281474976710656) (w : World) (hE : Env w) :
    Calls Tryd.prog 23 #[.string s] w fun e w' => ∃ (v : Int) (ev : Value), e = .returned (.tuple #[.int .i64 v, ev]) ∧ atoiP s v ev ∧ Below w.heap.size w w' := by
  rcases end_cases (Lib.atoiAll s.data.toList) with ⟨n, h⟩ | h | h
  · refine (Tryd.strconv_Atoi_ok s (by omega) n h w).mono ?_
    rintro e w' ⟨rfl, hw⟩
    refine ⟨n, .nilIface, rfl, .inl ⟨h, rfl⟩, ?_⟩
    rcases hw with rfl | ⟨t, rfl⟩
    · exact Below.refl _ _
    · exact below_bytes _ _ _
  · obtain ⟨te, pe, hv⟩ := hE.rng
    refine (Tryd.strconv_Atoi_range s hs h _ w hv (.inr ⟨te, pe, rfl⟩)).mono ?_
    rintro e w' ⟨N, rfl, _, _, hb⟩
    exact ⟨_, _, rfl, .inr ⟨fun n hn => (by rw [h] at hn; cases hn), _, _, rfl⟩, hb⟩
  · obtain ⟨te, pe, hv⟩ := hE.syn
    refine (Tryd.strconv_Atoi_syntax s hs h _ w hv (.inr ⟨te, pe, rfl⟩)).mono ?_
    rintro e w' ⟨N, rfl, _, _, hb⟩
    exact ⟨_, _, rfl, .inr ⟨fun n hn => (by rw [h] at hn; cases hn), _, _, rfl⟩, hb⟩
/-- The words of a text, a blank between two. -/
def wordsB (s : ByteArray) : List ByteArray := Lib.splitB (⟨#[32]⟩ : ByteArray) 0 (Lib.countB s (⟨#[32]⟩ : ByteArray)) s
theorem wordsB_length (s : ByteArray) : (wordsB s).length = Lib.countB s (⟨#[32]⟩ : ByteArray) + 1 := Lib.splitB_all (⟨#[32]⟩ : ByteArray) (by decide) 0 _ s rfl
theorem split_calls (s : ByteArray) (hs : s.size < 4294967281) (w : World) (hE : Env w) :
    Calls Tryd.prog 22 #[.string s, .string (⟨#[32]⟩ : ByteArray)] w fun e w' => ∃ N, e = .returned (.slice (some ⟨N, 0, none⟩) (wordsB s).length (wordsB s).length) ∧ w'.heap[N]? = some (.cells ((wordsB s).map Value.string).toArray 9 (0, 0)) ∧ Below w.heap.size w w' := by
  obtain ⟨m, hm⟩ := hE.max
  refine (Tryd.strings_Split s _ m w hs hm (by decide)).mono ?_
  rintro e w' ⟨rfl, rfl⟩
  rw [wordsB_length]
  exact ⟨_, rfl, by simp only [World.alloc, wordsB, Array.getElem?_push_size], below_alloc (Below.refl _ _) _⟩
end Go.Proofs.YtiocgkggegahhaaDoor.P

/- From a row's condition (what it lists; the world's shape) to what the walks ask of the package-level variables; the witness's world; the shape of an argument that is read. -/
namespace Go.Proofs.YtiocgkggegahhaaDoor.P
open Go Go.RowKit
set_option linter.unusedVariables false
theorem laid_iface {P : Program} {n nm : String} {d : DataW Unit} {r : List (String × DataW Unit)} {W : World} {g : Nat} {ti : TypeId} {ms : Array (String × TypeId)}
    (h : laidMet P ((n, .iface nm d) :: r) W) (hg : P.globalNamed n = some g) (ht : (P.globals[g]?).map (·.type) = some ti) (hi : P.underlying ti = some (.interface ms)) :
    ∃ u v, W.cell? ⟨g, 0, none⟩ = some (.iface u v) := by
  obtain ⟨ps, ⟨g0, t0, cs0, f0, p0, q0, hg0, ht0, hv0, hd0, _, e0⟩, _, hrows⟩ := h
  obtain rfl := Option.some.inj (hg.symm.trans hg0)
  obtain rfl := Option.some.inj (ht.symm.trans ht0)
  obtain ⟨f1, u, v, hc, _⟩ := iface_of_trod hi hd0
  refine ⟨u, v, ?_⟩
  have := World.var?_cell hg0 hv0 0
  rw [Array.eq_one_of_toList hc] at this
  simpa using this
theorem laid_one {P : Program} {L : List (String × DataW Unit)} {W : World} (h : laidMetH P L W) (n : String) {x : String × DataW Unit} (e : (L.filter fun x => x.1 == n) = [x]) (hx : x.2.handleName?.isNone = true) : laidMet P [x] W := by
  have h1 := h.filter (fun x => x.1 == n)
  rw [e, MakeChecks.laidMetH_plain _ _ _ (by simp [hx])] at h1
  exact h1
theorem envT_of {L : List (String × DataW Unit)} {W : World} (h : laidMetH Tryd.prog L W)
    (e : (L.filter fun x => x.1 == "internal/strconv.uint64pow10") = [("internal/strconv.uint64pow10", Lib.tabData .u64 Lib.pow10Tab)]) : EnvT W :=
  ⟨Lib.tabIs_of_head (g := 2) (by kernel_rfl) (by kernel_rfl) Tryd.underlying90 Tryd.underlying74 (by kernel_rfl) (by kernel_rfl) (laid_one h _ e rfl)⟩
theorem env_of {L : List (String × DataW Unit)} {W : World} (h : laidMetH Tryd.prog L W) (hs : W.ShapedOpen Tryd.prog)
    (e : (L.filter fun x => x.1 == "internal/strconv.uint64pow10") = [("internal/strconv.uint64pow10", Lib.tabData .u64 Lib.pow10Tab)])
    (e1 : (L.filter fun x => x.1 == "strconv.ErrSyntax") = [("strconv.ErrSyntax", Rows.laid_strconv_ErrSyntax)])
    (e2 : (L.filter fun x => x.1 == "strconv.ErrRange") = [("strconv.ErrRange", Rows.laid_strconv_ErrRange)]) : Env W :=
  ⟨envT_of h e, cell_of_shapedOpen_int (zero := #[.int .i64 0]) (t := 3) hs (of_decide_eq_true (by kernel_rfl)) (by kernel_rfl) rfl (by kernel_rfl) (by kernel_rfl) Tryd.underlying3,
   laid_iface (laid_one h _ e1 rfl) (by kernel_rfl) (by kernel_rfl) Tryd.underlying48, laid_iface (laid_one h _ e2 rfl) (by kernel_rfl) (by kernel_rfl) Tryd.underlying48⟩
/-- There is an input that fits: the listed variables laid by the form's own function. -/
theorem witness_laid {H : Type} {enc : TypeId × Value → H} {os : Os} {f : FuncId} {fn : Func} {s : OpenSpec} {conds : List PathCond} {apart : Bool} {laid : List (String × DataW Unit)} (args : Array Value)
    (hsh : ((World.laidAll Tryd.prog os laid).forCall (fun _ _ => 0) ⟨#[], args, []⟩).Shaped Tryd.prog)
    (hok : Input.okWideB Tryd.prog ((World.laidAll Tryd.prog os laid).forCall (fun _ _ => 0) ⟨#[], args, []⟩) f ⟨#[], args, []⟩ = true)
    (hrow : s.preRow enc Tryd.prog fn conds apart laid ((World.laidAll Tryd.prog os laid).forCall (fun _ _ => 0) ⟨#[], args, []⟩).memory args) :
    ∃ (w : World) (tape : Tape) (i : Input), w.os = os ∧ (w.forCall tape i).Shaped Tryd.prog ∧ i.vars = [] ∧ Input.okWide Tryd.prog (w.forCall tape i) .any w.heap.size f i ∧
      s.preRow enc Tryd.prog fn conds apart laid (w.forCall tape i).memory i.args ∧ ({} : Assume).holds Tryd.prog (lone (Frame.enter Tryd.prog f i.args .normal) [] (w.forCall tape i)) :=
  ⟨World.laidAll Tryd.prog os laid, fun _ _ => 0, ⟨#[], args, []⟩, World.laidAll_os _ _ _, hsh, (Input.okWide_of_okWideB (base := 0) hok).1, (Input.okWide_of_okWideB hok).2, hrow, by simp [Assume.holds]⟩
end Go.Proofs.YtiocgkggegahhaaDoor.P

-- written by hw.py for this claim
namespace Go.Proofs.YtiocgkggegahhaaDoor.P
open Go.RowKit Go.Proofs.YtiocgkggegahhaaDoorUFnExactRulText.PrintWords Go.Proofs.YtiocgkggegahhaaDoorUFnExactRulText.PrintLast Go.Proofs.YtiocgkggegahhaaDoorUFnExactRulText.PrintMore
attribute [local go_sem] max2_int min2_int max_two min_two max_three min_three max_four min_four
set_option linter.unusedVariables false
set_option linter.unusedSimpArgs false

/-- A state of type 62 at block g of W; what its slices lead to came in by w0. -/
def IsS62 (w0 W : World) (g : Nat) (f0 : List Int) (f1 : Int) : Prop := ∃ A0 c0, W.heap[g]? = some (.cells #[.slice A0 f0.length c0, .int .i64 f1] 62 (0, 0)) ∧ w0.heap.size ≤ g ∧ Kd.C (Kd.int .u8) w0 A0 f0.length f0
theorem IsS62.grown {w0 W : World} {g : Nat} {f0 : List Int} {f1 : Int} {W1 : World} {row : Option Nat} (h : IsS62 w0 W g f0 f1) (hw : W.grownBy W1 row) (hne : some g ≠ row) : IsS62 w0 W1 g f0 f1 := by
  obtain ⟨A0, c0, hb, hg, hr0⟩ := h
  exact ⟨A0, c0, blk_grown hb hw hne, hg, hr0⟩
theorem IsS62.own_neN {w0 W : World} {g : Nat} {f0 : List Int} {f1 : Int} {α : Type} {d : Kd α} {e : Nat} {base : Nat} {ok : Nat → Prop} {v : Value} {xs : List α} (h : IsS62 w0 W g f0 f1) (ho : Kd.N d e W base ok v xs) (ht : e ≠ 62) : some g ≠ v.ownBlock := by
  obtain ⟨A0, c0, hb, hg, hr0⟩ := h
  exact Kd.N_ne ho hb ht
theorem IsS62.fresh {w0 W : World} {g : Nat} {f0 : List Int} {f1 : Int} (h : IsS62 w0 W g f0 f1) : ∀ k, W.heap.size ≤ k → k ≠ g := by
  obtain ⟨A0, c0, hb, hg, hr0⟩ := h
  exact Kd.freshB hb
theorem IsS62.kept {w0 W : World} {g : Nat} {f0 : List Int} {f1 : Int} {W1 : World} {S : Nat → Prop} (h : IsS62 w0 W g f0 f1) (hk : Kept W W1 S) (hne : ¬ S g) : IsS62 w0 W1 g f0 f1 := by
  obtain ⟨A0, c0, hb, hg, hr0⟩ := h
  exact ⟨A0, c0, blk_kept hb hk hne, hg, hr0⟩
theorem IsS62.below {w0 W : World} {g : Nat} {f0 : List Int} {f1 : Int} {W1 : World} (h : IsS62 w0 W g f0 f1) (hw : Below W.heap.size W W1) : IsS62 w0 W1 g f0 f1 := h.grown (grown_of_below hw none) (by simp)
theorem IsS62.alloc {w0 W : World} {g : Nat} {f0 : List Int} {f1 : Int} (h : IsS62 w0 W g f0 f1) (o : Obj) : IsS62 w0 (W.alloc o) g f0 f1 := h.below (below_alloc (Below.refl _ _) o)
theorem IsS62.drewN {w0 W : World} {g : Nat} {f0 : List Int} {f1 : Int} (h : IsS62 w0 W g f0 f1) (m : Nat) : IsS62 w0 (W.drewN m) g f0 f1 := h
theorem IsS62.drew {w0 W : World} {g : Nat} {f0 : List Int} {f1 : Int} (h : IsS62 w0 W g f0 f1) : IsS62 w0 W.drew g f0 f1 := h
theorem IsS62.at_ {w0 W : World} {g : Nat} {f0 : List Int} {f1 : Int} {w' : World} {m : Nat} (hq : W.drewN m = w') (h : IsS62 w0 W g f0 f1) : IsS62 w0 w' g f0 f1 := by subst hq; exact IsS62.drewN h m
theorem IsS62.apart {w0 W : World} {g : Nat} {f0 : List Int} {f1 : Int} {α : Type} {d : Kd α} {e : Nat} {base : Nat} {ok : Nat → Prop} {v : Value} {xs : List α} (h : IsS62 w0 W g f0 f1) (ho : d.R e W base ok v xs) (ht : ∀ q, q ∈ e :: d.E → q ≠ 62) : d.R e W base (fun k => ok k ∧ k ≠ g) v xs := by
  obtain ⟨A0, c0, hb, hg, hr0⟩ := h
  exact Kd.R_types ho hb ht
theorem IsS62.own_ne {w0 W : World} {g : Nat} {f0 : List Int} {f1 : Int} {α : Type} {d : Kd α} {e : Nat} {base : Nat} {ok : Nat → Prop} {v : Value} {xs : List α} (h : IsS62 w0 W g f0 f1) (ho : d.R e W base ok v xs) (ht : e ≠ 62) : some g ≠ v.ownBlock := by
  obtain ⟨A0, c0, hb, hg, hr0⟩ := h
  exact Kd.R_ne ho hb ht
theorem IsS62.apartQ {w0 W : World} {g : Nat} {f0 : List Int} {f1 : Int} {α : Type} {d : Kd α} {e : Nat} {base : Nat} {ok : Nat → Prop} {v : Value} {xs : List α} (h : IsS62 w0 W g f0 f1) (ho : d.Q e W base ok v xs) (ht : ∀ q, q ∈ e :: d.E → q ≠ 62) : d.Q e W base (fun k => ok k ∧ k ≠ g) v xs := by
  obtain ⟨A0, c0, hb, hg, hr0⟩ := h
  exact Kd.Q_types ho hb ht
theorem IsS62.own_neQ {w0 W : World} {g : Nat} {f0 : List Int} {f1 : Int} {α : Type} {d : Kd α} {e : Nat} {base : Nat} {ok : Nat → Prop} {v : Value} {xs : List α} (h : IsS62 w0 W g f0 f1) (ho : d.Q e W base ok v xs) (ht : e ≠ 62) : some g ≠ v.ownBlock := by
  obtain ⟨A0, c0, hb, hg, hr0⟩ := h
  exact Kd.Q_ne ho hb ht
theorem IsS62.apartS {w0 W : World} {g : Nat} {f0 : List Int} {f1 : Int} {α : Type} {d : Kd α} {e : Nat} {base : Nat} {ok : Nat → Prop} {v : Value} {xs : List α} (h : IsS62 w0 W g f0 f1) (ho : d.S e W base ok v xs) (ht : ∀ q, q ∈ e :: d.E → q ≠ 62) : d.S e W base (fun k => ok k ∧ k ≠ g) v xs := by
  obtain ⟨A0, c0, hb, hg, hr0⟩ := h
  exact Kd.S_types ho hb ht
theorem IsS62.own_neS {w0 W : World} {g : Nat} {f0 : List Int} {f1 : Int} {α : Type} {d : Kd α} {e : Nat} {base : Nat} {ok : Nat → Prop} {v : Value} {xs : List α} (h : IsS62 w0 W g f0 f1) (ho : d.S e W base ok v xs) (ht : e ≠ 62) : some g ≠ v.ownBlock := by
  obtain ⟨A0, c0, hb, hg, hr0⟩ := h
  exact Kd.S_ne ho hb ht
theorem IsS62.lt {w0 W : World} {g : Nat} {f0 : List Int} {f1 : Int} (h : IsS62 w0 W g f0 f1) : g < W.heap.size := by
  obtain ⟨A0, c0, hb, hg, hr0⟩ := h
  exact blk_lt hb
theorem IsS62.ge {w0 W : World} {g : Nat} {f0 : List Int} {f1 : Int} (h : IsS62 w0 W g f0 f1) : w0.heap.size ≤ g := by
  obtain ⟨A0, c0, hb, hg, hr0⟩ := h
  exact hg
theorem IsS62.ne_blk {w0 W : World} {g : Nat} {f0 : List Int} {f1 : Int} {a : Nat} {cs : Array Value} {t : TypeId} {fr : Nat × Nat} (h : IsS62 w0 W g f0 f1) (hb2 : W.heap[a]? = some (.cells cs t fr)) (ht : t ≠ 62) : g ≠ a := by
  obtain ⟨A0, c0, hb, hg, hr0⟩ := h
  rintro rfl
  rw [hb] at hb2
  injection hb2 with hb2
  injection hb2 with _ ht2
  exact ht ht2.symm
theorem IsS62.far {w0 W : World} {g : Nat} {f0 : List Int} {f1 : Int} {p : Addr} (h : IsS62 w0 W g f0 f1) (hne : g ≠ p.block) (u : Value) : IsS62 w0 (W.setCell p u) g f0 f1 := by
  obtain ⟨A0, c0, hb, hg, hr0⟩ := h
  exact ⟨A0, c0, blk_far hb hne u, hg, hr0⟩
theorem cellS62_0 {W : World} {g : Nat} {A0 : Option Addr} {c0 : Nat} {f0 : List Int} {f1 : Int} (h : W.heap[g]? = some (.cells #[.slice A0 f0.length c0, .int .i64 f1] 62 (0, 0))) : W.cell? ⟨g, 0, none⟩ = some (.slice A0 f0.length c0) := (blk_cell h 0).trans rfl
theorem cellS62_1 {W : World} {g : Nat} {A0 : Option Addr} {c0 : Nat} {f0 : List Int} {f1 : Int} (h : W.heap[g]? = some (.cells #[.slice A0 f0.length c0, .int .i64 f1] 62 (0, 0))) : W.cell? ⟨g, 1, none⟩ = some (.int .i64 f1) := (blk_cell h 1).trans rfl
theorem IsS62.set_1 {w0 W : World} {g : Nat} {f0 : List Int} {f1 : Int} (h : IsS62 w0 W g f0 f1) (x : Int) : IsS62 w0 (W.setCell ⟨g, 1, none⟩ (.int .i64 x)) g f0 x := by
  obtain ⟨A0, c0, hb, hg, hr0⟩ := h
  exact ⟨A0, c0, by simpa using blk_set hb 1 (.int .i64 x), hg, hr0⟩
theorem IsS62.new (w0 W : World) (A0 : Option Addr) (c0 : Nat) (f0 : List Int) (f1 : Int) (hB : Below w0.heap.size w0 W) (hr0 : Kd.C (Kd.int .u8) w0 A0 f0.length f0) : IsS62 w0 (W.alloc (.cells #[.slice A0 f0.length c0, .int .i64 f1] 62)) W.heap.size f0 f1 := ⟨A0, c0, by simpa using heap_alloc_new W _, hB.size, hr0⟩

/-! ### spec_l20Rd_pick: function 26 -/
def spec_l20Rd_pick.j0 : Nat → Int → Bool → List Int → Int → Option (Int × Int)
  | 0, _, _, _, _ => none
  | k + 1, x1, x24, x1000, x1001 => if x24 = true then (some (0, x1001)) else (if (wrap64 (x1001 - 1)) < (x1000.length : Int) then (if 0 ≤ (wrap64 (x1001 - 1)) then (if x1 = 0 then (none) else (some (Int.tmod (wrap64 (rd x1000 (wrap64 (x1001 - 1)))) x1, x1001))) else (none)) else (if (x1000.length : Int) = 0 then (none) else (if 0 ≤ (Int.tmod (wrap64 (x1001 - 1)) (x1000.length : Int)) then (if (Int.tmod (wrap64 (x1001 - 1)) (x1000.length : Int)) < (x1000.length : Int) then (if 0 ≤ (Int.tmod (wrap64 ((wrap64 ((wrap64 (x1001 - 1)) * 7)) + 3)) (x1000.length : Int)) then (if (Int.tmod (wrap64 ((wrap64 ((wrap64 (x1001 - 1)) * 7)) + 3)) (x1000.length : Int)) < (x1000.length : Int) then (if x1 = 0 then (none) else (some (Int.tmod (Go.bits .xor .i64 (wrap64 ((wrap64 ((wrap64 ((wrap64 ((wrap64 (rd x1000 (Int.tmod (wrap64 (x1001 - 1)) (x1000.length : Int)))) * 131)) + (wrap64 ((wrap64 (rd x1000 (Int.tmod (wrap64 ((wrap64 ((wrap64 (x1001 - 1)) * 7)) + 3)) (x1000.length : Int)))) * 1117)))) + (wrap64 ((wrap64 (x1001 - 1)) * 29)))) + (wrap64 ((wrap64 (Int.tdiv (wrap64 (x1001 - 1)) (x1000.length : Int))) * 53)))) (wrap64 (Int.tdiv (wrap64 ((wrap64 ((wrap64 ((wrap64 ((wrap64 (rd x1000 (Int.tmod (wrap64 (x1001 - 1)) (x1000.length : Int)))) * 131)) + (wrap64 ((wrap64 (rd x1000 (Int.tmod (wrap64 ((wrap64 ((wrap64 (x1001 - 1)) * 7)) + 3)) (x1000.length : Int)))) * 1117)))) + (wrap64 ((wrap64 (x1001 - 1)) * 29)))) + (wrap64 ((wrap64 (Int.tdiv (wrap64 (x1001 - 1)) (x1000.length : Int))) * 53)))) 64))) x1, x1001))) else (none)) else (none)) else (none)) else (none))))
def spec_l20Rd_pick.f (k : Nat) (s0_0 : List Int) (s0_1 : Int) (a1 : Int) : Option (Int × Int) := if a1 < 1 then (spec_l20Rd_pick.j0 k a1 true s0_0 (wrap64 (s0_1 + 1))) else (spec_l20Rd_pick.j0 k a1 ((s0_0.length : Int) == 0) s0_0 (wrap64 (s0_1 + 1)))
theorem spec_l20Rd_pick.mono_l : ∀ k, (∀ y0 y1 y2 y3, LeO (spec_l20Rd_pick.j0 k y0 y1 y2 y3) (spec_l20Rd_pick.j0 (k + 1) y0 y1 y2 y3))
  | 0 => fun _ _ _ _ r h => by simp [spec_l20Rd_pick.j0] at h
  | k + 1 => by
    have ih0 := spec_l20Rd_pick.mono_l k
    · intro y0 y1 y2 y3
      unfold spec_l20Rd_pick.j0
      repeat' first
      | (with_reducible exact ih0 _ _ _ _)
      | (with_reducible exact LeO.refl _)
      | (with_reducible exact LeO.none _)
      | (with_reducible refine LeO.ite ?_ ?_)
      | (with_reducible refine LeO.bind ?_ (fun _ => ?_))
      | exact ih0 _ _ _ _
      | exact LeO.none _
      | refine LeO.ite ?_ ?_
      | refine LeO.bind ?_ (fun _ => ?_)
theorem spec_l20Rd_pick.mono : ∀ a0 a1 a2 k, LeO (spec_l20Rd_pick.f k a0 a1 a2) (spec_l20Rd_pick.f (k + 1) a0 a1 a2) := by
  intro a0 a1 a2 k
  have ih0 := spec_l20Rd_pick.mono_l k
  unfold spec_l20Rd_pick.f
  repeat' first
      | (with_reducible exact ih0 _ _ _ _)
      | (with_reducible exact LeO.refl _)
      | (with_reducible exact LeO.none _)
      | (with_reducible refine LeO.ite ?_ ?_)
      | (with_reducible refine LeO.bind ?_ (fun _ => ?_))
      | exact ih0 _ _ _ _
      | exact LeO.none _
      | refine LeO.ite ?_ ?_
      | refine LeO.bind ?_ (fun _ => ?_)
set_option maxHeartbeats 8000000 in
set_option maxRecDepth 100000 in
theorem spec_l20Rd_pick.calls (k : Nat) (g : Nat) (s0_0 : List Int) (s0_1 : Int) (a1 : Int) (r1 : Int) (r2 : Int) (w0 w : World) (hI : IsS62 w0 w g s0_0 s0_1) (hB : Below w0.heap.size w0 w) (h : spec_l20Rd_pick.f k s0_0 s0_1 a1 = some (r1, r2)) :
    Calls Tryd.prog 26 #[.pointer (some ⟨g, 0, none⟩), .int .i64 a1] w fun e w' => e = .returned (.int .i64 r1) ∧ IsS62 w0 w' g s0_0 r2 ∧ Below w0.heap.size w0 w' ∧ KeepBut w w' g none := by
  have HI0 := Aside0.mk hI
  have HK := Aside0.mk (KeepBut.refl w g none)
  have HL := Aside0.mk hB.size
  clear hI
  have HW0 := Aside0.mk hB.size
  have HB := Aside0.mk hB
  clear hB
  have H : (if a1 < 1 then (spec_l20Rd_pick.j0 k a1 true s0_0 (wrap64 (s0_1 + 1))) else (spec_l20Rd_pick.j0 k a1 ((s0_0.length : Int) == 0) s0_0 (wrap64 (s0_1 + 1)))) = some (r1, r2) := h
  clear h
  have HC3 := Aside0.mk H
  clear H
  obtain ⟨ASz4_0, cSz4_0, HGz4, hgz4, HSz4_0⟩ := HI0.out
  have hcz4_0 := cellS62_0 HGz4
  have hcz4_1 := cellS62_1 HGz4
  have hfz4_1 := blk_frozen HGz4 1
  clear HGz4 hgz4
  go_enter Tryd.func26, Tryd.ntmps26
  go_upto_region 2 with (fail)
  repeat (go_quiet (fail); go_upto_region 2 with (fail))
  go_cut [24] (fun v24 wc => ∃ (kq : Nat) (x24_2 : Bool), v24 = .bool x24_2 ∧ Aside0 (spec_l20Rd_pick.j0 kq a1 x24_2 s0_0 (wrap64 (s0_1 + 1)) = some (r1, r2)) ∧ Aside0 (kq ≤ k) ∧ Aside0 (IsS62 w0 wc g s0_0 (wrap64 (s0_1 + 1))) ∧ Aside0 (KeepBut w wc g none) ∧ Aside0 (Below w0.heap.size w0 wc))
  case first =>
    have H := HC3.out
    clear HC3
    by_cases c5 : a1 < 1
    · rw [if_pos c5] at H
      have c5b0 : decide (a1 < 1) = true := decide_eq_true c5
      clear c5
      (first | rw [c5b0] | (simp only [i64_w, i32_w]; rw [c5b0]) | skip)
      have H' := Aside0.mk H
      clear H
      go_wp2
      repeat (go_quiet (fail); try go_wp2)
      go_meet
      case rel => exact ⟨_, (true), (by first | rfl | (simp; done) | (simp [*]; done)), H', ⟨by first | omega | exact Nat.le_refl _⟩, ⟨by repeat (first | (with_reducible first | exact HI0.out | apply IsS62.alloc | apply IsS62.drewN | apply IsS62.drew | apply IsS62.set_1) | exact HI0.out)⟩, ⟨by repeat (first | (with_reducible first | exact HK.out | apply KeepBut.set_ | apply keep_drewN | apply keep_drew | apply keep_alloc) | exact HK.out)⟩, ⟨by repeat (first | (with_reducible first | exact HB.out | apply below_alloc | apply pw_below_drewN | apply below_drew1 | refine below_set ?_ (IsS62.ge HI0.out)) | exact HB.out)⟩⟩
    · rw [if_neg c5] at H
      have c5b0 : decide (a1 < 1) = false := decide_eq_false c5
      clear c5
      (first | rw [c5b0] | (simp only [i64_w, i32_w]; rw [c5b0]) | skip)
      have H' := Aside0.mk H
      clear H
      obtain ⟨ASz6_0, cSz6_0, HGz6, hgz6, HSz6_0⟩ := HI0.out
      have hcz6_0 := cellS62_0 HGz6
      have hcz6_1 := cellS62_1 HGz6
      have hfz6_1 := blk_frozen HGz6 1
      clear HGz6 hgz6
      go_wp2
      repeat (go_quiet (fail); try go_wp2)
      go_meet
      case rel => exact ⟨_, (((s0_0.length : Int) == 0)), (by first | rfl | (simp; done) | (simp [*]; done)), H', ⟨by first | omega | exact Nat.le_refl _⟩, ⟨by repeat (first | (with_reducible first | exact HI0.out | apply IsS62.alloc | apply IsS62.drewN | apply IsS62.drew | apply IsS62.set_1) | exact HI0.out)⟩, ⟨by repeat (first | (with_reducible first | exact HK.out | apply KeepBut.set_ | apply keep_drewN | apply keep_drew | apply keep_alloc) | exact HK.out)⟩, ⟨by repeat (first | (with_reducible first | exact HB.out | apply below_alloc | apply pw_below_drewN | apply below_drew1 | refine below_set ?_ (IsS62.ge HI0.out)) | exact HB.out)⟩⟩
  case rest =>
    clear HC3
    try clear c2
    try clear p2
    try clear c5
    try clear c5b0
    try clear p6
    try clear hcz4_0
    try clear hcz4_1
    try clear hcz6_0
    try clear hcz6_1
    try clear hfz4_1
    try clear hfz6_1
    obtain ⟨kq, x24_2, rfl, HA, HJ2, HI0, HK, HB⟩ := hcut
    cases kq with
    | zero => exact absurd HA.out (by simp [spec_l20Rd_pick.j0])
    | succ kj2 =>
      have H := HA.out
      clear HA
      simp only [spec_l20Rd_pick.j0] at H
      by_cases c7 : x24_2 = true
      · subst c7
        have H1 : (some (0, (wrap64 (s0_1 + 1)))) = some (r1, r2) := by rw [if_pos rfl] at H; exact H
        clear H
        have H := H1
        clear H1
        simp only [Option.some.injEq, Prod.mk.injEq] at H
        obtain ⟨rfl, rfl⟩ := H
        go_wp2
        repeat (go_quiet (fail); try go_wp2)
        go_ret
        exact ⟨by first | rfl | (simp [errW_none, errW_some] <;> rfl) | (simp [*, errW_none, errW_some] <;> rfl), by repeat (first | (with_reducible first | exact HI0.out | apply IsS62.alloc | apply IsS62.drewN | apply IsS62.drew | apply IsS62.set_1) | exact HI0.out), by repeat (first | (with_reducible first | exact HB.out | apply below_alloc | apply pw_below_drewN | apply below_drew1 | refine below_set ?_ (IsS62.ge HI0.out)) | exact HB.out), by repeat (first | (with_reducible first | exact HK.out | apply KeepBut.set_ | apply keep_drewN | apply keep_drew | apply keep_alloc) | exact HK.out)⟩
      · replace c7 := Bool.eq_false_iff.mpr c7
        subst c7
        have H1 : (if (wrap64 ((wrap64 (s0_1 + 1)) - 1)) < (s0_0.length : Int) then (if 0 ≤ (wrap64 ((wrap64 (s0_1 + 1)) - 1)) then (if a1 = 0 then (none) else (some (Int.tmod (wrap64 (rd s0_0 (wrap64 ((wrap64 (s0_1 + 1)) - 1)))) a1, (wrap64 (s0_1 + 1))))) else (none)) else (if (s0_0.length : Int) = 0 then (none) else (if 0 ≤ (Int.tmod (wrap64 ((wrap64 (s0_1 + 1)) - 1)) (s0_0.length : Int)) then (if (Int.tmod (wrap64 ((wrap64 (s0_1 + 1)) - 1)) (s0_0.length : Int)) < (s0_0.length : Int) then (if 0 ≤ (Int.tmod (wrap64 ((wrap64 ((wrap64 ((wrap64 (s0_1 + 1)) - 1)) * 7)) + 3)) (s0_0.length : Int)) then (if (Int.tmod (wrap64 ((wrap64 ((wrap64 ((wrap64 (s0_1 + 1)) - 1)) * 7)) + 3)) (s0_0.length : Int)) < (s0_0.length : Int) then (if a1 = 0 then (none) else (some (Int.tmod (Go.bits .xor .i64 (wrap64 ((wrap64 ((wrap64 ((wrap64 ((wrap64 (rd s0_0 (Int.tmod (wrap64 ((wrap64 (s0_1 + 1)) - 1)) (s0_0.length : Int)))) * 131)) + (wrap64 ((wrap64 (rd s0_0 (Int.tmod (wrap64 ((wrap64 ((wrap64 ((wrap64 (s0_1 + 1)) - 1)) * 7)) + 3)) (s0_0.length : Int)))) * 1117)))) + (wrap64 ((wrap64 ((wrap64 (s0_1 + 1)) - 1)) * 29)))) + (wrap64 ((wrap64 (Int.tdiv (wrap64 ((wrap64 (s0_1 + 1)) - 1)) (s0_0.length : Int))) * 53)))) (wrap64 (Int.tdiv (wrap64 ((wrap64 ((wrap64 ((wrap64 ((wrap64 (rd s0_0 (Int.tmod (wrap64 ((wrap64 (s0_1 + 1)) - 1)) (s0_0.length : Int)))) * 131)) + (wrap64 ((wrap64 (rd s0_0 (Int.tmod (wrap64 ((wrap64 ((wrap64 ((wrap64 (s0_1 + 1)) - 1)) * 7)) + 3)) (s0_0.length : Int)))) * 1117)))) + (wrap64 ((wrap64 ((wrap64 (s0_1 + 1)) - 1)) * 29)))) + (wrap64 ((wrap64 (Int.tdiv (wrap64 ((wrap64 (s0_1 + 1)) - 1)) (s0_0.length : Int))) * 53)))) 64))) a1, (wrap64 (s0_1 + 1))))) else (none)) else (none)) else (none)) else (none)))) = some (r1, r2) := by rw [if_neg (show ¬ (false = true) by decide)] at H; exact H
        clear H
        have H := H1
        clear H1
        by_cases c8 : (wrap64 ((wrap64 (s0_1 + 1)) - 1)) < (s0_0.length : Int)
        · rw [if_pos c8] at H
          have c8b0 : decide ((wrap64 ((wrap64 (s0_1 + 1)) - 1)) < (s0_0.length : Int)) = true := decide_eq_true c8
          clear c8
          obtain ⟨ji9, hji9⟩ : ∃ j_ : Int, (wrap64 ((wrap64 (s0_1 + 1)) - 1)) = j_ := ⟨_, rfl⟩
          replace H : (if 0 ≤ (ji9) then (if a1 = 0 then (none) else (some (Int.tmod (wrap64 (rd s0_0 (ji9))) a1, (wrap64 (s0_1 + 1))))) else (none)) = some (r1, r2) := by first | (rw [hji9] at H; exact H) | (simp only [hji9] at H ⊢; exact H)
          (try rw [hji9] at c8b0)
          have hji9w : (IntKind.i64.wrap ((wrap64 (s0_1 + 1)) - 1)) = ji9 := (i64_w _).trans hji9
          by_cases c10 : 0 ≤ (ji9)
          · rw [if_pos c10] at H
            have c10b0 : decide (0 ≤ (ji9)) = true := decide_eq_true c10
            clear c10
            by_cases c11 : a1 = 0
            · rw [if_pos c11] at H
              exact absurd H (by simp)
            · rw [if_neg c11] at H
              have c11b0 : (a1 == 0) = false := beq_eq_false_iff_ne.mpr c11
              have c11b1 : (a1 != 0) = true := bne_iff_ne.mpr c11
              simp only [Option.some.injEq, Prod.mk.injEq] at H
              obtain ⟨rfl, rfl⟩ := H
              obtain ⟨ASz12_0, cSz12_0, HGz12, hgz12, HSz12_0⟩ := HI0.out
              have hcz12_0 := cellS62_0 HGz12
              have hcz12_1 := cellS62_1 HGz12
              have hfz12_1 := blk_frozen HGz12 1
              clear HGz12 hgz12
              have p238 : 0 ≤ ((ji9) : Int) := of_decide_eq_true (by first | (with_reducible assumption) | assumption)
              have q238 : (ji9) < (s0_0.length : Int) := of_decide_eq_true (by first | (with_reducible assumption) | assumption)
              obtain ⟨ad238, e238, hx238_0⟩ := Kd.at_int HSz12_0 (ji9) p238 q238
              cases e238
              replace hx238_0 := pw_cell_below HB.out hx238_0
              replace p238 := eq_true p238
              replace q238 := eq_true q238
              go_wp2
              repeat (go_quiet (fail); try go_wp2)
              go_ret
              exact ⟨by first | rfl | (simp [errW_none, errW_some] <;> rfl) | (simp only [← hji9]; first | rfl | (simp [errW_none, errW_some] <;> rfl)) | (simp [*, errW_none, errW_some] <;> rfl), by repeat (first | (with_reducible first | exact HI0.out | apply IsS62.alloc | apply IsS62.drewN | apply IsS62.drew | apply IsS62.set_1) | exact HI0.out), by repeat (first | (with_reducible first | exact HB.out | apply below_alloc | apply pw_below_drewN | apply below_drew1 | refine below_set ?_ (IsS62.ge HI0.out)) | exact HB.out), by repeat (first | (with_reducible first | exact HK.out | apply KeepBut.set_ | apply keep_drewN | apply keep_drew | apply keep_alloc) | exact HK.out)⟩
          · rw [if_neg c10] at H
            exact absurd H (by simp)
        · rw [if_neg c8] at H
          have c8b0 : decide ((wrap64 ((wrap64 (s0_1 + 1)) - 1)) < (s0_0.length : Int)) = false := decide_eq_false c8
          clear c8
          by_cases c13 : (s0_0.length : Int) = 0
          · rw [if_pos c13] at H
            exact absurd H (by simp)
          · rw [if_neg c13] at H
            have c13b0 : ((s0_0.length : Int) == 0) = false := beq_eq_false_iff_ne.mpr c13
            have c13b1 : ((s0_0.length : Int) != 0) = true := bne_iff_ne.mpr c13
            have c13b2 : ¬ (s0_0 = []) := fun h_ => c13 (by rw [h_]; rfl)
            obtain ⟨ji14, hji14⟩ : ∃ j_ : Int, (Int.tmod (wrap64 ((wrap64 (s0_1 + 1)) - 1)) (s0_0.length : Int)) = j_ := ⟨_, rfl⟩
            replace H : (if 0 ≤ (ji14) then (if (ji14) < (s0_0.length : Int) then (if 0 ≤ (Int.tmod (wrap64 ((wrap64 ((wrap64 ((wrap64 (s0_1 + 1)) - 1)) * 7)) + 3)) (s0_0.length : Int)) then (if (Int.tmod (wrap64 ((wrap64 ((wrap64 ((wrap64 (s0_1 + 1)) - 1)) * 7)) + 3)) (s0_0.length : Int)) < (s0_0.length : Int) then (if a1 = 0 then (none) else (some (Int.tmod (Go.bits .xor .i64 (wrap64 ((wrap64 ((wrap64 ((wrap64 ((wrap64 (rd s0_0 (ji14))) * 131)) + (wrap64 ((wrap64 (rd s0_0 (Int.tmod (wrap64 ((wrap64 ((wrap64 ((wrap64 (s0_1 + 1)) - 1)) * 7)) + 3)) (s0_0.length : Int)))) * 1117)))) + (wrap64 ((wrap64 ((wrap64 (s0_1 + 1)) - 1)) * 29)))) + (wrap64 ((wrap64 (Int.tdiv (wrap64 ((wrap64 (s0_1 + 1)) - 1)) (s0_0.length : Int))) * 53)))) (wrap64 (Int.tdiv (wrap64 ((wrap64 ((wrap64 ((wrap64 ((wrap64 (rd s0_0 (ji14))) * 131)) + (wrap64 ((wrap64 (rd s0_0 (Int.tmod (wrap64 ((wrap64 ((wrap64 ((wrap64 (s0_1 + 1)) - 1)) * 7)) + 3)) (s0_0.length : Int)))) * 1117)))) + (wrap64 ((wrap64 ((wrap64 (s0_1 + 1)) - 1)) * 29)))) + (wrap64 ((wrap64 (Int.tdiv (wrap64 ((wrap64 (s0_1 + 1)) - 1)) (s0_0.length : Int))) * 53)))) 64))) a1, (wrap64 (s0_1 + 1))))) else (none)) else (none)) else (none)) else (none)) = some (r1, r2) := by first | (rw [hji14] at H; exact H) | (simp only [hji14] at H ⊢; exact H)
            by_cases c15 : 0 ≤ (ji14)
            · rw [if_pos c15] at H
              have c15b0 : decide (0 ≤ (ji14)) = true := decide_eq_true c15
              clear c15
              by_cases c16 : (ji14) < (s0_0.length : Int)
              · rw [if_pos c16] at H
                have c16b0 : decide ((ji14) < (s0_0.length : Int)) = true := decide_eq_true c16
                clear c16
                obtain ⟨ji17, hji17⟩ : ∃ j_ : Int, (Int.tmod (wrap64 ((wrap64 ((wrap64 ((wrap64 (s0_1 + 1)) - 1)) * 7)) + 3)) (s0_0.length : Int)) = j_ := ⟨_, rfl⟩
                replace H : (if 0 ≤ (ji17) then (if (ji17) < (s0_0.length : Int) then (if a1 = 0 then (none) else (some (Int.tmod (Go.bits .xor .i64 (wrap64 ((wrap64 ((wrap64 ((wrap64 ((wrap64 (rd s0_0 (ji14))) * 131)) + (wrap64 ((wrap64 (rd s0_0 (ji17))) * 1117)))) + (wrap64 ((wrap64 ((wrap64 (s0_1 + 1)) - 1)) * 29)))) + (wrap64 ((wrap64 (Int.tdiv (wrap64 ((wrap64 (s0_1 + 1)) - 1)) (s0_0.length : Int))) * 53)))) (wrap64 (Int.tdiv (wrap64 ((wrap64 ((wrap64 ((wrap64 ((wrap64 (rd s0_0 (ji14))) * 131)) + (wrap64 ((wrap64 (rd s0_0 (ji17))) * 1117)))) + (wrap64 ((wrap64 ((wrap64 (s0_1 + 1)) - 1)) * 29)))) + (wrap64 ((wrap64 (Int.tdiv (wrap64 ((wrap64 (s0_1 + 1)) - 1)) (s0_0.length : Int))) * 53)))) 64))) a1, (wrap64 (s0_1 + 1))))) else (none)) else (none)) = some (r1, r2) := by first | (rw [hji17] at H; exact H) | (simp only [hji17] at H ⊢; exact H)
                by_cases c18 : 0 ≤ (ji17)
                · rw [if_pos c18] at H
                  have c18b0 : decide (0 ≤ (ji17)) = true := decide_eq_true c18
                  clear c18
                  by_cases c19 : (ji17) < (s0_0.length : Int)
                  · rw [if_pos c19] at H
                    have c19b0 : decide ((ji17) < (s0_0.length : Int)) = true := decide_eq_true c19
                    clear c19
                    by_cases c20 : a1 = 0
                    · rw [if_pos c20] at H
                      exact absurd H (by simp)
                    · rw [if_neg c20] at H
                      have c20b0 : (a1 == 0) = false := beq_eq_false_iff_ne.mpr c20
                      have c20b1 : (a1 != 0) = true := bne_iff_ne.mpr c20
                      simp only [Option.some.injEq, Prod.mk.injEq] at H
                      obtain ⟨rfl, rfl⟩ := H
                      obtain ⟨ASz21_0, cSz21_0, HGz21, hgz21, HSz21_0⟩ := HI0.out
                      have hcz21_0 := cellS62_0 HGz21
                      have hcz21_1 := cellS62_1 HGz21
                      have hfz21_1 := blk_frozen HGz21 1
                      clear HGz21 hgz21
                      have p239 : 0 ≤ ((ji14) : Int) := of_decide_eq_true (by first | (with_reducible assumption) | assumption)
                      have q239 : (ji14) < (s0_0.length : Int) := of_decide_eq_true (by first | (with_reducible assumption) | assumption)
                      obtain ⟨ad239, e239, hx239_0⟩ := Kd.at_int HSz21_0 (ji14) p239 q239
                      cases e239
                      replace hx239_0 := pw_cell_below HB.out hx239_0
                      replace p239 := eq_true p239
                      replace q239 := eq_true q239
                      have p240 : 0 ≤ ((ji17) : Int) := of_decide_eq_true (by first | (with_reducible assumption) | assumption)
                      have q240 : (ji17) < (s0_0.length : Int) := of_decide_eq_true (by first | (with_reducible assumption) | assumption)
                      obtain ⟨ad240, e240, hx240_0⟩ := Kd.at_int HSz21_0 (ji17) p240 q240
                      obtain rfl : ad239 = ad240 := (by injection e240)
                      replace hx240_0 := pw_cell_below HB.out hx240_0
                      replace p240 := eq_true p240
                      replace q240 := eq_true q240
                      go_wp2
                      repeat (go_quiet (fail); try go_wp2)
                      go_ret
                      exact ⟨by first | rfl | (simp [errW_none, errW_some] <;> rfl) | (simp only [← hji14, ← hji17]; first | rfl | (simp [errW_none, errW_some] <;> rfl)) | (simp [*, errW_none, errW_some] <;> rfl), by repeat (first | (with_reducible first | exact HI0.out | apply IsS62.alloc | apply IsS62.drewN | apply IsS62.drew | apply IsS62.set_1) | exact HI0.out), by repeat (first | (with_reducible first | exact HB.out | apply below_alloc | apply pw_below_drewN | apply below_drew1 | refine below_set ?_ (IsS62.ge HI0.out)) | exact HB.out), by repeat (first | (with_reducible first | exact HK.out | apply KeepBut.set_ | apply keep_drewN | apply keep_drew | apply keep_alloc) | exact HK.out)⟩
                  · rw [if_neg c19] at H
                    exact absurd H (by simp)
                · rw [if_neg c18] at H
                  exact absurd H (by simp)
              · rw [if_neg c16] at H
                exact absurd H (by simp)
            · rw [if_neg c15] at H
              exact absurd H (by simp)

end Go.Proofs.YtiocgkggegahhaaDoor.P

/- Short ways for steps that the printed walks take often: a block, an owned row or a bound read in a later world. -/
namespace Go.Proofs.YtiocgkggegahhaaDoor.P
open Go.RowKit Go.Proofs.YtiocgkggegahhaaDoorUFnExactRulText.PrintWords Go.Proofs.YtiocgkggegahhaaDoorUFnExactRulText.PrintLast Go.Proofs.YtiocgkggegahhaaDoorUFnExactRulText.PrintMore
set_option linter.unusedVariables false
theorem bk {w W : World} {g : Nat} {o : Obj} (b : Aside0 (w.heap[g]? = some o)) (s : w.heap[g]? = some o → W.heap[g]? = some o := by intro h; (with_reducible repeat (first | refine blk_drewN ?_ _ | refine blk_drew ?_ | refine blk_alloc ?_ _)); exact h) : W.heap[g]? = some o := s b.out
theorem bkL {w W : World} {g : Nat} {o : Obj} (b : Aside0 (w.heap[g]? = some o)) (s : w.heap[g]? = some o → W.heap[g]? = some o := by intro h; (with_reducible repeat (first | refine blk_drewN ?_ _ | refine blk_drew ?_ | refine blk_alloc ?_ _)); exact h) : g < W.heap.size := blk_lt (s b.out)
theorem bkB {w W W' : World} {g : Nat} {o : Obj} (b : Aside0 (w.heap[g]? = some o)) (hb : Below W.heap.size W W') (s : w.heap[g]? = some o → W.heap[g]? = some o := by intro h; (with_reducible repeat (first | refine blk_drewN ?_ _ | refine blk_drew ?_ | refine blk_alloc ?_ _)); exact h) : Aside0 (W'.heap[g]? = some o) := ⟨blk_below (s b.out) hb⟩
theorem bl {w W W' : World} {n : Nat} (b : Aside0 (Below n w W)) (s : Below n w W → Below n w W' := by intro h; repeat (first | (with_reducible first | exact h | apply below_alloc | apply pw_below_drewN | apply below_drew1 | refine below_set ?_ (Aside0.out (by with_reducible assumption))) | exact h)) : Below n w W' := s b.out
theorem rs {α : Type} {d : Kd α} {e : Nat} {w W : World} {base : Nat} {ok : Nat → Prop} {v : Value} {xs : List α} (b : Aside0 (Kd.R d e w base ok v xs)) (s : Kd.R d e w base ok v xs → Kd.R d e W base ok v xs := by intro h; (with_reducible repeat (first | apply Kd.R_alloc | apply Kd.R_drewN | apply Kd.R_drew)); exact h) : Kd.R d e W base ok v xs := s b.out
/-- A world that keeps every block of another. -/
class Up (w : outParam World) (W : World) : Prop where
  up : ∀ {g : Nat} {o : Obj}, w.heap[g]? = some o → W.heap[g]? = some o
instance up_drew (w : World) : Up w w.drew := ⟨fun h => blk_drew h⟩
instance up_drewN (w : World) (n : Nat) : Up w (w.drewN n) := ⟨fun h => blk_drewN h n⟩
instance up_alloc (w : World) (o : Obj) : Up w (w.alloc o) := ⟨fun h => blk_alloc h o⟩
theorem bu {w W : World} [u : Up w W] {g : Nat} {o : Obj} (h : w.heap[g]? = some o) : W.heap[g]? = some o := u.up h
/-- A world that keeps every owned row of another. -/
class UpR (w : outParam World) (W : World) : Prop where
  up : ∀ {α : Type} {d : Kd α} {e base : Nat} {ok : Nat → Prop} {v : Value} {xs : List α}, Kd.R d e w base ok v xs → Kd.R d e W base ok v xs
instance upR_drew (w : World) : UpR w w.drew := ⟨fun h => Kd.R_drew h⟩
instance upR_drewN (w : World) (n : Nat) : UpR w (w.drewN n) := ⟨fun h => Kd.R_drewN h n⟩
instance upR_alloc (w : World) (o : Obj) : UpR w (w.alloc o) := ⟨fun h => Kd.R_alloc h o⟩
theorem ru {w W : World} [u : UpR w W] {α : Type} {d : Kd α} {e base : Nat} {ok : Nat → Prop} {v : Value} {xs : List α} (h : Kd.R d e w base ok v xs) : Kd.R d e W base ok v xs := u.up h
/-- A cell outside block g, read through stores into g. -/
theorem farN {g b : Nat} {w W : World} {p : Addr} {v : Option Value} (h : b ≠ g) (e : w.cell? p = v) (hb : p.block = b := by first | rfl | exact add_block _ _ | (simp [add_block]; done))
    (s : ∀ x : Addr, x.block ≠ g → W.cell? x = w.cell? x := by intro x hx; (with_reducible repeat refine (cell_far hx _).trans ?_); with_reducible rfl) : W.cell? p = v := (s p (by rw [hb]; exact h)).trans e
end Go.Proofs.YtiocgkggegahhaaDoor.P

-- written by hw.py for this claim
namespace Go.Proofs.YtiocgkggegahhaaDoor.P
open Go.RowKit Go.Proofs.YtiocgkggegahhaaDoorUFnExactRulText.PrintWords Go.Proofs.YtiocgkggegahhaaDoorUFnExactRulText.PrintLast Go.Proofs.YtiocgkggegahhaaDoorUFnExactRulText.PrintMore
attribute [local go_sem] max2_int min2_int max_two min_two max_three min_three max_four min_four
set_option linter.unusedVariables false
set_option linter.unusedSimpArgs false

/-! ### spec_l20Open: function 25 -/
def spec_l20Open.f (l0 : List Int) : Option (List Int × Int) := if (l0.length : Int) > 2000 then (if 2000 ≤ (l0.length : Int) then (some (l0.take 2000, 0)) else (none)) else (some (l0, 0))
set_option maxHeartbeats 8000000 in
set_option maxRecDepth 100000 in
theorem spec_l20Open.calls (A0 : Option Addr) (c0 : Nat) (l0 : List Int) (r1 : List Int) (r2 : Int) (w0 w : World) (hB : Below w0.heap.size w0 w) (hr0 : Kd.C (Kd.int .u8) w0 A0 l0.length l0) (hc0 : l0.length ≤ c0) (h : spec_l20Open.f l0 = some (r1, r2)) :
    Calls Tryd.prog 25 #[.slice A0 l0.length c0] w fun e w' => ∃ g_ : Nat, e = .returned (.pointer (some ⟨g_, 0, none⟩)) ∧ IsS62 w0 w' g_ r1 r2 ∧ Below w0.heap.size w0 w' ∧ Below w.heap.size w w' := by
  have hu62 := Tryd.underlying62
  have HR0 := Aside0.mk hr0
  have HC0 := Aside0.mk hc0
  clear hr0 hc0
  have HBW := Aside0.mk (Below.refl w.heap.size w)
  have HW0 := Aside0.mk hB.size
  have HB := Aside0.mk hB
  clear hB
  have H : (if (l0.length : Int) > 2000 then (if 2000 ≤ (l0.length : Int) then (some (l0.take 2000, 0)) else (none)) else (some (l0, 0))) = some (r1, r2) := h
  clear h
  by_cases c2 : (l0.length : Int) > 2000
  · rw [if_pos c2] at H
    have c2b0 : decide (2000 < (l0.length : Int)) = true := decide_eq_true c2
    have c2b1 : decide (2000 < l0.length) = true := decide_eq_true (by omega)
    clear c2
    by_cases c3 : 2000 ≤ (l0.length : Int)
    · rw [if_pos c3] at H
      have c3b0 := eq_true c3
      have c3b1 : decide (2000 ≤ (l0.length : Int)) = true := decide_eq_true c3
      clear c3
      simp only [Option.some.injEq, Prod.mk.injEq] at H
      obtain ⟨rfl, rfl⟩ := H
      obtain ⟨i04, hi04, _, hsz4, _⟩ := info_parts info5
      obtain ⟨hcut4, hA4, hC4⟩ := print_take_of (P := Tryd.prog) (Value.int .u8) 0 32 5 .i64 Tryd.underlying32 hi04 hsz4 A0 c0 l0 2000 (by omega) (of_decide_eq_true (by first | (with_reducible assumption) | assumption)) HC0.out
      have HR289 := Aside0.mk (Kd.C_of_reads (h1 := fun _ => rfl) (hA4 _ (Kd.reads_of_C HR0.out)))
      have HC289 := Aside0.mk hC4
      clear hA4 hC4 hi04 hsz4
      go_enter Tryd.func25, Tryd.ntmps25
      go_wp2_with (first | ((with_reducible refine gate_dst (N := 10) rfl ?_); refine box_event ?hg (N := 10) ?hd (cs := #[.slice A0 (l0.take 2000).length c0, .int .i64 0]) (t := 62) ?hr ?_; (case hd => rfl); (case hg => rfl); (case hr => first | (go_simp; done) | (go_simp; rfl)); intro gb290 hg w5 hbox hb; have n0_ := Aside0.mk (below_step HBW.out hb); have n1_ := Aside0.mk (below_step (bl HB) hb); have n2_ := Aside0.mk (hbox); have n3_ := Aside0.mk ((by rw [hg]; exact (below_size (by repeat (first | (with_reducible first | exact HBW.out | apply below_alloc | apply pw_below_drewN | apply below_drew1) | exact HBW.out))) : w.heap.size ≤ gb290)); have n4_ := Aside0.mk ((Nat.le_trans HW0.out (by rw [hg]; exact (below_size (by repeat (first | (with_reducible first | exact HBW.out | apply below_alloc | apply pw_below_drewN | apply below_drew1) | exact HBW.out))) : w.heap.size ≤ gb290) : w0.heap.size ≤ gb290)); clear HBW; clear HB; have HBW := n0_; have HB := n1_; have BK290 := n2_; have GW290 := n3_; have GE290 := n4_; clear n0_ n1_ n2_ n3_ n4_; clear hb hbox hg))
      go_ret
      exact ⟨_, rfl, (show IsS62 w0 _ gb290 (l0.take 2000) 0 from ⟨_, _, by (with_reducible repeat refine bu ?_); exact BK290.out, GE290.out, HR289.out⟩), by repeat (first | (with_reducible first | exact HB.out | apply below_alloc | apply pw_below_drewN | apply below_drew1 | refine below_set ?_ GE290.out) | exact HB.out), by repeat (first | (with_reducible first | exact HBW.out | apply below_alloc | apply pw_below_drewN | apply below_drew1 | refine below_set ?_ GW290.out) | exact HBW.out)⟩
    · rw [if_neg c3] at H
      exact absurd H (by simp)
  · rw [if_neg c2] at H
    have c2b0 : decide (2000 < (l0.length : Int)) = false := decide_eq_false c2
    have c2b1 : decide (2000 < l0.length) = false := decide_eq_false (by omega)
    clear c2
    simp only [Option.some.injEq, Prod.mk.injEq] at H
    obtain ⟨rfl, rfl⟩ := H
    go_enter Tryd.func25, Tryd.ntmps25
    go_wp2_with (first | ((with_reducible refine gate_dst (N := 10) rfl ?_); refine box_event ?hg (N := 10) ?hd (cs := #[.slice A0 l0.length c0, .int .i64 0]) (t := 62) ?hr ?_; (case hd => rfl); (case hg => rfl); (case hr => first | (go_simp; done) | (go_simp; rfl)); intro gb291 hg w6 hbox hb; have n0_ := Aside0.mk (below_step HBW.out hb); have n1_ := Aside0.mk (below_step (bl HB) hb); have n2_ := Aside0.mk (hbox); have n3_ := Aside0.mk ((by rw [hg]; exact (below_size (by repeat (first | (with_reducible first | exact HBW.out | apply below_alloc | apply pw_below_drewN | apply below_drew1) | exact HBW.out))) : w.heap.size ≤ gb291)); have n4_ := Aside0.mk ((Nat.le_trans HW0.out (by rw [hg]; exact (below_size (by repeat (first | (with_reducible first | exact HBW.out | apply below_alloc | apply pw_below_drewN | apply below_drew1) | exact HBW.out))) : w.heap.size ≤ gb291) : w0.heap.size ≤ gb291)); clear HBW; clear HB; have HBW := n0_; have HB := n1_; have BK291 := n2_; have GW291 := n3_; have GE291 := n4_; clear n0_ n1_ n2_ n3_ n4_; clear hb hbox hg))
    go_ret
    exact ⟨_, rfl, (show IsS62 w0 _ gb291 l0 0 from ⟨_, _, by (with_reducible repeat refine bu ?_); exact BK291.out, GE291.out, HR0.out⟩), by repeat (first | (with_reducible first | exact HB.out | apply below_alloc | apply pw_below_drewN | apply below_drew1 | refine below_set ?_ GE291.out) | exact HB.out), by repeat (first | (with_reducible first | exact HBW.out | apply below_alloc | apply pw_below_drewN | apply below_drew1 | refine below_set ?_ GW291.out) | exact HBW.out)⟩

end Go.Proofs.YtiocgkggegahhaaDoor.P

-- written by hw.py for this claim
namespace Go.Proofs.YtiocgkggegahhaaDoor.P
open Go.RowKit Go.Proofs.YtiocgkggegahhaaDoorUFnExactRulText.PrintWords Go.Proofs.YtiocgkggegahhaaDoorUFnExactRulText.PrintLast Go.Proofs.YtiocgkggegahhaaDoorUFnExactRulText.PrintMore
attribute [local go_sem] max2_int min2_int max_two min_two max_three min_three max_four min_four
set_option linter.unusedVariables false
set_option linter.unusedSimpArgs false

/-! ### spec_l20Rd_odd: function 37 -/
def spec_l20Rd_odd.f (k : Nat) (s0_0 : List Int) (s0_1 : Int) (a1 : Int) : Option (Bool × Int) := if a1 < 9000 then ((spec_l20Rd_pick.f k s0_0 s0_1 a1).bind fun bt241 => (some ((bt241.1 == (wrap64 (a1 - 1))), bt241.2))) else (some (false, s0_1))
theorem spec_l20Rd_odd.mono : ∀ a0 a1 a2 k, LeO (spec_l20Rd_odd.f k a0 a1 a2) (spec_l20Rd_odd.f (k + 1) a0 a1 a2) := by
  intro a0 a1 a2 k
  unfold spec_l20Rd_odd.f
  repeat' first
      | (with_reducible exact spec_l20Rd_pick.mono _ _ _ _)
      | (with_reducible exact LeO.refl _)
      | (with_reducible exact LeO.none _)
      | (with_reducible refine LeO.ite ?_ ?_)
      | (with_reducible refine LeO.bind ?_ (fun _ => ?_))
      | exact spec_l20Rd_pick.mono _ _ _ _
      | exact LeO.none _
      | refine LeO.ite ?_ ?_
      | refine LeO.bind ?_ (fun _ => ?_)
set_option maxHeartbeats 8000000 in
set_option maxRecDepth 100000 in
theorem spec_l20Rd_odd.calls (k : Nat) (g : Nat) (s0_0 : List Int) (s0_1 : Int) (a1 : Int) (r1 : Bool) (r2 : Int) (w0 w : World) (hI : IsS62 w0 w g s0_0 s0_1) (hB : Below w0.heap.size w0 w) (h : spec_l20Rd_odd.f k s0_0 s0_1 a1 = some (r1, r2)) :
    Calls Tryd.prog 37 #[.pointer (some ⟨g, 0, none⟩), .int .i64 a1] w fun e w' => e = .returned (.bool r1) ∧ IsS62 w0 w' g s0_0 r2 ∧ Below w0.heap.size w0 w' ∧ KeepBut w w' g none := by
  have HI0 := Aside0.mk hI
  have HK := Aside0.mk (KeepBut.refl w g none)
  have HL := Aside0.mk hB.size
  clear hI
  have HW0 := Aside0.mk hB.size
  have HB := Aside0.mk hB
  clear hB
  have H : (if a1 < 9000 then ((spec_l20Rd_pick.f k s0_0 s0_1 a1).bind fun bt241 => (some ((bt241.1 == (wrap64 (a1 - 1))), bt241.2))) else (some (false, s0_1))) = some (r1, r2) := h
  clear h
  by_cases c3 : a1 < 9000
  · rw [if_pos c3] at H
    have c3b0 : decide (a1 < 9000) = true := decide_eq_true c3
    clear c3
    replace H := Option.bind_eq_some_iff.mp H
    obtain ⟨⟨t241, t242⟩, A40, H⟩ := H
    replace H : (some ((t241 == (wrap64 (a1 - 1))), t242)) = some (r1, r2) := H
    have A4 := Aside0.mk A40
    clear A40
    simp only [Option.some.injEq, Prod.mk.injEq] at H
    obtain ⟨rfl, rfl⟩ := H
    go_enter Tryd.func37, Tryd.ntmps37
    go_wp2_with (first | (go_at_call 26; (with_reducible refine (spec_l20Rd_pick.calls k g s0_0 s0_1 a1 t241 t242 w0 _ ?side1 ?side2 A4.out).mono ?_); (case side1 => repeat (first | (with_reducible first | exact HI0.out | apply IsS62.alloc | apply IsS62.drewN | apply IsS62.drew | apply IsS62.set_1) | exact HI0.out)); (case side2 => repeat (first | (with_reducible first | exact HB.out | apply below_alloc | apply pw_below_drewN | apply below_drew1 | refine below_set ?_ (IsS62.ge HI0.out)) | exact HB.out)); rintro e w5 ⟨rfl, hi, hb, hk⟩; have n0_ := Aside0.mk (KeepBut.trans (by repeat (first | (with_reducible first | exact HK.out | apply KeepBut.set_ | apply keep_drewN | apply keep_drew | apply keep_alloc) | exact HK.out)) hk (.inl rfl)); have n1_ := Aside0.mk (hb); have n2_ := Aside0.mk (hi); clear HK; clear HB; clear HI0; have HK := n0_; have HB := n1_; have HI0 := n2_; clear n0_ n1_ n2_; (try clear hb); (try clear hb2); (try clear hk); (try clear hi)))
    go_ret
    exact ⟨by first | rfl | (simp [errW_none, errW_some] <;> rfl) | (simp [*, errW_none, errW_some] <;> rfl), by repeat (first | (with_reducible first | exact HI0.out | apply IsS62.alloc | apply IsS62.drewN | apply IsS62.drew | apply IsS62.set_1) | exact HI0.out), by repeat (first | (with_reducible first | exact HB.out | apply below_alloc | apply pw_below_drewN | apply below_drew1 | refine below_set ?_ (IsS62.ge HI0.out)) | exact HB.out), by repeat (first | (with_reducible first | exact HK.out | apply KeepBut.set_ | apply keep_drewN | apply keep_drew | apply keep_alloc) | exact HK.out)⟩
  · rw [if_neg c3] at H
    have c3b0 : decide (a1 < 9000) = false := decide_eq_false c3
    clear c3
    simp only [Option.some.injEq, Prod.mk.injEq] at H
    obtain ⟨rfl, rfl⟩ := H
    go_enter Tryd.func37, Tryd.ntmps37
    go_wp2
    go_ret
    exact ⟨by first | rfl | (simp [errW_none, errW_some] <;> rfl) | (simp [*, errW_none, errW_some] <;> rfl), by repeat (first | (with_reducible first | exact HI0.out | apply IsS62.alloc | apply IsS62.drewN | apply IsS62.drew | apply IsS62.set_1) | exact HI0.out), by repeat (first | (with_reducible first | exact HB.out | apply below_alloc | apply pw_below_drewN | apply below_drew1 | refine below_set ?_ (IsS62.ge HI0.out)) | exact HB.out), by repeat (first | (with_reducible first | exact HK.out | apply KeepBut.set_ | apply keep_drewN | apply keep_drew | apply keep_alloc) | exact HK.out)⟩

end Go.Proofs.YtiocgkggegahhaaDoor.P

/- What the reader of drawn bytes answers: one pick. -/
namespace Go.Proofs.YtiocgkggegahhaaDoor.P
open Go.RowKit Go.Proofs.YtiocgkggegahhaaDoorUFnExactRulText.PrintWords Go.Proofs.YtiocgkggegahhaaDoorUFnExactRulText.PrintLast Go.Proofs.YtiocgkggegahhaaDoorUFnExactRulText.PrintMore
set_option linter.unusedVariables false
set_option linter.unusedSimpArgs false
theorem i64_xor_nat (a b : Nat) (ha : a < 2 ^ 62) (hb : b < 2 ^ 62) : Go.bits .xor .i64 (a : Int) (b : Int) = ((a ^^^ b : Nat) : Int) := by
  have hx : a ^^^ b < 2 ^ 62 := Nat.xor_lt_two_pow ha hb
  show IntKind.i64.wrap ((BitVec.ofInt 64 (a : Int) ^^^ BitVec.ofInt 64 (b : Int)).toNat : Int) = _
  have e : ∀ n : Nat, n < 2 ^ 62 → (BitVec.ofInt 64 (n : Int)).toNat = n := by
    intro n hn
    rw [BitVec.ofInt_natCast, BitVec.toNat_ofNat]; exact Nat.mod_eq_of_lt (by omega)
  rw [BitVec.toNat_xor, e a ha, e b hb]
  rw [i64_w]; unfold wrap64; omega
theorem i64_xor_nonneg (a b : Int) (h1 : 0 ≤ a) (h2 : a < 2 ^ 62) (h3 : 0 ≤ b) (h4 : b < 2 ^ 62) : 0 ≤ Go.bits .xor .i64 a b := by
  obtain ⟨A, rfl⟩ := Int.eq_ofNat_of_zero_le h1
  obtain ⟨B, rfl⟩ := Int.eq_ofNat_of_zero_le h3
  rw [i64_xor_nat A B (by omega) (by omega)]
  omega
theorem w64 (n : Int) (h : -9223372036854775808 ≤ n ∧ n ≤ 9223372036854775807) : wrap64 n = n := by unfold wrap64; omega
/-- Every byte of the list. -/
def Bys (l : List Int) : Prop := ∀ x ∈ l, 0 ≤ x ∧ x ≤ 255
theorem rd_bys {l : List Int} (h : Bys l) (i : Int) : 0 ≤ rd l i ∧ rd l i ≤ 255 := by
  unfold rd
  by_cases hi : i.toNat < l.length
  · have e : l.getD i.toNat 0 = l[i.toNat] := by simp [List.getD, hi]
    rw [e]; exact h _ (List.getElem_mem hi)
  · have e : l.getD i.toNat 0 = 0 := by simp [List.getD, Nat.not_lt.mp hi]
    rw [e]; omega
theorem tmod_in {a n : Int} (ha : 0 ≤ a) (hn : 1 ≤ n) : 0 ≤ Int.tmod a n ∧ Int.tmod a n < n := by
  rw [Int.tmod_eq_emod_of_nonneg ha]
  exact ⟨Int.emod_nonneg _ (by omega), Int.emod_lt_of_pos _ (by omega)⟩
theorem tdiv_in {a n : Int} (ha : 0 ≤ a) (hn : 1 ≤ n) : 0 ≤ Int.tdiv a n ∧ Int.tdiv a n ≤ a := by
  rw [Int.tdiv_eq_ediv_of_nonneg ha]
  exact ⟨Int.ediv_nonneg ha (by omega), Int.ediv_le_self _ ha⟩
/-- One pick: it answers, within its bound, and the place moves on by one. -/
theorem pick_f {l : List Int} (hl : Bys l) (s n : Int) (k : Nat) (hs : 0 ≤ s) (hs' : s < 1000000) : ∃ v, spec_l20Rd_pick.f (k + 1) l s n = some (v, s + 1) ∧ 0 ≤ v ∧ (v < n ∨ v = 0) := by
  unfold spec_l20Rd_pick.f spec_l20Rd_pick.j0
  dsimp only
  have e1 : wrap64 (s + 1) = s + 1 := w64 _ (by omega)
  have e2 : wrap64 (s + 1 - 1) = s := by rw [show s + 1 - 1 = s by omega]; exact w64 _ (by omega)
  by_cases c : n < 1
  · exact ⟨0, by simp [c, e1], by omega, .inr rfl⟩
  · rw [if_neg c, e1]
    simp only [e2]
    by_cases c0 : (l.length : Int) = 0
    · exact ⟨0, by simp [c0], by omega, .inr rfl⟩
    · have cb : ¬ (((l.length : Int) == 0) = true) := by simpa using c0
      have cn : ¬ (n = 0) := by omega
      rw [if_neg cb]
      by_cases c1 : s < (l.length : Int)
      · have hb := rd_bys hl s
        have hm := tmod_in hb.1 (show 1 ≤ n by omega)
        refine ⟨_, by rw [if_pos c1, if_pos hs, if_neg cn, w64 (rd l s) (by omega)], hm.1, .inl hm.2⟩
      · have hL : 1 ≤ (l.length : Int) := by omega
        have m1 := tmod_in hs hL
        have f1 : wrap64 (s * 7) = s * 7 := w64 _ (by omega)
        have f2 : wrap64 (s * 7 + 3) = s * 7 + 3 := w64 _ (by omega)
        have m2 := tmod_in (show 0 ≤ s * 7 + 3 by omega) hL
        rw [if_neg c1, if_neg c0, if_pos m1.1, if_pos m1.2]
        simp only [f1, f2]
        rw [if_pos m2.1, if_pos m2.2, if_neg cn]
        have r1 := rd_bys hl (Int.tmod s (l.length : Int))
        have r2 := rd_bys hl (Int.tmod (s * 7 + 3) (l.length : Int))
        have d1 := tdiv_in hs hL
        generalize rd l (Int.tmod s (l.length : Int)) = u1 at *
        generalize rd l (Int.tmod (s * 7 + 3) (l.length : Int)) = u2 at *
        generalize Int.tdiv s (l.length : Int) = u3 at *
        have g1 : wrap64 u1 = u1 := w64 _ (by omega)
        have g2 : wrap64 u2 = u2 := w64 _ (by omega)
        have g3 : wrap64 u3 = u3 := w64 _ (by omega)
        have g4 : wrap64 (u1 * 131) = u1 * 131 := w64 _ (by omega)
        have g5 : wrap64 (u2 * 1117) = u2 * 1117 := w64 _ (by omega)
        have g6 : wrap64 (s * 29) = s * 29 := w64 _ (by omega)
        have g7 : wrap64 (u3 * 53) = u3 * 53 := w64 _ (by omega)
        simp only [g1, g2, g3, g4, g5, g6, g7]
        have g8 : wrap64 (u1 * 131 + u2 * 1117) = u1 * 131 + u2 * 1117 := w64 _ (by omega)
        rw [g8]
        have g9 : wrap64 (u1 * 131 + u2 * 1117 + s * 29) = u1 * 131 + u2 * 1117 + s * 29 := w64 _ (by omega)
        rw [g9]
        have g10 : wrap64 (u1 * 131 + u2 * 1117 + s * 29 + u3 * 53) = u1 * 131 + u2 * 1117 + s * 29 + u3 * 53 := w64 _ (by omega)
        rw [g10]
        have hX0 : 0 ≤ u1 * 131 + u2 * 1117 + s * 29 + u3 * 53 := by omega
        have hX1 : u1 * 131 + u2 * 1117 + s * 29 + u3 * 53 < 1000000000 := by omega
        generalize u1 * 131 + u2 * 1117 + s * 29 + u3 * 53 = X at *
        have d2 := tdiv_in hX0 (show (1:Int) ≤ 64 by omega)
        have g11 : wrap64 (Int.tdiv X 64) = Int.tdiv X 64 := w64 _ (by omega)
        rw [g11]
        have hz := i64_xor_nonneg X (Int.tdiv X 64) hX0 (by omega) d2.1 (by omega)
        have hm := tmod_in hz (show 1 ≤ n by omega)
        exact ⟨_, rfl, hm.1, .inl hm.2⟩
theorem odd_f {l : List Int} (hl : Bys l) (s n : Int) (k : Nat) (hs : 0 ≤ s) (hs' : s < 1000000) : ∃ b s', spec_l20Rd_odd.f (k + 1) l s n = some (b, s') ∧ s ≤ s' ∧ s' ≤ s + 1 := by
  unfold spec_l20Rd_odd.f
  by_cases c : n < 9000
  · obtain ⟨v, h, _⟩ := pick_f hl s n k hs hs'
    exact ⟨_, s + 1, by rw [if_pos c, h]; rfl, by omega, by omega⟩
  · exact ⟨_, _, by rw [if_neg c], by omega, by omega⟩
theorem open_f (l : List Int) (hl : Bys l) : ∃ l', spec_l20Open.f l = some (l', 0) ∧ Bys l' := by
  unfold spec_l20Open.f
  by_cases c : (l.length : Int) > 2000
  · exact ⟨l.take 2000, by rw [if_pos c, if_pos (by omega)], fun x h => hl x (List.mem_of_mem_take h)⟩
  · exact ⟨l, by rw [if_neg c], hl⟩

theorem rd_three (a b c i : Int) (h : 0 ≤ i ∧ (i < 3 ∨ i = 0)) : rd ([a, b, c] : List Int) i = a ∨ rd ([a, b, c] : List Int) i = b ∨ rd ([a, b, c] : List Int) i = c := by
  have : i = 0 ∨ i = 1 ∨ i = 2 := by omega
  rcases this with rfl | rfl | rfl
  · exact .inl rfl
  · exact .inr (.inl rfl)
  · exact .inr (.inr rfl)
theorem rd_two (a b i : Int) (h : 0 ≤ i ∧ (i < 2 ∨ i = 0)) : rd ([a, b] : List Int) i = a ∨ rd ([a, b] : List Int) i = b := by
  have : i = 0 ∨ i = 1 := by omega
  rcases this with rfl | rfl
  · exact .inl rfl
  · exact .inr rfl
/-- Small whole numbers. -/
def Sm (n : Int) : Prop := -10 ≤ n ∧ n ≤ 1200
end Go.Proofs.YtiocgkggegahhaaDoor.P

/- Functions with rounds: what they answer from some round on. -/
namespace Go.Proofs.YtiocgkggegahhaaDoor.P
open Go.RowKit Go.Proofs.YtiocgkggegahhaaDoorUFnExactRulText.PrintWords Go.Proofs.YtiocgkggegahhaaDoorUFnExactRulText.PrintLast Go.Proofs.YtiocgkggegahhaaDoorUFnExactRulText.PrintMore
set_option linter.unusedVariables false
set_option linter.unusedSimpArgs false
/-- From some round on, the function answers one value, of which P holds. -/
def Ans {α : Type} (f : Nat → Option α) (P : α → Prop) : Prop := ∃ K v, P v ∧ ∀ k, K ≤ k → f k = some v
namespace Ans
variable {α β : Type} {f g : Nat → Option α} {P Q : α → Prop}
theorem of {v : α} (h : ∀ k, f k = some v) (p : P v) : Ans f P := ⟨0, v, p, fun k _ => h k⟩
theorem pure {v : α} (p : P v) : Ans (fun _ => some v) P := ⟨0, v, p, fun k _ => rfl⟩
theorem mono (h : Ans f P) (hq : ∀ v, P v → Q v) : Ans f Q := by obtain ⟨K, v, p, e⟩ := h; exact ⟨K, v, hq v p, e⟩
theorem succ (h : Ans (fun k => f (k + 1)) P) : Ans f P := by
  obtain ⟨K, v, p, e⟩ := h
  refine ⟨K + 1, v, p, fun k hk => ?_⟩
  obtain ⟨k', rfl⟩ : ∃ k', k = k' + 1 := ⟨k - 1, by omega⟩
  exact e k' (by omega)
theorem bind {a : Nat → Option β} {R : β → Prop} {b : Nat → β → Option α} (h : Ans a R) (hb : ∀ v, R v → Ans (fun k => b k v) P) : Ans (fun k => (a k).bind (b k)) P := by
  obtain ⟨K, v, p, e⟩ := h
  obtain ⟨K', u, q, e'⟩ := hb v p
  exact ⟨max K K', u, q, fun k hk => by show (a k).bind (b k) = some u; rw [e k (by omega)]; exact e' k (by omega)⟩
theorem bsome {v : β} {b : Nat → β → Option α} (h : Ans (fun k => b k v) P) : Ans (fun k => (some v).bind (b k)) P := h
theorem congr (h : Ans g P) (e : ∀ k, f k = g k) : Ans f P := by obtain ⟨K, v, p, e'⟩ := h; exact ⟨K, v, p, fun k hk => (e k).trans (e' k hk)⟩
theorem got (h : Ans f P) : ∃ k v, P v ∧ f k = some v := by obtain ⟨K, v, p, e⟩ := h; exact ⟨K, v, p, e K (Nat.le_refl _)⟩
theorem pos {c : Prop} [Decidable c] (h : c) (ht : Ans f P) : Ans (fun k => if c then f k else g k) P := congr ht (fun k => if_pos h)
theorem neg {c : Prop} [Decidable c] (h : ¬ c) (ht : Ans g P) : Ans (fun k => if c then f k else g k) P := congr ht (fun k => if_neg h)
theorem ite {c : Prop} [Decidable c] (ht : c → Ans f P) (he : ¬ c → Ans g P) : Ans (fun k => if c then f k else g k) P := by
  by_cases h : c
  · exact pos h (ht h)
  · exact neg h (he h)
end Ans
/-- A place among the drawn bytes, at most n. -/
def At (n s : Int) : Prop := 0 ≤ s ∧ s ≤ n
theorem pick_a {l : List Int} (hl : Bys l) {s B : Int} (hs : At B s) (hB : B < 900000) (n : Int) : Ans (fun k => spec_l20Rd_pick.f k l s n) (fun r => At (B + 1) r.2 ∧ 0 ≤ r.1 ∧ (r.1 < n ∨ r.1 = 0)) := by
  obtain ⟨h0, h1⟩ := hs
  refine Ans.succ ?_
  obtain ⟨v, h, p⟩ := pick_f hl s n 0 h0 (by omega)
  refine Ans.of (v := (v, s + 1)) (fun k => ?_) ⟨⟨by omega, by first | omega | (dsimp only; omega)⟩, p⟩
  obtain ⟨v', h', _⟩ := pick_f hl s n k h0 (by omega)
  have e : spec_l20Rd_pick.f (k + 1) l s n = spec_l20Rd_pick.f (0 + 1) l s n := by
    unfold spec_l20Rd_pick.f spec_l20Rd_pick.j0
    rfl
  rw [e, h]
theorem odd_a {l : List Int} (hl : Bys l) {s B : Int} (hs : At B s) (hB : B < 900000) (n : Int) : Ans (fun k => spec_l20Rd_odd.f k l s n) (fun r => At (B + 1) r.2) := by
  unfold spec_l20Rd_odd.f
  refine Ans.ite (fun _ => ?_) (fun _ => Ans.pure ⟨hs.1, by have := hs.2; dsimp only; omega⟩)
  refine Ans.bind (pick_a hl hs hB n) ?_
  rintro ⟨v, s'⟩ ⟨h, _⟩
  exact Ans.pure h
theorem at_le {B B' s : Int} (h : At B s) (hb : B ≤ B') : At B' s := ⟨h.1, by have := h.2; omega⟩
theorem sm_rd {xs : List Int} (h : ∀ x ∈ xs, Sm x) (i : Int) : Sm (rd xs i) := by
  unfold rd
  by_cases hi : i.toNat < xs.length
  · have e : xs.getD i.toNat 0 = xs[i.toNat] := by simp [List.getD, hi]
    rw [e]; exact h _ (List.getElem_mem hi)
  · have e : xs.getD i.toNat 0 = 0 := by simp [List.getD, Nat.not_lt.mp hi]
    rw [e]; unfold Sm; omega
end Go.Proofs.YtiocgkggegahhaaDoor.P

-- written by hw.py for this claim
namespace Go.Proofs.YtiocgkggegahhaaDoor.P
open Go.RowKit Go.Proofs.YtiocgkggegahhaaDoorUFnExactRulText.PrintWords Go.Proofs.YtiocgkggegahhaaDoorUFnExactRulText.PrintLast Go.Proofs.YtiocgkggegahhaaDoorUFnExactRulText.PrintMore
attribute [local go_sem] max2_int min2_int max_two min_two max_three min_three max_four min_four
set_option linter.unusedVariables false
set_option linter.unusedSimpArgs false

/-! ### impl_within: function 38 -/
def impl_within.f (a0 : Int) (a1 : Int) (a2 : Int) : Option (Bool) := if a0 ≥ a1 then (some (decide (a0 ≤ a2))) else (some false)
set_option maxHeartbeats 8000000 in
set_option maxRecDepth 100000 in
theorem impl_within.calls (a0 : Int) (a1 : Int) (a2 : Int) (r : Bool) (w : World) (h : impl_within.f a0 a1 a2 = some r) :
    Calls Tryd.prog 38 #[.int .i64 a0, .int .i64 a1, .int .i64 a2] w fun e w' => e = .returned (.bool r) ∧ Drawn0 w w' := by
  have H : (if a0 ≥ a1 then (some (decide (a0 ≤ a2))) else (some false)) = some r := h
  clear h
  by_cases c4 : a0 ≥ a1
  · rw [if_pos c4] at H
    have c4b0 : decide (a1 ≤ a0) = true := decide_eq_true c4
    clear c4
    obtain rfl := Option.some.inj H
    go_enter Tryd.func38, Tryd.ntmps38
    go_wp2
    go_ret
    exact ⟨by first | rfl | (simp; done) | (simp [*]; done), by repeat (first | exact Drawn0.refl _ | apply Drawn0.step)⟩
  · rw [if_neg c4] at H
    have c4b0 : decide (a1 ≤ a0) = false := decide_eq_false c4
    clear c4
    obtain rfl := Option.some.inj H
    go_enter Tryd.func38, Tryd.ntmps38
    go_wp2
    go_ret
    exact ⟨by first | rfl | (simp; done) | (simp [*]; done), by repeat (first | exact Drawn0.refl _ | apply Drawn0.step)⟩

end Go.Proofs.YtiocgkggegahhaaDoor.P

-- written by hw.py for this claim
namespace Go.Proofs.YtiocgkggegahhaaDoor.P
open Go.RowKit Go.Proofs.YtiocgkggegahhaaDoorUFnExactRulText.PrintWords Go.Proofs.YtiocgkggegahhaaDoorUFnExactRulText.PrintLast Go.Proofs.YtiocgkggegahhaaDoorUFnExactRulText.PrintMore
attribute [local go_sem] max2_int min2_int max_two min_two max_three min_three max_four min_four
set_option linter.unusedVariables false
set_option linter.unusedSimpArgs false

/-! ### impl_inside: function 28 -/
def impl_inside.f (a0 : Int) : Option (Bool) := (impl_within.f a0 1 9).bind fun t121 => (some t121)
set_option maxHeartbeats 8000000 in
set_option maxRecDepth 100000 in
theorem impl_inside.calls (a0 : Int) (r : Bool) (w : World) (h : impl_inside.f a0 = some r) :
    Calls Tryd.prog 28 #[.int .i64 a0] w fun e w' => e = .returned (.bool r) ∧ Drawn0 w w' := by
  have H : ((impl_within.f a0 1 9).bind fun t121 => (some t121)) = some r := h
  clear h
  replace H := Option.bind_eq_some_iff.mp H
  obtain ⟨t121, A20, H⟩ := H
  replace H : (some t121) = some r := H
  have A2 := Aside0.mk A20
  clear A20
  obtain rfl := Option.some.inj H
  go_enter Tryd.func28, Tryd.ntmps28
  go_wp2_with (first | ((with_reducible refine gate_callee (f := 38) rfl ?_); refine goesL_ (some 4) rfl rfl Tryd.func38 (by kernel_rfl) rfl #[.int .i64 a0, .int .i64 1, .int .i64 9] rfl (by (try simp only [List.map_toArray, List.map_cons, List.map_nil]); first | done | rfl | (simp only [List.length_drop, List.length_take]; rfl)) ?_; (with_reducible refine (impl_within.calls a0 1 9 t121 _ A2.out).mono ?_); rintro e w' ⟨rfl, ⟨nd, rfl⟩⟩; refine ⟨_, rfl, ?_⟩))
  go_ret
  exact ⟨by first | rfl | (simp; done) | (simp [*]; done), by repeat (first | exact Drawn0.refl _ | apply Drawn0.step)⟩

end Go.Proofs.YtiocgkggegahhaaDoor.P

-- written by hw.py for this claim
namespace Go.Proofs.YtiocgkggegahhaaDoor.P
open Go.RowKit Go.Proofs.YtiocgkggegahhaaDoorUFnExactRulText.PrintWords Go.Proofs.YtiocgkggegahhaaDoorUFnExactRulText.PrintLast Go.Proofs.YtiocgkggegahhaaDoorUFnExactRulText.PrintMore
attribute [local go_sem] max2_int min2_int max_two min_two max_three min_three max_four min_four
set_option linter.unusedVariables false
set_option linter.unusedSimpArgs false

/-! ### impl_outside: function 29 -/
def impl_outside.f (a0 : Int) : Option (Bool) := (impl_within.f a0 100 109).bind fun t122 => (some t122)
set_option maxHeartbeats 8000000 in
set_option maxRecDepth 100000 in
theorem impl_outside.calls (a0 : Int) (r : Bool) (w : World) (h : impl_outside.f a0 = some r) :
    Calls Tryd.prog 29 #[.int .i64 a0] w fun e w' => e = .returned (.bool r) ∧ Drawn0 w w' := by
  have H : ((impl_within.f a0 100 109).bind fun t122 => (some t122)) = some r := h
  clear h
  replace H := Option.bind_eq_some_iff.mp H
  obtain ⟨t122, A20, H⟩ := H
  replace H : (some t122) = some r := H
  have A2 := Aside0.mk A20
  clear A20
  obtain rfl := Option.some.inj H
  go_enter Tryd.func29, Tryd.ntmps29
  go_wp2_with (first | ((with_reducible refine gate_callee (f := 38) rfl ?_); refine goesL_ (some 4) rfl rfl Tryd.func38 (by kernel_rfl) rfl #[.int .i64 a0, .int .i64 100, .int .i64 109] rfl (by (try simp only [List.map_toArray, List.map_cons, List.map_nil]); first | done | rfl | (simp only [List.length_drop, List.length_take]; rfl)) ?_; (with_reducible refine (impl_within.calls a0 100 109 t122 _ A2.out).mono ?_); rintro e w' ⟨rfl, ⟨nd, rfl⟩⟩; refine ⟨_, rfl, ?_⟩))
  go_ret
  exact ⟨by first | rfl | (simp; done) | (simp [*]; done), by repeat (first | exact Drawn0.refl _ | apply Drawn0.step)⟩

end Go.Proofs.YtiocgkggegahhaaDoor.P

-- written by hw.py for this claim
namespace Go.Proofs.YtiocgkggegahhaaDoor.P
open Go.RowKit Go.Proofs.YtiocgkggegahhaaDoorUFnExactRulText.PrintWords Go.Proofs.YtiocgkggegahhaaDoorUFnExactRulText.PrintLast Go.Proofs.YtiocgkggegahhaaDoorUFnExactRulText.PrintMore
attribute [local go_sem] max2_int min2_int max_two min_two max_three min_three max_four min_four
set_option linter.unusedVariables false
set_option linter.unusedSimpArgs false

/-! ### impl_portOk: function 30 -/
def impl_portOk.f (a0 : Int) : Option (Bool) := (impl_within.f a0 1 999).bind fun t123 => (some t123)
set_option maxHeartbeats 8000000 in
set_option maxRecDepth 100000 in
theorem impl_portOk.calls (a0 : Int) (r : Bool) (w : World) (h : impl_portOk.f a0 = some r) :
    Calls Tryd.prog 30 #[.int .i64 a0] w fun e w' => e = .returned (.bool r) ∧ Drawn0 w w' := by
  have H : ((impl_within.f a0 1 999).bind fun t123 => (some t123)) = some r := h
  clear h
  replace H := Option.bind_eq_some_iff.mp H
  obtain ⟨t123, A20, H⟩ := H
  replace H : (some t123) = some r := H
  have A2 := Aside0.mk A20
  clear A20
  obtain rfl := Option.some.inj H
  go_enter Tryd.func30, Tryd.ntmps30
  go_wp2_with (first | ((with_reducible refine gate_callee (f := 38) rfl ?_); refine goesL_ (some 4) rfl rfl Tryd.func38 (by kernel_rfl) rfl #[.int .i64 a0, .int .i64 1, .int .i64 999] rfl (by (try simp only [List.map_toArray, List.map_cons, List.map_nil]); first | done | rfl | (simp only [List.length_drop, List.length_take]; rfl)) ?_; (with_reducible refine (impl_within.calls a0 1 999 t123 _ A2.out).mono ?_); rintro e w' ⟨rfl, ⟨nd, rfl⟩⟩; refine ⟨_, rfl, ?_⟩))
  go_ret
  exact ⟨by first | rfl | (simp; done) | (simp [*]; done), by repeat (first | exact Drawn0.refl _ | apply Drawn0.step)⟩

end Go.Proofs.YtiocgkggegahhaaDoor.P

-- written by hw.py for this claim
namespace Go.Proofs.YtiocgkggegahhaaDoor.P
open Go.RowKit Go.Proofs.YtiocgkggegahhaaDoorUFnExactRulText.PrintWords Go.Proofs.YtiocgkggegahhaaDoorUFnExactRulText.PrintLast Go.Proofs.YtiocgkggegahhaaDoorUFnExactRulText.PrintMore
attribute [local go_sem] max2_int min2_int max_two min_two max_three min_three max_four min_four
set_option linter.unusedVariables false
set_option linter.unusedSimpArgs false

/-! ### impl_RulOk: function 14 -/
def impl_RulOk.f (a0_0 : Bool) (a0_1 : Int) (a0_2 : Int) (a0_3 : Int) (a0_4 : Int) (a0_5 : Int) (a0_6 : Int) : Option (Bool) := (impl_inside.f a0_1).bind fun t125 => (if t125 = true then ((impl_inside.f a0_2).bind fun t126 => (if t126 = true then (if a0_1 ≤ a0_2 then ((impl_outside.f a0_3).bind fun t127 => (if t127 = true then ((impl_outside.f a0_4).bind fun t128 => (if t128 = true then (if a0_3 ≤ a0_4 then ((impl_portOk.f a0_5).bind fun t129 => (if t129 = true then ((impl_portOk.f a0_6).bind fun t130 => (if t130 = true then (some (decide (a0_5 ≤ a0_6))) else (some false))) else (some false))) else (some false)) else (some false))) else (some false))) else (some false)) else (some false))) else (some false))
set_option maxHeartbeats 8000000 in
set_option maxRecDepth 100000 in
theorem impl_RulOk.calls (a0_0 : Bool) (a0_1 : Int) (a0_2 : Int) (a0_3 : Int) (a0_4 : Int) (a0_5 : Int) (a0_6 : Int) (r : Bool) (w : World) (h : impl_RulOk.f a0_0 a0_1 a0_2 a0_3 a0_4 a0_5 a0_6 = some r) :
    Calls Tryd.prog 14 #[.agg #[.bool a0_0, .int .i64 a0_1, .int .i64 a0_2, .int .i64 a0_3, .int .i64 a0_4, .int .i64 a0_5, .int .i64 a0_6]] w fun e w' => e = .returned (.bool r) ∧ Below w.heap.size w w' := by
  have hu25 := Tryd.underlying25
  have HB := Aside0.mk (Below.refl w.heap.size w)
  have H : ((impl_inside.f a0_1).bind fun t125 => (if t125 = true then ((impl_inside.f a0_2).bind fun t126 => (if t126 = true then (if a0_1 ≤ a0_2 then ((impl_outside.f a0_3).bind fun t127 => (if t127 = true then ((impl_outside.f a0_4).bind fun t128 => (if t128 = true then (if a0_3 ≤ a0_4 then ((impl_portOk.f a0_5).bind fun t129 => (if t129 = true then ((impl_portOk.f a0_6).bind fun t130 => (if t130 = true then (some (decide (a0_5 ≤ a0_6))) else (some false))) else (some false))) else (some false)) else (some false))) else (some false))) else (some false)) else (some false))) else (some false))) = some r := h
  clear h
  replace H := Option.bind_eq_some_iff.mp H
  obtain ⟨t125, A20, H⟩ := H
  replace H : (if t125 = true then ((impl_inside.f a0_2).bind fun t126 => (if t126 = true then (if a0_1 ≤ a0_2 then ((impl_outside.f a0_3).bind fun t127 => (if t127 = true then ((impl_outside.f a0_4).bind fun t128 => (if t128 = true then (if a0_3 ≤ a0_4 then ((impl_portOk.f a0_5).bind fun t129 => (if t129 = true then ((impl_portOk.f a0_6).bind fun t130 => (if t130 = true then (some (decide (a0_5 ≤ a0_6))) else (some false))) else (some false))) else (some false)) else (some false))) else (some false))) else (some false)) else (some false))) else (some false)) = some r := H
  have A2 := Aside0.mk A20
  clear A20
  by_cases c3 : t125 = true
  · subst c3
    have H1 : ((impl_inside.f a0_2).bind fun t126 => (if t126 = true then (if a0_1 ≤ a0_2 then ((impl_outside.f a0_3).bind fun t127 => (if t127 = true then ((impl_outside.f a0_4).bind fun t128 => (if t128 = true then (if a0_3 ≤ a0_4 then ((impl_portOk.f a0_5).bind fun t129 => (if t129 = true then ((impl_portOk.f a0_6).bind fun t130 => (if t130 = true then (some (decide (a0_5 ≤ a0_6))) else (some false))) else (some false))) else (some false)) else (some false))) else (some false))) else (some false)) else (some false))) = some r := by rw [if_pos rfl] at H; exact H
    clear H
    have H := H1
    clear H1
    replace H := Option.bind_eq_some_iff.mp H
    obtain ⟨t126, A40, H⟩ := H
    replace H : (if t126 = true then (if a0_1 ≤ a0_2 then ((impl_outside.f a0_3).bind fun t127 => (if t127 = true then ((impl_outside.f a0_4).bind fun t128 => (if t128 = true then (if a0_3 ≤ a0_4 then ((impl_portOk.f a0_5).bind fun t129 => (if t129 = true then ((impl_portOk.f a0_6).bind fun t130 => (if t130 = true then (some (decide (a0_5 ≤ a0_6))) else (some false))) else (some false))) else (some false)) else (some false))) else (some false))) else (some false)) else (some false)) = some r := H
    have A4 := Aside0.mk A40
    clear A40
    by_cases c5 : t126 = true
    · subst c5
      have H1 : (if a0_1 ≤ a0_2 then ((impl_outside.f a0_3).bind fun t127 => (if t127 = true then ((impl_outside.f a0_4).bind fun t128 => (if t128 = true then (if a0_3 ≤ a0_4 then ((impl_portOk.f a0_5).bind fun t129 => (if t129 = true then ((impl_portOk.f a0_6).bind fun t130 => (if t130 = true then (some (decide (a0_5 ≤ a0_6))) else (some false))) else (some false))) else (some false)) else (some false))) else (some false))) else (some false)) = some r := by rw [if_pos rfl] at H; exact H
      clear H
      have H := H1
      clear H1
      by_cases c6 : a0_1 ≤ a0_2
      · rw [if_pos c6] at H
        have c6b0 : decide (a0_1 ≤ a0_2) = true := decide_eq_true c6
        clear c6
        replace H := Option.bind_eq_some_iff.mp H
        obtain ⟨t127, A70, H⟩ := H
        replace H : (if t127 = true then ((impl_outside.f a0_4).bind fun t128 => (if t128 = true then (if a0_3 ≤ a0_4 then ((impl_portOk.f a0_5).bind fun t129 => (if t129 = true then ((impl_portOk.f a0_6).bind fun t130 => (if t130 = true then (some (decide (a0_5 ≤ a0_6))) else (some false))) else (some false))) else (some false)) else (some false))) else (some false)) = some r := H
        have A7 := Aside0.mk A70
        clear A70
        by_cases c8 : t127 = true
        · subst c8
          have H1 : ((impl_outside.f a0_4).bind fun t128 => (if t128 = true then (if a0_3 ≤ a0_4 then ((impl_portOk.f a0_5).bind fun t129 => (if t129 = true then ((impl_portOk.f a0_6).bind fun t130 => (if t130 = true then (some (decide (a0_5 ≤ a0_6))) else (some false))) else (some false))) else (some false)) else (some false))) = some r := by rw [if_pos rfl] at H; exact H
          clear H
          have H := H1
          clear H1
          replace H := Option.bind_eq_some_iff.mp H
          obtain ⟨t128, A90, H⟩ := H
          replace H : (if t128 = true then (if a0_3 ≤ a0_4 then ((impl_portOk.f a0_5).bind fun t129 => (if t129 = true then ((impl_portOk.f a0_6).bind fun t130 => (if t130 = true then (some (decide (a0_5 ≤ a0_6))) else (some false))) else (some false))) else (some false)) else (some false)) = some r := H
          have A9 := Aside0.mk A90
          clear A90
          by_cases c10 : t128 = true
          · subst c10
            have H1 : (if a0_3 ≤ a0_4 then ((impl_portOk.f a0_5).bind fun t129 => (if t129 = true then ((impl_portOk.f a0_6).bind fun t130 => (if t130 = true then (some (decide (a0_5 ≤ a0_6))) else (some false))) else (some false))) else (some false)) = some r := by rw [if_pos rfl] at H; exact H
            clear H
            have H := H1
            clear H1
            by_cases c11 : a0_3 ≤ a0_4
            · rw [if_pos c11] at H
              have c11b0 : decide (a0_3 ≤ a0_4) = true := decide_eq_true c11
              clear c11
              replace H := Option.bind_eq_some_iff.mp H
              obtain ⟨t129, A120, H⟩ := H
              replace H : (if t129 = true then ((impl_portOk.f a0_6).bind fun t130 => (if t130 = true then (some (decide (a0_5 ≤ a0_6))) else (some false))) else (some false)) = some r := H
              have A12 := Aside0.mk A120
              clear A120
              by_cases c13 : t129 = true
              · subst c13
                have H1 : ((impl_portOk.f a0_6).bind fun t130 => (if t130 = true then (some (decide (a0_5 ≤ a0_6))) else (some false))) = some r := by rw [if_pos rfl] at H; exact H
                clear H
                have H := H1
                clear H1
                replace H := Option.bind_eq_some_iff.mp H
                obtain ⟨t130, A140, H⟩ := H
                replace H : (if t130 = true then (some (decide (a0_5 ≤ a0_6))) else (some false)) = some r := H
                have A14 := Aside0.mk A140
                clear A140
                by_cases c15 : t130 = true
                · subst c15
                  have H1 : (some (decide (a0_5 ≤ a0_6))) = some r := by rw [if_pos rfl] at H; exact H
                  clear H
                  have H := H1
                  clear H1
                  obtain rfl := Option.some.inj H
                  go_enter Tryd.func14, Tryd.ntmps14
                  go_wp2_with (first | ((with_reducible refine gate_dst (N := 1) rfl ?_); refine box_event ?hg (N := 1) ?hd (cs := #[.bool a0_0, .int .i64 a0_1, .int .i64 a0_2, .int .i64 a0_3, .int .i64 a0_4, .int .i64 a0_5, .int .i64 a0_6]) (t := 25) ?hr ?_; (case hd => rfl); (case hg => rfl); (case hr => first | (go_simp; done) | (go_simp; rfl)); intro gb124 hg w16 hbox hb; have n0_ := Aside0.mk (below_step (bl HB) hb); have n1_ := Aside0.mk (hbox); have n2_ := Aside0.mk ((by rw [hg]; exact (below_size (bl HB)) : w.heap.size ≤ gb124)); have n3_ := Aside0.mk ((by rw [hg]; exact (below_size (bl HB)) : w.heap.size ≤ gb124)); clear HB; have HB := n0_; have BK124 := n1_; have GW124 := n2_; have GE124 := n3_; clear n0_ n1_ n2_ n3_; clear hb hbox hg; have hcz17_0 : w16.cell? ⟨gb124, 0, none⟩ = some (.bool a0_0) := (blk_cell BK124.out 0).trans rfl; have hcz17_1 : w16.cell? ⟨gb124, 1, none⟩ = some (.int .i64 a0_1) := (blk_cell BK124.out 1).trans rfl; have hcz17_2 : w16.cell? ⟨gb124, 2, none⟩ = some (.int .i64 a0_2) := (blk_cell BK124.out 2).trans rfl; have hcz17_3 : w16.cell? ⟨gb124, 3, none⟩ = some (.int .i64 a0_3) := (blk_cell BK124.out 3).trans rfl; have hcz17_4 : w16.cell? ⟨gb124, 4, none⟩ = some (.int .i64 a0_4) := (blk_cell BK124.out 4).trans rfl; have hcz17_5 : w16.cell? ⟨gb124, 5, none⟩ = some (.int .i64 a0_5) := (blk_cell BK124.out 5).trans rfl; have hcz17_6 : w16.cell? ⟨gb124, 6, none⟩ = some (.int .i64 a0_6) := (blk_cell BK124.out 6).trans rfl; have hfz17_0 := blk_frozen BK124.out 0; have hfz17_1 := blk_frozen BK124.out 1; have hfz17_2 := blk_frozen BK124.out 2; have hfz17_3 := blk_frozen BK124.out 3; have hfz17_4 := blk_frozen BK124.out 4; have hfz17_5 := blk_frozen BK124.out 5; have hfz17_6 := blk_frozen BK124.out 6) | ((with_reducible refine gate_callee (f := 28) rfl ?_); refine goesL_ (some 5) rfl rfl Tryd.func28 (by kernel_rfl) rfl #[.int .i64 a0_1] rfl (by (try simp only [List.map_toArray, List.map_cons, List.map_nil]); first | done | rfl | (simp only [List.length_drop, List.length_take]; rfl)) ?_; (with_reducible refine (impl_inside.calls a0_1 true _ A2.out).mono ?_); rintro e w' ⟨rfl, ⟨nd, rfl⟩⟩; refine ⟨_, rfl, ?_⟩) | (go_at_call 28; (with_reducible refine (impl_inside.calls a0_2 true _ A4.out).mono ?_); rintro e w' ⟨rfl, ⟨nd, rfl⟩⟩) | (go_at_call 29; (with_reducible refine (impl_outside.calls a0_3 true _ A7.out).mono ?_); rintro e w' ⟨rfl, ⟨nd, rfl⟩⟩) | (go_at_call 29; (with_reducible refine (impl_outside.calls a0_4 true _ A9.out).mono ?_); rintro e w' ⟨rfl, ⟨nd, rfl⟩⟩) | (go_at_call 30; (with_reducible refine (impl_portOk.calls a0_5 true _ A12.out).mono ?_); rintro e w' ⟨rfl, ⟨nd, rfl⟩⟩) | (go_at_call 30; (with_reducible refine (impl_portOk.calls a0_6 true _ A14.out).mono ?_); rintro e w' ⟨rfl, ⟨nd, rfl⟩⟩))
                  go_ret
                  exact ⟨by first | rfl | (simp [errW_none, errW_some] <;> rfl) | (simp [*, errW_none, errW_some] <;> rfl), by repeat (first | (with_reducible first | exact HB.out | apply below_alloc | apply pw_below_drewN | apply below_drew1 | refine below_set ?_ GE124.out) | exact HB.out)⟩
                · replace c15 := Bool.eq_false_iff.mpr c15
                  subst c15
                  have H1 : (some false) = some r := by rw [if_neg (show ¬ (false = true) by decide)] at H; exact H
                  clear H
                  have H := H1
                  clear H1
                  obtain rfl := Option.some.inj H
                  go_enter Tryd.func14, Tryd.ntmps14
                  go_wp2_with (first | ((with_reducible refine gate_dst (N := 1) rfl ?_); refine box_event ?hg (N := 1) ?hd (cs := #[.bool a0_0, .int .i64 a0_1, .int .i64 a0_2, .int .i64 a0_3, .int .i64 a0_4, .int .i64 a0_5, .int .i64 a0_6]) (t := 25) ?hr ?_; (case hd => rfl); (case hg => rfl); (case hr => first | (go_simp; done) | (go_simp; rfl)); intro gb124 hg w18 hbox hb; have n0_ := Aside0.mk (below_step (bl HB) hb); have n1_ := Aside0.mk (hbox); have n2_ := Aside0.mk ((by rw [hg]; exact (below_size (bl HB)) : w.heap.size ≤ gb124)); have n3_ := Aside0.mk ((by rw [hg]; exact (below_size (bl HB)) : w.heap.size ≤ gb124)); clear HB; have HB := n0_; have BK124 := n1_; have GW124 := n2_; have GE124 := n3_; clear n0_ n1_ n2_ n3_; clear hb hbox hg; have hcz19_0 : w18.cell? ⟨gb124, 0, none⟩ = some (.bool a0_0) := (blk_cell BK124.out 0).trans rfl; have hcz19_1 : w18.cell? ⟨gb124, 1, none⟩ = some (.int .i64 a0_1) := (blk_cell BK124.out 1).trans rfl; have hcz19_2 : w18.cell? ⟨gb124, 2, none⟩ = some (.int .i64 a0_2) := (blk_cell BK124.out 2).trans rfl; have hcz19_3 : w18.cell? ⟨gb124, 3, none⟩ = some (.int .i64 a0_3) := (blk_cell BK124.out 3).trans rfl; have hcz19_4 : w18.cell? ⟨gb124, 4, none⟩ = some (.int .i64 a0_4) := (blk_cell BK124.out 4).trans rfl; have hcz19_5 : w18.cell? ⟨gb124, 5, none⟩ = some (.int .i64 a0_5) := (blk_cell BK124.out 5).trans rfl; have hcz19_6 : w18.cell? ⟨gb124, 6, none⟩ = some (.int .i64 a0_6) := (blk_cell BK124.out 6).trans rfl; have hfz19_0 := blk_frozen BK124.out 0; have hfz19_1 := blk_frozen BK124.out 1; have hfz19_2 := blk_frozen BK124.out 2; have hfz19_3 := blk_frozen BK124.out 3; have hfz19_4 := blk_frozen BK124.out 4; have hfz19_5 := blk_frozen BK124.out 5; have hfz19_6 := blk_frozen BK124.out 6) | ((with_reducible refine gate_callee (f := 28) rfl ?_); refine goesL_ (some 5) rfl rfl Tryd.func28 (by kernel_rfl) rfl #[.int .i64 a0_1] rfl (by (try simp only [List.map_toArray, List.map_cons, List.map_nil]); first | done | rfl | (simp only [List.length_drop, List.length_take]; rfl)) ?_; (with_reducible refine (impl_inside.calls a0_1 true _ A2.out).mono ?_); rintro e w' ⟨rfl, ⟨nd, rfl⟩⟩; refine ⟨_, rfl, ?_⟩) | (go_at_call 28; (with_reducible refine (impl_inside.calls a0_2 true _ A4.out).mono ?_); rintro e w' ⟨rfl, ⟨nd, rfl⟩⟩) | (go_at_call 29; (with_reducible refine (impl_outside.calls a0_3 true _ A7.out).mono ?_); rintro e w' ⟨rfl, ⟨nd, rfl⟩⟩) | (go_at_call 29; (with_reducible refine (impl_outside.calls a0_4 true _ A9.out).mono ?_); rintro e w' ⟨rfl, ⟨nd, rfl⟩⟩) | (go_at_call 30; (with_reducible refine (impl_portOk.calls a0_5 true _ A12.out).mono ?_); rintro e w' ⟨rfl, ⟨nd, rfl⟩⟩) | (go_at_call 30; (with_reducible refine (impl_portOk.calls a0_6 false _ A14.out).mono ?_); rintro e w' ⟨rfl, ⟨nd, rfl⟩⟩))
                  go_ret
                  exact ⟨by first | rfl | (simp [errW_none, errW_some] <;> rfl) | (simp [*, errW_none, errW_some] <;> rfl), by repeat (first | (with_reducible first | exact HB.out | apply below_alloc | apply pw_below_drewN | apply below_drew1 | refine below_set ?_ GE124.out) | exact HB.out)⟩
              · replace c13 := Bool.eq_false_iff.mpr c13
                subst c13
                have H1 : (some false) = some r := by rw [if_neg (show ¬ (false = true) by decide)] at H; exact H
                clear H
                have H := H1
                clear H1
                obtain rfl := Option.some.inj H
                go_enter Tryd.func14, Tryd.ntmps14
                go_wp2_with (first | ((with_reducible refine gate_dst (N := 1) rfl ?_); refine box_event ?hg (N := 1) ?hd (cs := #[.bool a0_0, .int .i64 a0_1, .int .i64 a0_2, .int .i64 a0_3, .int .i64 a0_4, .int .i64 a0_5, .int .i64 a0_6]) (t := 25) ?hr ?_; (case hd => rfl); (case hg => rfl); (case hr => first | (go_simp; done) | (go_simp; rfl)); intro gb124 hg w20 hbox hb; have n0_ := Aside0.mk (below_step (bl HB) hb); have n1_ := Aside0.mk (hbox); have n2_ := Aside0.mk ((by rw [hg]; exact (below_size (bl HB)) : w.heap.size ≤ gb124)); have n3_ := Aside0.mk ((by rw [hg]; exact (below_size (bl HB)) : w.heap.size ≤ gb124)); clear HB; have HB := n0_; have BK124 := n1_; have GW124 := n2_; have GE124 := n3_; clear n0_ n1_ n2_ n3_; clear hb hbox hg; have hcz21_0 : w20.cell? ⟨gb124, 0, none⟩ = some (.bool a0_0) := (blk_cell BK124.out 0).trans rfl; have hcz21_1 : w20.cell? ⟨gb124, 1, none⟩ = some (.int .i64 a0_1) := (blk_cell BK124.out 1).trans rfl; have hcz21_2 : w20.cell? ⟨gb124, 2, none⟩ = some (.int .i64 a0_2) := (blk_cell BK124.out 2).trans rfl; have hcz21_3 : w20.cell? ⟨gb124, 3, none⟩ = some (.int .i64 a0_3) := (blk_cell BK124.out 3).trans rfl; have hcz21_4 : w20.cell? ⟨gb124, 4, none⟩ = some (.int .i64 a0_4) := (blk_cell BK124.out 4).trans rfl; have hcz21_5 : w20.cell? ⟨gb124, 5, none⟩ = some (.int .i64 a0_5) := (blk_cell BK124.out 5).trans rfl; have hcz21_6 : w20.cell? ⟨gb124, 6, none⟩ = some (.int .i64 a0_6) := (blk_cell BK124.out 6).trans rfl; have hfz21_0 := blk_frozen BK124.out 0; have hfz21_1 := blk_frozen BK124.out 1; have hfz21_2 := blk_frozen BK124.out 2; have hfz21_3 := blk_frozen BK124.out 3; have hfz21_4 := blk_frozen BK124.out 4; have hfz21_5 := blk_frozen BK124.out 5; have hfz21_6 := blk_frozen BK124.out 6) | ((with_reducible refine gate_callee (f := 28) rfl ?_); refine goesL_ (some 5) rfl rfl Tryd.func28 (by kernel_rfl) rfl #[.int .i64 a0_1] rfl (by (try simp only [List.map_toArray, List.map_cons, List.map_nil]); first | done | rfl | (simp only [List.length_drop, List.length_take]; rfl)) ?_; (with_reducible refine (impl_inside.calls a0_1 true _ A2.out).mono ?_); rintro e w' ⟨rfl, ⟨nd, rfl⟩⟩; refine ⟨_, rfl, ?_⟩) | (go_at_call 28; (with_reducible refine (impl_inside.calls a0_2 true _ A4.out).mono ?_); rintro e w' ⟨rfl, ⟨nd, rfl⟩⟩) | (go_at_call 29; (with_reducible refine (impl_outside.calls a0_3 true _ A7.out).mono ?_); rintro e w' ⟨rfl, ⟨nd, rfl⟩⟩) | (go_at_call 29; (with_reducible refine (impl_outside.calls a0_4 true _ A9.out).mono ?_); rintro e w' ⟨rfl, ⟨nd, rfl⟩⟩) | (go_at_call 30; (with_reducible refine (impl_portOk.calls a0_5 false _ A12.out).mono ?_); rintro e w' ⟨rfl, ⟨nd, rfl⟩⟩))
                go_ret
                exact ⟨by first | rfl | (simp [errW_none, errW_some] <;> rfl) | (simp [*, errW_none, errW_some] <;> rfl), by repeat (first | (with_reducible first | exact HB.out | apply below_alloc | apply pw_below_drewN | apply below_drew1 | refine below_set ?_ GE124.out) | exact HB.out)⟩
            · rw [if_neg c11] at H
              have c11b0 : decide (a0_3 ≤ a0_4) = false := decide_eq_false c11
              clear c11
              obtain rfl := Option.some.inj H
              go_enter Tryd.func14, Tryd.ntmps14
              go_wp2_with (first | ((with_reducible refine gate_dst (N := 1) rfl ?_); refine box_event ?hg (N := 1) ?hd (cs := #[.bool a0_0, .int .i64 a0_1, .int .i64 a0_2, .int .i64 a0_3, .int .i64 a0_4, .int .i64 a0_5, .int .i64 a0_6]) (t := 25) ?hr ?_; (case hd => rfl); (case hg => rfl); (case hr => first | (go_simp; done) | (go_simp; rfl)); intro gb124 hg w22 hbox hb; have n0_ := Aside0.mk (below_step (bl HB) hb); have n1_ := Aside0.mk (hbox); have n2_ := Aside0.mk ((by rw [hg]; exact (below_size (bl HB)) : w.heap.size ≤ gb124)); have n3_ := Aside0.mk ((by rw [hg]; exact (below_size (bl HB)) : w.heap.size ≤ gb124)); clear HB; have HB := n0_; have BK124 := n1_; have GW124 := n2_; have GE124 := n3_; clear n0_ n1_ n2_ n3_; clear hb hbox hg; have hcz23_0 : w22.cell? ⟨gb124, 0, none⟩ = some (.bool a0_0) := (blk_cell BK124.out 0).trans rfl; have hcz23_1 : w22.cell? ⟨gb124, 1, none⟩ = some (.int .i64 a0_1) := (blk_cell BK124.out 1).trans rfl; have hcz23_2 : w22.cell? ⟨gb124, 2, none⟩ = some (.int .i64 a0_2) := (blk_cell BK124.out 2).trans rfl; have hcz23_3 : w22.cell? ⟨gb124, 3, none⟩ = some (.int .i64 a0_3) := (blk_cell BK124.out 3).trans rfl; have hcz23_4 : w22.cell? ⟨gb124, 4, none⟩ = some (.int .i64 a0_4) := (blk_cell BK124.out 4).trans rfl; have hcz23_5 : w22.cell? ⟨gb124, 5, none⟩ = some (.int .i64 a0_5) := (blk_cell BK124.out 5).trans rfl; have hcz23_6 : w22.cell? ⟨gb124, 6, none⟩ = some (.int .i64 a0_6) := (blk_cell BK124.out 6).trans rfl; have hfz23_0 := blk_frozen BK124.out 0; have hfz23_1 := blk_frozen BK124.out 1; have hfz23_2 := blk_frozen BK124.out 2; have hfz23_3 := blk_frozen BK124.out 3; have hfz23_4 := blk_frozen BK124.out 4; have hfz23_5 := blk_frozen BK124.out 5; have hfz23_6 := blk_frozen BK124.out 6) | ((with_reducible refine gate_callee (f := 28) rfl ?_); refine goesL_ (some 5) rfl rfl Tryd.func28 (by kernel_rfl) rfl #[.int .i64 a0_1] rfl (by (try simp only [List.map_toArray, List.map_cons, List.map_nil]); first | done | rfl | (simp only [List.length_drop, List.length_take]; rfl)) ?_; (with_reducible refine (impl_inside.calls a0_1 true _ A2.out).mono ?_); rintro e w' ⟨rfl, ⟨nd, rfl⟩⟩; refine ⟨_, rfl, ?_⟩) | (go_at_call 28; (with_reducible refine (impl_inside.calls a0_2 true _ A4.out).mono ?_); rintro e w' ⟨rfl, ⟨nd, rfl⟩⟩) | (go_at_call 29; (with_reducible refine (impl_outside.calls a0_3 true _ A7.out).mono ?_); rintro e w' ⟨rfl, ⟨nd, rfl⟩⟩) | (go_at_call 29; (with_reducible refine (impl_outside.calls a0_4 true _ A9.out).mono ?_); rintro e w' ⟨rfl, ⟨nd, rfl⟩⟩))
              go_ret
              exact ⟨by first | rfl | (simp [errW_none, errW_some] <;> rfl) | (simp [*, errW_none, errW_some] <;> rfl), by repeat (first | (with_reducible first | exact HB.out | apply below_alloc | apply pw_below_drewN | apply below_drew1 | refine below_set ?_ GE124.out) | exact HB.out)⟩
          · replace c10 := Bool.eq_false_iff.mpr c10
            subst c10
            have H1 : (some false) = some r := by rw [if_neg (show ¬ (false = true) by decide)] at H; exact H
            clear H
            have H := H1
            clear H1
            obtain rfl := Option.some.inj H
            go_enter Tryd.func14, Tryd.ntmps14
            go_wp2_with (first | ((with_reducible refine gate_dst (N := 1) rfl ?_); refine box_event ?hg (N := 1) ?hd (cs := #[.bool a0_0, .int .i64 a0_1, .int .i64 a0_2, .int .i64 a0_3, .int .i64 a0_4, .int .i64 a0_5, .int .i64 a0_6]) (t := 25) ?hr ?_; (case hd => rfl); (case hg => rfl); (case hr => first | (go_simp; done) | (go_simp; rfl)); intro gb124 hg w24 hbox hb; have n0_ := Aside0.mk (below_step (bl HB) hb); have n1_ := Aside0.mk (hbox); have n2_ := Aside0.mk ((by rw [hg]; exact (below_size (bl HB)) : w.heap.size ≤ gb124)); have n3_ := Aside0.mk ((by rw [hg]; exact (below_size (bl HB)) : w.heap.size ≤ gb124)); clear HB; have HB := n0_; have BK124 := n1_; have GW124 := n2_; have GE124 := n3_; clear n0_ n1_ n2_ n3_; clear hb hbox hg; have hcz25_0 : w24.cell? ⟨gb124, 0, none⟩ = some (.bool a0_0) := (blk_cell BK124.out 0).trans rfl; have hcz25_1 : w24.cell? ⟨gb124, 1, none⟩ = some (.int .i64 a0_1) := (blk_cell BK124.out 1).trans rfl; have hcz25_2 : w24.cell? ⟨gb124, 2, none⟩ = some (.int .i64 a0_2) := (blk_cell BK124.out 2).trans rfl; have hcz25_3 : w24.cell? ⟨gb124, 3, none⟩ = some (.int .i64 a0_3) := (blk_cell BK124.out 3).trans rfl; have hcz25_4 : w24.cell? ⟨gb124, 4, none⟩ = some (.int .i64 a0_4) := (blk_cell BK124.out 4).trans rfl; have hcz25_5 : w24.cell? ⟨gb124, 5, none⟩ = some (.int .i64 a0_5) := (blk_cell BK124.out 5).trans rfl; have hcz25_6 : w24.cell? ⟨gb124, 6, none⟩ = some (.int .i64 a0_6) := (blk_cell BK124.out 6).trans rfl; have hfz25_0 := blk_frozen BK124.out 0; have hfz25_1 := blk_frozen BK124.out 1; have hfz25_2 := blk_frozen BK124.out 2; have hfz25_3 := blk_frozen BK124.out 3; have hfz25_4 := blk_frozen BK124.out 4; have hfz25_5 := blk_frozen BK124.out 5; have hfz25_6 := blk_frozen BK124.out 6) | ((with_reducible refine gate_callee (f := 28) rfl ?_); refine goesL_ (some 5) rfl rfl Tryd.func28 (by kernel_rfl) rfl #[.int .i64 a0_1] rfl (by (try simp only [List.map_toArray, List.map_cons, List.map_nil]); first | done | rfl | (simp only [List.length_drop, List.length_take]; rfl)) ?_; (with_reducible refine (impl_inside.calls a0_1 true _ A2.out).mono ?_); rintro e w' ⟨rfl, ⟨nd, rfl⟩⟩; refine ⟨_, rfl, ?_⟩) | (go_at_call 28; (with_reducible refine (impl_inside.calls a0_2 true _ A4.out).mono ?_); rintro e w' ⟨rfl, ⟨nd, rfl⟩⟩) | (go_at_call 29; (with_reducible refine (impl_outside.calls a0_3 true _ A7.out).mono ?_); rintro e w' ⟨rfl, ⟨nd, rfl⟩⟩) | (go_at_call 29; (with_reducible refine (impl_outside.calls a0_4 false _ A9.out).mono ?_); rintro e w' ⟨rfl, ⟨nd, rfl⟩⟩))
            go_ret
            exact ⟨by first | rfl | (simp [errW_none, errW_some] <;> rfl) | (simp [*, errW_none, errW_some] <;> rfl), by repeat (first | (with_reducible first | exact HB.out | apply below_alloc | apply pw_below_drewN | apply below_drew1 | refine below_set ?_ GE124.out) | exact HB.out)⟩
        · replace c8 := Bool.eq_false_iff.mpr c8
          subst c8
          have H1 : (some false) = some r := by rw [if_neg (show ¬ (false = true) by decide)] at H; exact H
          clear H
          have H := H1
          clear H1
          obtain rfl := Option.some.inj H
          go_enter Tryd.func14, Tryd.ntmps14
          go_wp2_with (first | ((with_reducible refine gate_dst (N := 1) rfl ?_); refine box_event ?hg (N := 1) ?hd (cs := #[.bool a0_0, .int .i64 a0_1, .int .i64 a0_2, .int .i64 a0_3, .int .i64 a0_4, .int .i64 a0_5, .int .i64 a0_6]) (t := 25) ?hr ?_; (case hd => rfl); (case hg => rfl); (case hr => first | (go_simp; done) | (go_simp; rfl)); intro gb124 hg w26 hbox hb; have n0_ := Aside0.mk (below_step (bl HB) hb); have n1_ := Aside0.mk (hbox); have n2_ := Aside0.mk ((by rw [hg]; exact (below_size (bl HB)) : w.heap.size ≤ gb124)); have n3_ := Aside0.mk ((by rw [hg]; exact (below_size (bl HB)) : w.heap.size ≤ gb124)); clear HB; have HB := n0_; have BK124 := n1_; have GW124 := n2_; have GE124 := n3_; clear n0_ n1_ n2_ n3_; clear hb hbox hg; have hcz27_0 : w26.cell? ⟨gb124, 0, none⟩ = some (.bool a0_0) := (blk_cell BK124.out 0).trans rfl; have hcz27_1 : w26.cell? ⟨gb124, 1, none⟩ = some (.int .i64 a0_1) := (blk_cell BK124.out 1).trans rfl; have hcz27_2 : w26.cell? ⟨gb124, 2, none⟩ = some (.int .i64 a0_2) := (blk_cell BK124.out 2).trans rfl; have hcz27_3 : w26.cell? ⟨gb124, 3, none⟩ = some (.int .i64 a0_3) := (blk_cell BK124.out 3).trans rfl; have hcz27_4 : w26.cell? ⟨gb124, 4, none⟩ = some (.int .i64 a0_4) := (blk_cell BK124.out 4).trans rfl; have hcz27_5 : w26.cell? ⟨gb124, 5, none⟩ = some (.int .i64 a0_5) := (blk_cell BK124.out 5).trans rfl; have hcz27_6 : w26.cell? ⟨gb124, 6, none⟩ = some (.int .i64 a0_6) := (blk_cell BK124.out 6).trans rfl; have hfz27_0 := blk_frozen BK124.out 0; have hfz27_1 := blk_frozen BK124.out 1; have hfz27_2 := blk_frozen BK124.out 2; have hfz27_3 := blk_frozen BK124.out 3; have hfz27_4 := blk_frozen BK124.out 4; have hfz27_5 := blk_frozen BK124.out 5; have hfz27_6 := blk_frozen BK124.out 6) | ((with_reducible refine gate_callee (f := 28) rfl ?_); refine goesL_ (some 5) rfl rfl Tryd.func28 (by kernel_rfl) rfl #[.int .i64 a0_1] rfl (by (try simp only [List.map_toArray, List.map_cons, List.map_nil]); first | done | rfl | (simp only [List.length_drop, List.length_take]; rfl)) ?_; (with_reducible refine (impl_inside.calls a0_1 true _ A2.out).mono ?_); rintro e w' ⟨rfl, ⟨nd, rfl⟩⟩; refine ⟨_, rfl, ?_⟩) | (go_at_call 28; (with_reducible refine (impl_inside.calls a0_2 true _ A4.out).mono ?_); rintro e w' ⟨rfl, ⟨nd, rfl⟩⟩) | (go_at_call 29; (with_reducible refine (impl_outside.calls a0_3 false _ A7.out).mono ?_); rintro e w' ⟨rfl, ⟨nd, rfl⟩⟩))
          go_ret
          exact ⟨by first | rfl | (simp [errW_none, errW_some] <;> rfl) | (simp [*, errW_none, errW_some] <;> rfl), by repeat (first | (with_reducible first | exact HB.out | apply below_alloc | apply pw_below_drewN | apply below_drew1 | refine below_set ?_ GE124.out) | exact HB.out)⟩
      · rw [if_neg c6] at H
        have c6b0 : decide (a0_1 ≤ a0_2) = false := decide_eq_false c6
        clear c6
        obtain rfl := Option.some.inj H
        go_enter Tryd.func14, Tryd.ntmps14
        go_wp2_with (first | ((with_reducible refine gate_dst (N := 1) rfl ?_); refine box_event ?hg (N := 1) ?hd (cs := #[.bool a0_0, .int .i64 a0_1, .int .i64 a0_2, .int .i64 a0_3, .int .i64 a0_4, .int .i64 a0_5, .int .i64 a0_6]) (t := 25) ?hr ?_; (case hd => rfl); (case hg => rfl); (case hr => first | (go_simp; done) | (go_simp; rfl)); intro gb124 hg w28 hbox hb; have n0_ := Aside0.mk (below_step (bl HB) hb); have n1_ := Aside0.mk (hbox); have n2_ := Aside0.mk ((by rw [hg]; exact (below_size (bl HB)) : w.heap.size ≤ gb124)); have n3_ := Aside0.mk ((by rw [hg]; exact (below_size (bl HB)) : w.heap.size ≤ gb124)); clear HB; have HB := n0_; have BK124 := n1_; have GW124 := n2_; have GE124 := n3_; clear n0_ n1_ n2_ n3_; clear hb hbox hg; have hcz29_0 : w28.cell? ⟨gb124, 0, none⟩ = some (.bool a0_0) := (blk_cell BK124.out 0).trans rfl; have hcz29_1 : w28.cell? ⟨gb124, 1, none⟩ = some (.int .i64 a0_1) := (blk_cell BK124.out 1).trans rfl; have hcz29_2 : w28.cell? ⟨gb124, 2, none⟩ = some (.int .i64 a0_2) := (blk_cell BK124.out 2).trans rfl; have hcz29_3 : w28.cell? ⟨gb124, 3, none⟩ = some (.int .i64 a0_3) := (blk_cell BK124.out 3).trans rfl; have hcz29_4 : w28.cell? ⟨gb124, 4, none⟩ = some (.int .i64 a0_4) := (blk_cell BK124.out 4).trans rfl; have hcz29_5 : w28.cell? ⟨gb124, 5, none⟩ = some (.int .i64 a0_5) := (blk_cell BK124.out 5).trans rfl; have hcz29_6 : w28.cell? ⟨gb124, 6, none⟩ = some (.int .i64 a0_6) := (blk_cell BK124.out 6).trans rfl; have hfz29_0 := blk_frozen BK124.out 0; have hfz29_1 := blk_frozen BK124.out 1; have hfz29_2 := blk_frozen BK124.out 2; have hfz29_3 := blk_frozen BK124.out 3; have hfz29_4 := blk_frozen BK124.out 4; have hfz29_5 := blk_frozen BK124.out 5; have hfz29_6 := blk_frozen BK124.out 6) | ((with_reducible refine gate_callee (f := 28) rfl ?_); refine goesL_ (some 5) rfl rfl Tryd.func28 (by kernel_rfl) rfl #[.int .i64 a0_1] rfl (by (try simp only [List.map_toArray, List.map_cons, List.map_nil]); first | done | rfl | (simp only [List.length_drop, List.length_take]; rfl)) ?_; (with_reducible refine (impl_inside.calls a0_1 true _ A2.out).mono ?_); rintro e w' ⟨rfl, ⟨nd, rfl⟩⟩; refine ⟨_, rfl, ?_⟩) | (go_at_call 28; (with_reducible refine (impl_inside.calls a0_2 true _ A4.out).mono ?_); rintro e w' ⟨rfl, ⟨nd, rfl⟩⟩))
        go_ret
        exact ⟨by first | rfl | (simp [errW_none, errW_some] <;> rfl) | (simp [*, errW_none, errW_some] <;> rfl), by repeat (first | (with_reducible first | exact HB.out | apply below_alloc | apply pw_below_drewN | apply below_drew1 | refine below_set ?_ GE124.out) | exact HB.out)⟩
    · replace c5 := Bool.eq_false_iff.mpr c5
      subst c5
      have H1 : (some false) = some r := by rw [if_neg (show ¬ (false = true) by decide)] at H; exact H
      clear H
      have H := H1
      clear H1
      obtain rfl := Option.some.inj H
      go_enter Tryd.func14, Tryd.ntmps14
      go_wp2_with (first | ((with_reducible refine gate_dst (N := 1) rfl ?_); refine box_event ?hg (N := 1) ?hd (cs := #[.bool a0_0, .int .i64 a0_1, .int .i64 a0_2, .int .i64 a0_3, .int .i64 a0_4, .int .i64 a0_5, .int .i64 a0_6]) (t := 25) ?hr ?_; (case hd => rfl); (case hg => rfl); (case hr => first | (go_simp; done) | (go_simp; rfl)); intro gb124 hg w30 hbox hb; have n0_ := Aside0.mk (below_step (bl HB) hb); have n1_ := Aside0.mk (hbox); have n2_ := Aside0.mk ((by rw [hg]; exact (below_size (bl HB)) : w.heap.size ≤ gb124)); have n3_ := Aside0.mk ((by rw [hg]; exact (below_size (bl HB)) : w.heap.size ≤ gb124)); clear HB; have HB := n0_; have BK124 := n1_; have GW124 := n2_; have GE124 := n3_; clear n0_ n1_ n2_ n3_; clear hb hbox hg; have hcz31_0 : w30.cell? ⟨gb124, 0, none⟩ = some (.bool a0_0) := (blk_cell BK124.out 0).trans rfl; have hcz31_1 : w30.cell? ⟨gb124, 1, none⟩ = some (.int .i64 a0_1) := (blk_cell BK124.out 1).trans rfl; have hcz31_2 : w30.cell? ⟨gb124, 2, none⟩ = some (.int .i64 a0_2) := (blk_cell BK124.out 2).trans rfl; have hcz31_3 : w30.cell? ⟨gb124, 3, none⟩ = some (.int .i64 a0_3) := (blk_cell BK124.out 3).trans rfl; have hcz31_4 : w30.cell? ⟨gb124, 4, none⟩ = some (.int .i64 a0_4) := (blk_cell BK124.out 4).trans rfl; have hcz31_5 : w30.cell? ⟨gb124, 5, none⟩ = some (.int .i64 a0_5) := (blk_cell BK124.out 5).trans rfl; have hcz31_6 : w30.cell? ⟨gb124, 6, none⟩ = some (.int .i64 a0_6) := (blk_cell BK124.out 6).trans rfl; have hfz31_0 := blk_frozen BK124.out 0; have hfz31_1 := blk_frozen BK124.out 1; have hfz31_2 := blk_frozen BK124.out 2; have hfz31_3 := blk_frozen BK124.out 3; have hfz31_4 := blk_frozen BK124.out 4; have hfz31_5 := blk_frozen BK124.out 5; have hfz31_6 := blk_frozen BK124.out 6) | ((with_reducible refine gate_callee (f := 28) rfl ?_); refine goesL_ (some 5) rfl rfl Tryd.func28 (by kernel_rfl) rfl #[.int .i64 a0_1] rfl (by (try simp only [List.map_toArray, List.map_cons, List.map_nil]); first | done | rfl | (simp only [List.length_drop, List.length_take]; rfl)) ?_; (with_reducible refine (impl_inside.calls a0_1 true _ A2.out).mono ?_); rintro e w' ⟨rfl, ⟨nd, rfl⟩⟩; refine ⟨_, rfl, ?_⟩) | (go_at_call 28; (with_reducible refine (impl_inside.calls a0_2 false _ A4.out).mono ?_); rintro e w' ⟨rfl, ⟨nd, rfl⟩⟩))
      go_ret
      exact ⟨by first | rfl | (simp [errW_none, errW_some] <;> rfl) | (simp [*, errW_none, errW_some] <;> rfl), by repeat (first | (with_reducible first | exact HB.out | apply below_alloc | apply pw_below_drewN | apply below_drew1 | refine below_set ?_ GE124.out) | exact HB.out)⟩
  · replace c3 := Bool.eq_false_iff.mpr c3
    subst c3
    have H1 : (some false) = some r := by rw [if_neg (show ¬ (false = true) by decide)] at H; exact H
    clear H
    have H := H1
    clear H1
    obtain rfl := Option.some.inj H
    go_enter Tryd.func14, Tryd.ntmps14
    go_wp2_with (first | ((with_reducible refine gate_dst (N := 1) rfl ?_); refine box_event ?hg (N := 1) ?hd (cs := #[.bool a0_0, .int .i64 a0_1, .int .i64 a0_2, .int .i64 a0_3, .int .i64 a0_4, .int .i64 a0_5, .int .i64 a0_6]) (t := 25) ?hr ?_; (case hd => rfl); (case hg => rfl); (case hr => first | (go_simp; done) | (go_simp; rfl)); intro gb124 hg w32 hbox hb; have n0_ := Aside0.mk (below_step (bl HB) hb); have n1_ := Aside0.mk (hbox); have n2_ := Aside0.mk ((by rw [hg]; exact (below_size (bl HB)) : w.heap.size ≤ gb124)); have n3_ := Aside0.mk ((by rw [hg]; exact (below_size (bl HB)) : w.heap.size ≤ gb124)); clear HB; have HB := n0_; have BK124 := n1_; have GW124 := n2_; have GE124 := n3_; clear n0_ n1_ n2_ n3_; clear hb hbox hg; have hcz33_0 : w32.cell? ⟨gb124, 0, none⟩ = some (.bool a0_0) := (blk_cell BK124.out 0).trans rfl; have hcz33_1 : w32.cell? ⟨gb124, 1, none⟩ = some (.int .i64 a0_1) := (blk_cell BK124.out 1).trans rfl; have hcz33_2 : w32.cell? ⟨gb124, 2, none⟩ = some (.int .i64 a0_2) := (blk_cell BK124.out 2).trans rfl; have hcz33_3 : w32.cell? ⟨gb124, 3, none⟩ = some (.int .i64 a0_3) := (blk_cell BK124.out 3).trans rfl; have hcz33_4 : w32.cell? ⟨gb124, 4, none⟩ = some (.int .i64 a0_4) := (blk_cell BK124.out 4).trans rfl; have hcz33_5 : w32.cell? ⟨gb124, 5, none⟩ = some (.int .i64 a0_5) := (blk_cell BK124.out 5).trans rfl; have hcz33_6 : w32.cell? ⟨gb124, 6, none⟩ = some (.int .i64 a0_6) := (blk_cell BK124.out 6).trans rfl; have hfz33_0 := blk_frozen BK124.out 0; have hfz33_1 := blk_frozen BK124.out 1; have hfz33_2 := blk_frozen BK124.out 2; have hfz33_3 := blk_frozen BK124.out 3; have hfz33_4 := blk_frozen BK124.out 4; have hfz33_5 := blk_frozen BK124.out 5; have hfz33_6 := blk_frozen BK124.out 6) | ((with_reducible refine gate_callee (f := 28) rfl ?_); refine goesL_ (some 5) rfl rfl Tryd.func28 (by kernel_rfl) rfl #[.int .i64 a0_1] rfl (by (try simp only [List.map_toArray, List.map_cons, List.map_nil]); first | done | rfl | (simp only [List.length_drop, List.length_take]; rfl)) ?_; (with_reducible refine (impl_inside.calls a0_1 false _ A2.out).mono ?_); rintro e w' ⟨rfl, ⟨nd, rfl⟩⟩; refine ⟨_, rfl, ?_⟩))
    go_ret
    exact ⟨by first | rfl | (simp [errW_none, errW_some] <;> rfl) | (simp [*, errW_none, errW_some] <;> rfl), by repeat (first | (with_reducible first | exact HB.out | apply below_alloc | apply pw_below_drewN | apply below_drew1 | refine below_set ?_ GE124.out) | exact HB.out)⟩

end Go.Proofs.YtiocgkggegahhaaDoor.P

/- What rules are, in plain words; what the printed functions on them answer. (For a seat that holds no EndInside.) -/
namespace Go.Proofs.YtiocgkggegahhaaDoor.P
open Go.RowKit Go.Proofs.YtiocgkggegahhaaDoorUFnExactRulText.PrintWords Go.Proofs.YtiocgkggegahhaaDoorUFnExactRulText.PrintLast Go.Proofs.YtiocgkggegahhaaDoorUFnExactRulText.PrintMore
set_option linter.unusedVariables false
set_option linter.unusedSimpArgs false
def inB (n lo hi : Int) : Bool := decide (lo ≤ n) && decide (n ≤ hi)
theorem within_f (n lo hi : Int) : impl_within.f n lo hi = some (inB n lo hi) := by
  unfold impl_within.f inB
  by_cases h : lo ≤ n <;> simp [h]
theorem inside_f (n : Int) : impl_inside.f n = some (inB n 1 9) := by unfold impl_inside.f; rw [within_f]; rfl
theorem outside_f (n : Int) : impl_outside.f n = some (inB n 100 109) := by unfold impl_outside.f; rw [within_f]; rfl
theorem portOk_f (n : Int) : impl_portOk.f n = some (inB n 1 999) := by unfold impl_portOk.f; rw [within_f]; rfl
/-- Is a rule ok? -/
def ruleOk7 (f1 f2 f3 f4 f5 f6 : Int) : Bool := inB f1 1 9 && inB f2 1 9 && decide (f1 ≤ f2) && inB f3 100 109 && inB f4 100 109 && decide (f3 ≤ f4) && inB f5 1 999 && inB f6 1 999 && decide (f5 ≤ f6)
theorem RulOk7_f (f0 : Bool) (f1 f2 f3 f4 f5 f6 : Int) : impl_RulOk.f f0 f1 f2 f3 f4 f5 f6 = some (ruleOk7 f1 f2 f3 f4 f5 f6) := by
  unfold impl_RulOk.f ruleOk7
  simp only [inside_f, outside_f, portOk_f, Option.bind_some]
  cases inB f1 1 9 <;> cases inB f2 1 9 <;> cases inB f3 100 109 <;> cases inB f4 100 109 <;> cases inB f5 1 999 <;> cases inB f6 1 999 <;> by_cases h1 : f1 ≤ f2 <;> by_cases h2 : f3 ≤ f4 <;> simp [h1, h2]
theorem inB_le {n lo hi : Int} (h : inB n lo hi = true) : lo ≤ n ∧ n ≤ hi := by simpa [inB] using h
theorem ruleOk7_le {f1 f2 f3 f4 f5 f6 : Int} (h : ruleOk7 f1 f2 f3 f4 f5 f6 = true) : (1 ≤ f1 ∧ f1 ≤ 9) ∧ (1 ≤ f2 ∧ f2 ≤ 9) ∧ f1 ≤ f2 ∧ (100 ≤ f3 ∧ f3 ≤ 109) ∧ (100 ≤ f4 ∧ f4 ≤ 109) ∧ f3 ≤ f4 ∧ (1 ≤ f5 ∧ f5 ≤ 999) ∧ (1 ≤ f6 ∧ f6 ≤ 999) ∧ f5 ≤ f6 := by
  simp only [ruleOk7, inB, Bool.and_eq_true, decide_eq_true_eq] at h
  omega
end Go.Proofs.YtiocgkggegahhaaDoor.P

/- The contract of impl.RulText: a rule's text. -/
namespace Go.Proofs.YtiocgkggegahhaaDoor.P
open Go.RowKit Go.Proofs.YtiocgkggegahhaaDoorUFnExactRulText.PrintWords Go.Proofs.YtiocgkggegahhaaDoorUFnExactRulText.PrintLast Go.Proofs.YtiocgkggegahhaaDoorUFnExactRulText.PrintMore
set_option linter.unusedVariables false
set_option linter.unusedSimpArgs false

def ptrs6 (g : Nat) : Array Value := #[.pointer (some ⟨g, 1, none⟩), .pointer (some ⟨g, 2, none⟩), .pointer (some ⟨g, 3, none⟩), .pointer (some ⟨g, 4, none⟩), .pointer (some ⟨g, 5, none⟩), .pointer (some ⟨g, 6, none⟩)]
set_option maxRecDepth 100000 in
theorem bounds_calls (g : Nat) (w : World) :
    Calls Tryd.prog 18 #[.pointer (some ⟨g, 0, none⟩)] w fun e w' => ∃ N, e = .returned (.slice (some ⟨N, 0, none⟩) 6 6) ∧ w.heap.size ≤ N ∧ w'.heap[N]? = some (.cells (ptrs6 g) 42 (0, 0)) ∧ Below w.heap.size w w' := by
  have hu := Tryd.underlying25
  go_enter Tryd.func18, Tryd.ntmps18
  go_wp2
  go_region
  go_wp2
  go_ret
  exact ⟨w.heap.size, rfl, Nat.le_refl _, by simp only [World.alloc, World.drew, ptrs6, Array.getElem?_push_size], below_drew1 (below_alloc (Below.refl _ _) _)⟩

/-- A number, a blank ahead of it. -/
def numB (n : Int) : ByteArray := ⟨(Lib.itoa n).toArray⟩
def textB (pre : ByteArray) (l : List Int) : ByteArray := l.foldl (fun s n => s ++ ((⟨#[32]⟩ : ByteArray) ++ numB n)) pre
def allowB (b : Bool) : ByteArray := if b then ⟨#[97, 108, 108, 111, 119]⟩ else ⟨#[100, 101, 110, 121]⟩
def impl_RulText.f (f0 : Bool) (f1 f2 f3 f4 f5 f6 : Int) : Option ByteArray :=
  some (if ruleOk7 f1 f2 f3 f4 f5 f6 then textB (allowB f0) [f1, f2, f3, f4, f5, f6] else ⟨#[]⟩)
theorem numB_size {n : Int} (h0 : 0 ≤ n) (h1 : n ≤ 999) : (numB n).size ≤ 3 := by
  obtain ⟨k, rfl⟩ : ∃ k : Nat, n = k := ⟨n.toNat, by omega⟩
  have hk : k < 1000 := by omega
  have h3 : Lib.nDigits k ≤ 3 := by
    by_cases a : k < 10
    · rw [Lib.nDigits_small a]; omega
    · rw [Lib.nDigits_big a]
      by_cases b : k / 10 < 10
      · rw [Lib.nDigits_small b]; omega
      · rw [Lib.nDigits_big b, Lib.nDigits_small (by omega)]; omega
  have : (Lib.itoa (k : Int)).length ≤ 3 := by
    unfold Lib.itoa
    rw [if_neg (by omega), Lib.decDigits_length]
    simpa using h3
  simpa [numB, ByteArray.size] using this
theorem num_calls (n : Int) (h0 : 0 ≤ n) (h1 : n ≤ 999) (w : World) (hE : EnvT w) :
    Calls Tryd.prog 19 #[.int .i64 n] w fun e w' => ∃ b : ByteArray, e = .returned (.string b) ∧ b = numB n ∧ b.size ≤ 3 ∧ Below w.heap.size w w' := by
  refine (itoa_calls n h0 (by omega) w hE).mono ?_
  rintro e w' ⟨rfl, hb⟩
  exact ⟨_, rfl, rfl, numB_size h0 h1, hb⟩
theorem textB_succ (pre : ByteArray) (l : List Int) (n : Int) : textB pre (l ++ [n]) = textB pre l ++ ((⟨#[32]⟩ : ByteArray) ++ numB n) := by simp [textB]
set_option maxHeartbeats 8000000 in
set_option maxRecDepth 100000 in
theorem impl_RulText.calls (a0_0 : Bool) (a0_1 : Int) (a0_2 : Int) (a0_3 : Int) (a0_4 : Int) (a0_5 : Int) (a0_6 : Int) (r : ByteArray) (w : World) (h : impl_RulText.f a0_0 a0_1 a0_2 a0_3 a0_4 a0_5 a0_6 = some r) (hE : EnvT w) :
    Calls Tryd.prog 8 #[.agg #[.bool a0_0, .int .i64 a0_1, .int .i64 a0_2, .int .i64 a0_3, .int .i64 a0_4, .int .i64 a0_5, .int .i64 a0_6]] w fun e w' => e = .returned (.string r) ∧ Below w.heap.size w w' := by
  have HH := Aside0.mk (Option.some.inj h)
  have HE := Aside0.mk hE
  have HF := Aside0.mk (RulOk7_f a0_0 a0_1 a0_2 a0_3 a0_4 a0_5 a0_6)
  clear h hE
  have HB := Aside0.mk (Below.refl w.heap.size w)
  have hu := Tryd.underlying25
  cases hk : ruleOk7 a0_1 a0_2 a0_3 a0_4 a0_5 a0_6 with
  | false =>
    have HK := Aside0.mk hk
    clear hk
    go_enter Tryd.func8, Tryd.ntmps8
    go_wp2_with (first
      | ((with_reducible refine gate_dst (N := 1) rfl ?_)
         refine box_event ?hg (N := 1) ?hd (cs := #[.bool a0_0, .int .i64 a0_1, .int .i64 a0_2, .int .i64 a0_3, .int .i64 a0_4, .int .i64 a0_5, .int .i64 a0_6]) (t := 25) ?hr ?_
         (case hd => rfl)
         (case hg => rfl)
         (case hr => first | (go_simp; done) | (go_simp; rfl))
         intro gb hg w1 hbox hb
         have n0_ := Aside0.mk (below_step (bl HB) hb)
         have n1_ := Aside0.mk hbox
         clear HB hb hbox hg
         have HB := n0_
         have BK := n1_
         clear n0_ n1_
         have hc0 := (blk_cell BK.out 0).trans rfl
         have hc1 := (blk_cell BK.out 1).trans rfl
         have hc2 := (blk_cell BK.out 2).trans rfl
         have hc3 := (blk_cell BK.out 3).trans rfl
         have hc4 := (blk_cell BK.out 4).trans rfl
         have hc5 := (blk_cell BK.out 5).trans rfl
         have hc6 := (blk_cell BK.out 6).trans rfl)
      | (go_at_call 14; refine (impl_RulOk.calls _ _ _ _ _ _ _ _ _ HF.out).mono ?_; rw [HK.out]; rintro e w2 ⟨rfl, hb⟩
         have n0_ := Aside0.mk (below_step (bl HB) hb)
         clear HB hb
         have HB := n0_
         clear n0_))
    go_ret
    exact ⟨by rw [← HH.out, HK.out]; rfl, bl HB⟩
  | true =>
    have HL := Aside0.mk (ruleOk7_le hk)
    have HK := Aside0.mk hk
    clear hk
    cases a0_0 with
    | false =>
      go_enter Tryd.func8, Tryd.ntmps8
      go_wp2_with (first
        | ((with_reducible refine gate_dst (N := 1) rfl ?_)
           refine box_event ?hg (N := 1) ?hd (cs := #[.bool false, .int .i64 a0_1, .int .i64 a0_2, .int .i64 a0_3, .int .i64 a0_4, .int .i64 a0_5, .int .i64 a0_6]) (t := 25) ?hr ?_
           (case hd => rfl)
           (case hg => rfl)
           (case hr => first | (go_simp; done) | (go_simp; rfl))
           intro gb hg w1 hbox hb
           have n0_ := Aside0.mk (below_step (bl HB) hb)
           have n1_ := Aside0.mk hbox
           clear HB hb hbox hg
           have HB := n0_
           have BK := n1_
           clear n0_ n1_
           have hc0 := (blk_cell BK.out 0).trans rfl
           have hc1 := (blk_cell BK.out 1).trans rfl
           have hc2 := (blk_cell BK.out 2).trans rfl
           have hc3 := (blk_cell BK.out 3).trans rfl
           have hc4 := (blk_cell BK.out 4).trans rfl
           have hc5 := (blk_cell BK.out 5).trans rfl
           have hc6 := (blk_cell BK.out 6).trans rfl)
        | (go_at_call 14; refine (impl_RulOk.calls _ _ _ _ _ _ _ _ _ HF.out).mono ?_; rw [HK.out]; rintro e w2 ⟨rfl, hb⟩
           have n0_ := Aside0.mk (below_step (bl HB) hb)
           have n1_ := bkB BK hb
           clear HB hb BK
           have HB := n0_
           have BK := n1_
           clear n0_ n1_
           have hc0 := (blk_cell BK.out 0).trans rfl)
        | (go_at_call 18; refine (bounds_calls _ _).mono ?_; rintro e w3 ⟨N, rfl, hN, hbk, hb⟩
           have n0_ := Aside0.mk (below_step (bl HB) hb)
           have n1_ := bkB BK hb
           have PT := Aside0.mk hbk
           clear HB hb BK hbk hN
           have HB := n0_
           have BK := n1_
           clear n0_ n1_))
      go_loopw [3, 13] (fun s i wr => ∃ (k : Nat) (b : ByteArray), k ≤ 6 ∧ i = .int .i64 k ∧ s = .string b ∧ Aside0 (b = textB (allowB false) (([a0_1, a0_2, a0_3, a0_4, a0_5, a0_6] : List Int).take k)) ∧ Aside0 (b.size ≤ 10 + 10 * k) ∧ Aside0 (Below w.heap.size w wr) ∧ Aside0 (wr.heap[gb]? = some (.cells #[.bool false, .int .i64 a0_1, .int .i64 a0_2, .int .i64 a0_3, .int .i64 a0_4, .int .i64 a0_5, .int .i64 a0_6] 25 (0, 0))) ∧ Aside0 (wr.heap[N]? = some (.cells (ptrs6 gb) 42 (0, 0)))) (fun _ i _ => 6 - (intOf i).toNat)
      case atStart => exact ⟨0, _, Nat.zero_le _, rfl, rfl, ⟨rfl⟩, ⟨by decide⟩, ⟨bl HB⟩, ⟨bk BK⟩, ⟨bk PT⟩⟩
      case round =>
        clear HB BK PT
        obtain ⟨k, b, hk, rfl, rfl, hs, hsz, HB, BK, PT⟩ := hrel
        have hk7 : k = 0 ∨ k = 1 ∨ k = 2 ∨ k = 3 ∨ k = 4 ∨ k = 5 ∨ k = 6 := by omega
        clear hk
        rcases hk7 with rfl | rfl | rfl | rfl | rfl | rfl | rfl
        · have hcp : wr.cell? ⟨N, 0, none⟩ = some (.pointer (some ⟨gb, 1, none⟩)) := (blk_cell PT.out 0).trans rfl
          have hcn : wr.cell? ⟨gb, 1, none⟩ = some (.int .i64 a0_1) := (blk_cell BK.out 1).trans rfl
          go_wp2_with (go_at_call 19; refine (num_calls _ (by have := HL.out; omega) (by have := HL.out; omega) _ (EnvT.below HE.out (bl HB))).mono ?_; rintro e w4 ⟨bn, rfl, hbn, hbs, hb⟩
                       have HN := Aside0.mk hbn
                       have HS := Aside0.mk hbs
                       have hq1 : (9223372036854775807 < 1 + bn.size) = False := eq_false (by omega)
                       have hq2 : (9223372036854775807 < b.size + (1 + bn.size)) = False := eq_false (by have := hsz.out; omega)
                       have n0_ := Aside0.mk (below_step (bl HB) hb)
                       have n1_ := bkB BK hb
                       have n2_ := bkB PT hb
                       clear HB hb BK PT hbn hbs
                       have HB := n0_
                       have BK := n1_
                       have PT := n2_
                       clear n0_ n1_ n2_)
          go_roundw
          case rel => exact ⟨1, _, by omega, by go_num, rfl, ⟨by rw [hs.out, HN.out]; rfl⟩, ⟨by have h1 := hsz.out; have h2 := HS.out; have h3 : ((⟨#[32]⟩ : ByteArray)).size = 1 := rfl; simp only [ByteArray.size_append]; omega⟩, ⟨bl HB⟩, ⟨bk BK⟩, ⟨bk PT⟩⟩
          case measure => simp [intOf]
        · have hcp : wr.cell? ⟨N, 1, none⟩ = some (.pointer (some ⟨gb, 2, none⟩)) := (blk_cell PT.out 1).trans rfl
          have hcn : wr.cell? ⟨gb, 2, none⟩ = some (.int .i64 a0_2) := (blk_cell BK.out 2).trans rfl
          go_wp2_with (go_at_call 19; refine (num_calls _ (by have := HL.out; omega) (by have := HL.out; omega) _ (EnvT.below HE.out (bl HB))).mono ?_; rintro e w4 ⟨bn, rfl, hbn, hbs, hb⟩
                       have HN := Aside0.mk hbn
                       have HS := Aside0.mk hbs
                       have hq1 : (9223372036854775807 < 1 + bn.size) = False := eq_false (by omega)
                       have hq2 : (9223372036854775807 < b.size + (1 + bn.size)) = False := eq_false (by have := hsz.out; omega)
                       have n0_ := Aside0.mk (below_step (bl HB) hb)
                       have n1_ := bkB BK hb
                       have n2_ := bkB PT hb
                       clear HB hb BK PT hbn hbs
                       have HB := n0_
                       have BK := n1_
                       have PT := n2_
                       clear n0_ n1_ n2_)
          go_roundw
          case rel => exact ⟨2, _, by omega, by go_num, rfl, ⟨by rw [hs.out, HN.out]; rfl⟩, ⟨by have h1 := hsz.out; have h2 := HS.out; have h3 : ((⟨#[32]⟩ : ByteArray)).size = 1 := rfl; simp only [ByteArray.size_append]; omega⟩, ⟨bl HB⟩, ⟨bk BK⟩, ⟨bk PT⟩⟩
          case measure => simp [intOf]
        · have hcp : wr.cell? ⟨N, 2, none⟩ = some (.pointer (some ⟨gb, 3, none⟩)) := (blk_cell PT.out 2).trans rfl
          have hcn : wr.cell? ⟨gb, 3, none⟩ = some (.int .i64 a0_3) := (blk_cell BK.out 3).trans rfl
          go_wp2_with (go_at_call 19; refine (num_calls _ (by have := HL.out; omega) (by have := HL.out; omega) _ (EnvT.below HE.out (bl HB))).mono ?_; rintro e w4 ⟨bn, rfl, hbn, hbs, hb⟩
                       have HN := Aside0.mk hbn
                       have HS := Aside0.mk hbs
                       have hq1 : (9223372036854775807 < 1 + bn.size) = False := eq_false (by omega)
                       have hq2 : (9223372036854775807 < b.size + (1 + bn.size)) = False := eq_false (by have := hsz.out; omega)
                       have n0_ := Aside0.mk (below_step (bl HB) hb)
                       have n1_ := bkB BK hb
                       have n2_ := bkB PT hb
                       clear HB hb BK PT hbn hbs
                       have HB := n0_
                       have BK := n1_
                       have PT := n2_
                       clear n0_ n1_ n2_)
          go_roundw
          case rel => exact ⟨3, _, by omega, by go_num, rfl, ⟨by rw [hs.out, HN.out]; rfl⟩, ⟨by have h1 := hsz.out; have h2 := HS.out; have h3 : ((⟨#[32]⟩ : ByteArray)).size = 1 := rfl; simp only [ByteArray.size_append]; omega⟩, ⟨bl HB⟩, ⟨bk BK⟩, ⟨bk PT⟩⟩
          case measure => simp [intOf]
        · have hcp : wr.cell? ⟨N, 3, none⟩ = some (.pointer (some ⟨gb, 4, none⟩)) := (blk_cell PT.out 3).trans rfl
          have hcn : wr.cell? ⟨gb, 4, none⟩ = some (.int .i64 a0_4) := (blk_cell BK.out 4).trans rfl
          go_wp2_with (go_at_call 19; refine (num_calls _ (by have := HL.out; omega) (by have := HL.out; omega) _ (EnvT.below HE.out (bl HB))).mono ?_; rintro e w4 ⟨bn, rfl, hbn, hbs, hb⟩
                       have HN := Aside0.mk hbn
                       have HS := Aside0.mk hbs
                       have hq1 : (9223372036854775807 < 1 + bn.size) = False := eq_false (by omega)
                       have hq2 : (9223372036854775807 < b.size + (1 + bn.size)) = False := eq_false (by have := hsz.out; omega)
                       have n0_ := Aside0.mk (below_step (bl HB) hb)
                       have n1_ := bkB BK hb
                       have n2_ := bkB PT hb
                       clear HB hb BK PT hbn hbs
                       have HB := n0_
                       have BK := n1_
                       have PT := n2_
                       clear n0_ n1_ n2_)
          go_roundw
          case rel => exact ⟨4, _, by omega, by go_num, rfl, ⟨by rw [hs.out, HN.out]; rfl⟩, ⟨by have h1 := hsz.out; have h2 := HS.out; have h3 : ((⟨#[32]⟩ : ByteArray)).size = 1 := rfl; simp only [ByteArray.size_append]; omega⟩, ⟨bl HB⟩, ⟨bk BK⟩, ⟨bk PT⟩⟩
          case measure => simp [intOf]
        · have hcp : wr.cell? ⟨N, 4, none⟩ = some (.pointer (some ⟨gb, 5, none⟩)) := (blk_cell PT.out 4).trans rfl
          have hcn : wr.cell? ⟨gb, 5, none⟩ = some (.int .i64 a0_5) := (blk_cell BK.out 5).trans rfl
          go_wp2_with (go_at_call 19; refine (num_calls _ (by have := HL.out; omega) (by have := HL.out; omega) _ (EnvT.below HE.out (bl HB))).mono ?_; rintro e w4 ⟨bn, rfl, hbn, hbs, hb⟩
                       have HN := Aside0.mk hbn
                       have HS := Aside0.mk hbs
                       have hq1 : (9223372036854775807 < 1 + bn.size) = False := eq_false (by omega)
                       have hq2 : (9223372036854775807 < b.size + (1 + bn.size)) = False := eq_false (by have := hsz.out; omega)
                       have n0_ := Aside0.mk (below_step (bl HB) hb)
                       have n1_ := bkB BK hb
                       have n2_ := bkB PT hb
                       clear HB hb BK PT hbn hbs
                       have HB := n0_
                       have BK := n1_
                       have PT := n2_
                       clear n0_ n1_ n2_)
          go_roundw
          case rel => exact ⟨5, _, by omega, by go_num, rfl, ⟨by rw [hs.out, HN.out]; rfl⟩, ⟨by have h1 := hsz.out; have h2 := HS.out; have h3 : ((⟨#[32]⟩ : ByteArray)).size = 1 := rfl; simp only [ByteArray.size_append]; omega⟩, ⟨bl HB⟩, ⟨bk BK⟩, ⟨bk PT⟩⟩
          case measure => simp [intOf]
        · have hcp : wr.cell? ⟨N, 5, none⟩ = some (.pointer (some ⟨gb, 6, none⟩)) := (blk_cell PT.out 5).trans rfl
          have hcn : wr.cell? ⟨gb, 6, none⟩ = some (.int .i64 a0_6) := (blk_cell BK.out 6).trans rfl
          go_wp2_with (go_at_call 19; refine (num_calls _ (by have := HL.out; omega) (by have := HL.out; omega) _ (EnvT.below HE.out (bl HB))).mono ?_; rintro e w4 ⟨bn, rfl, hbn, hbs, hb⟩
                       have HN := Aside0.mk hbn
                       have HS := Aside0.mk hbs
                       have hq1 : (9223372036854775807 < 1 + bn.size) = False := eq_false (by omega)
                       have hq2 : (9223372036854775807 < b.size + (1 + bn.size)) = False := eq_false (by have := hsz.out; omega)
                       have n0_ := Aside0.mk (below_step (bl HB) hb)
                       have n1_ := bkB BK hb
                       have n2_ := bkB PT hb
                       clear HB hb BK PT hbn hbs
                       have HB := n0_
                       have BK := n1_
                       have PT := n2_
                       clear n0_ n1_ n2_)
          go_roundw
          case rel => exact ⟨6, _, by omega, by go_num, rfl, ⟨by rw [hs.out, HN.out]; rfl⟩, ⟨by have h1 := hsz.out; have h2 := HS.out; have h3 : ((⟨#[32]⟩ : ByteArray)).size = 1 := rfl; simp only [ByteArray.size_append]; omega⟩, ⟨bl HB⟩, ⟨bk BK⟩, ⟨bk PT⟩⟩
          case measure => simp [intOf]
        · go_wp2
          go_ret
          exact ⟨by rw [← HH.out, HK.out, hs.out]; rfl, HB.out⟩
    | true =>
      go_enter Tryd.func8, Tryd.ntmps8
      go_wp2_with (first
        | ((with_reducible refine gate_dst (N := 1) rfl ?_)
           refine box_event ?hg (N := 1) ?hd (cs := #[.bool true, .int .i64 a0_1, .int .i64 a0_2, .int .i64 a0_3, .int .i64 a0_4, .int .i64 a0_5, .int .i64 a0_6]) (t := 25) ?hr ?_
           (case hd => rfl)
           (case hg => rfl)
           (case hr => first | (go_simp; done) | (go_simp; rfl))
           intro gb hg w1 hbox hb
           have n0_ := Aside0.mk (below_step (bl HB) hb)
           have n1_ := Aside0.mk hbox
           clear HB hb hbox hg
           have HB := n0_
           have BK := n1_
           clear n0_ n1_
           have hc0 := (blk_cell BK.out 0).trans rfl
           have hc1 := (blk_cell BK.out 1).trans rfl
           have hc2 := (blk_cell BK.out 2).trans rfl
           have hc3 := (blk_cell BK.out 3).trans rfl
           have hc4 := (blk_cell BK.out 4).trans rfl
           have hc5 := (blk_cell BK.out 5).trans rfl
           have hc6 := (blk_cell BK.out 6).trans rfl)
        | (go_at_call 14; refine (impl_RulOk.calls _ _ _ _ _ _ _ _ _ HF.out).mono ?_; rw [HK.out]; rintro e w2 ⟨rfl, hb⟩
           have n0_ := Aside0.mk (below_step (bl HB) hb)
           have n1_ := bkB BK hb
           clear HB hb BK
           have HB := n0_
           have BK := n1_
           clear n0_ n1_
           have hc0 := (blk_cell BK.out 0).trans rfl)
        | (go_at_call 18; refine (bounds_calls _ _).mono ?_; rintro e w3 ⟨N, rfl, hN, hbk, hb⟩
           have n0_ := Aside0.mk (below_step (bl HB) hb)
           have n1_ := bkB BK hb
           have PT := Aside0.mk hbk
           clear HB hb BK hbk hN
           have HB := n0_
           have BK := n1_
           clear n0_ n1_))
      go_loopw [3, 13] (fun s i wr => ∃ (k : Nat) (b : ByteArray), k ≤ 6 ∧ i = .int .i64 k ∧ s = .string b ∧ Aside0 (b = textB (allowB true) (([a0_1, a0_2, a0_3, a0_4, a0_5, a0_6] : List Int).take k)) ∧ Aside0 (b.size ≤ 10 + 10 * k) ∧ Aside0 (Below w.heap.size w wr) ∧ Aside0 (wr.heap[gb]? = some (.cells #[.bool true, .int .i64 a0_1, .int .i64 a0_2, .int .i64 a0_3, .int .i64 a0_4, .int .i64 a0_5, .int .i64 a0_6] 25 (0, 0))) ∧ Aside0 (wr.heap[N]? = some (.cells (ptrs6 gb) 42 (0, 0)))) (fun _ i _ => 6 - (intOf i).toNat)
      case atStart => exact ⟨0, _, Nat.zero_le _, rfl, rfl, ⟨rfl⟩, ⟨by decide⟩, ⟨bl HB⟩, ⟨bk BK⟩, ⟨bk PT⟩⟩
      case round =>
        clear HB BK PT
        obtain ⟨k, b, hk, rfl, rfl, hs, hsz, HB, BK, PT⟩ := hrel
        have hk7 : k = 0 ∨ k = 1 ∨ k = 2 ∨ k = 3 ∨ k = 4 ∨ k = 5 ∨ k = 6 := by omega
        clear hk
        rcases hk7 with rfl | rfl | rfl | rfl | rfl | rfl | rfl
        · have hcp : wr.cell? ⟨N, 0, none⟩ = some (.pointer (some ⟨gb, 1, none⟩)) := (blk_cell PT.out 0).trans rfl
          have hcn : wr.cell? ⟨gb, 1, none⟩ = some (.int .i64 a0_1) := (blk_cell BK.out 1).trans rfl
          go_wp2_with (go_at_call 19; refine (num_calls _ (by have := HL.out; omega) (by have := HL.out; omega) _ (EnvT.below HE.out (bl HB))).mono ?_; rintro e w4 ⟨bn, rfl, hbn, hbs, hb⟩
                       have HN := Aside0.mk hbn
                       have HS := Aside0.mk hbs
                       have hq1 : (9223372036854775807 < 1 + bn.size) = False := eq_false (by omega)
                       have hq2 : (9223372036854775807 < b.size + (1 + bn.size)) = False := eq_false (by have := hsz.out; omega)
                       have n0_ := Aside0.mk (below_step (bl HB) hb)
                       have n1_ := bkB BK hb
                       have n2_ := bkB PT hb
                       clear HB hb BK PT hbn hbs
                       have HB := n0_
                       have BK := n1_
                       have PT := n2_
                       clear n0_ n1_ n2_)
          go_roundw
          case rel => exact ⟨1, _, by omega, by go_num, rfl, ⟨by rw [hs.out, HN.out]; rfl⟩, ⟨by have h1 := hsz.out; have h2 := HS.out; have h3 : ((⟨#[32]⟩ : ByteArray)).size = 1 := rfl; simp only [ByteArray.size_append]; omega⟩, ⟨bl HB⟩, ⟨bk BK⟩, ⟨bk PT⟩⟩
          case measure => simp [intOf]
        · have hcp : wr.cell? ⟨N, 1, none⟩ = some (.pointer (some ⟨gb, 2, none⟩)) := (blk_cell PT.out 1).trans rfl
          have hcn : wr.cell? ⟨gb, 2, none⟩ = some (.int .i64 a0_2) := (blk_cell BK.out 2).trans rfl
          go_wp2_with (go_at_call 19; refine (num_calls _ (by have := HL.out; omega) (by have := HL.out; omega) _ (EnvT.below HE.out (bl HB))).mono ?_; rintro e w4 ⟨bn, rfl, hbn, hbs, hb⟩
                       have HN := Aside0.mk hbn
                       have HS := Aside0.mk hbs
                       have hq1 : (9223372036854775807 < 1 + bn.size) = False := eq_false (by omega)
                       have hq2 : (9223372036854775807 < b.size + (1 + bn.size)) = False := eq_false (by have := hsz.out; omega)
                       have n0_ := Aside0.mk (below_step (bl HB) hb)
                       have n1_ := bkB BK hb
                       have n2_ := bkB PT hb
                       clear HB hb BK PT hbn hbs
                       have HB := n0_
                       have BK := n1_
                       have PT := n2_
                       clear n0_ n1_ n2_)
          go_roundw
          case rel => exact ⟨2, _, by omega, by go_num, rfl, ⟨by rw [hs.out, HN.out]; rfl⟩, ⟨by have h1 := hsz.out; have h2 := HS.out; have h3 : ((⟨#[32]⟩ : ByteArray)).size = 1 := rfl; simp only [ByteArray.size_append]; omega⟩, ⟨bl HB⟩, ⟨bk BK⟩, ⟨bk PT⟩⟩
          case measure => simp [intOf]
        · have hcp : wr.cell? ⟨N, 2, none⟩ = some (.pointer (some ⟨gb, 3, none⟩)) := (blk_cell PT.out 2).trans rfl
          have hcn : wr.cell? ⟨gb, 3, none⟩ = some (.int .i64 a0_3) := (blk_cell BK.out 3).trans rfl
          go_wp2_with (go_at_call 19; refine (num_calls _ (by have := HL.out; omega) (by have := HL.out; omega) _ (EnvT.below HE.out (bl HB))).mono ?_; rintro e w4 ⟨bn, rfl, hbn, hbs, hb⟩
                       have HN := Aside0.mk hbn
                       have HS := Aside0.mk hbs
                       have hq1 : (9223372036854775807 < 1 + bn.size) = False := eq_false (by omega)
                       have hq2 : (9223372036854775807 < b.size + (1 + bn.size)) = False := eq_false (by have := hsz.out; omega)
                       have n0_ := Aside0.mk (below_step (bl HB) hb)
                       have n1_ := bkB BK hb
                       have n2_ := bkB PT hb
                       clear HB hb BK PT hbn hbs
                       have HB := n0_
                       have BK := n1_
                       have PT := n2_
                       clear n0_ n1_ n2_)
          go_roundw
          case rel => exact ⟨3, _, by omega, by go_num, rfl, ⟨by rw [hs.out, HN.out]; rfl⟩, ⟨by have h1 := hsz.out; have h2 := HS.out; have h3 : ((⟨#[32]⟩ : ByteArray)).size = 1 := rfl; simp only [ByteArray.size_append]; omega⟩, ⟨bl HB⟩, ⟨bk BK⟩, ⟨bk PT⟩⟩
          case measure => simp [intOf]
        · have hcp : wr.cell? ⟨N, 3, none⟩ = some (.pointer (some ⟨gb, 4, none⟩)) := (blk_cell PT.out 3).trans rfl
          have hcn : wr.cell? ⟨gb, 4, none⟩ = some (.int .i64 a0_4) := (blk_cell BK.out 4).trans rfl
          go_wp2_with (go_at_call 19; refine (num_calls _ (by have := HL.out; omega) (by have := HL.out; omega) _ (EnvT.below HE.out (bl HB))).mono ?_; rintro e w4 ⟨bn, rfl, hbn, hbs, hb⟩
                       have HN := Aside0.mk hbn
                       have HS := Aside0.mk hbs
                       have hq1 : (9223372036854775807 < 1 + bn.size) = False := eq_false (by omega)
                       have hq2 : (9223372036854775807 < b.size + (1 + bn.size)) = False := eq_false (by have := hsz.out; omega)
                       have n0_ := Aside0.mk (below_step (bl HB) hb)
                       have n1_ := bkB BK hb
                       have n2_ := bkB PT hb
                       clear HB hb BK PT hbn hbs
                       have HB := n0_
                       have BK := n1_
                       have PT := n2_
                       clear n0_ n1_ n2_)
          go_roundw
          case rel => exact ⟨4, _, by omega, by go_num, rfl, ⟨by rw [hs.out, HN.out]; rfl⟩, ⟨by have h1 := hsz.out; have h2 := HS.out; have h3 : ((⟨#[32]⟩ : ByteArray)).size = 1 := rfl; simp only [ByteArray.size_append]; omega⟩, ⟨bl HB⟩, ⟨bk BK⟩, ⟨bk PT⟩⟩
          case measure => simp [intOf]
        · have hcp : wr.cell? ⟨N, 4, none⟩ = some (.pointer (some ⟨gb, 5, none⟩)) := (blk_cell PT.out 4).trans rfl
          have hcn : wr.cell? ⟨gb, 5, none⟩ = some (.int .i64 a0_5) := (blk_cell BK.out 5).trans rfl
          go_wp2_with (go_at_call 19; refine (num_calls _ (by have := HL.out; omega) (by have := HL.out; omega) _ (EnvT.below HE.out (bl HB))).mono ?_; rintro e w4 ⟨bn, rfl, hbn, hbs, hb⟩
                       have HN := Aside0.mk hbn
                       have HS := Aside0.mk hbs
                       have hq1 : (9223372036854775807 < 1 + bn.size) = False := eq_false (by omega)
                       have hq2 : (9223372036854775807 < b.size + (1 + bn.size)) = False := eq_false (by have := hsz.out; omega)
                       have n0_ := Aside0.mk (below_step (bl HB) hb)
                       have n1_ := bkB BK hb
                       have n2_ := bkB PT hb
                       clear HB hb BK PT hbn hbs
                       have HB := n0_
                       have BK := n1_
                       have PT := n2_
                       clear n0_ n1_ n2_)
          go_roundw
          case rel => exact ⟨5, _, by omega, by go_num, rfl, ⟨by rw [hs.out, HN.out]; rfl⟩, ⟨by have h1 := hsz.out; have h2 := HS.out; have h3 : ((⟨#[32]⟩ : ByteArray)).size = 1 := rfl; simp only [ByteArray.size_append]; omega⟩, ⟨bl HB⟩, ⟨bk BK⟩, ⟨bk PT⟩⟩
          case measure => simp [intOf]
        · have hcp : wr.cell? ⟨N, 5, none⟩ = some (.pointer (some ⟨gb, 6, none⟩)) := (blk_cell PT.out 5).trans rfl
          have hcn : wr.cell? ⟨gb, 6, none⟩ = some (.int .i64 a0_6) := (blk_cell BK.out 6).trans rfl
          go_wp2_with (go_at_call 19; refine (num_calls _ (by have := HL.out; omega) (by have := HL.out; omega) _ (EnvT.below HE.out (bl HB))).mono ?_; rintro e w4 ⟨bn, rfl, hbn, hbs, hb⟩
                       have HN := Aside0.mk hbn
                       have HS := Aside0.mk hbs
                       have hq1 : (9223372036854775807 < 1 + bn.size) = False := eq_false (by omega)
                       have hq2 : (9223372036854775807 < b.size + (1 + bn.size)) = False := eq_false (by have := hsz.out; omega)
                       have n0_ := Aside0.mk (below_step (bl HB) hb)
                       have n1_ := bkB BK hb
                       have n2_ := bkB PT hb
                       clear HB hb BK PT hbn hbs
                       have HB := n0_
                       have BK := n1_
                       have PT := n2_
                       clear n0_ n1_ n2_)
          go_roundw
          case rel => exact ⟨6, _, by omega, by go_num, rfl, ⟨by rw [hs.out, HN.out]; rfl⟩, ⟨by have h1 := hsz.out; have h2 := HS.out; have h3 : ((⟨#[32]⟩ : ByteArray)).size = 1 := rfl; simp only [ByteArray.size_append]; omega⟩, ⟨bl HB⟩, ⟨bk BK⟩, ⟨bk PT⟩⟩
          case measure => simp [intOf]
        · go_wp2
          go_ret
          exact ⟨by rw [← HH.out, HK.out, hs.out]; rfl, HB.out⟩
end Go.Proofs.YtiocgkggegahhaaDoor.P
