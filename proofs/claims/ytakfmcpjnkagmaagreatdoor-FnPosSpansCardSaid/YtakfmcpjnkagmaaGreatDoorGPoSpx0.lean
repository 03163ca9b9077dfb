import Derived.Test.YtakfmcpjnkagmaaGreatDoorProg
import Derived.Below
import Derived.Deep.Draws
import Derived.Deep.AppendLies
import Derived.Maps.AppendAt
import Derived.OwnWalk
import Derived.Laws.BytesArg
import Derived.Laws.MakeOwn
import Derived.Laws.OwnMore
import Derived.Deep.OwnRows
import Derived.Tactics
import Derived.Lib.ConvBytes
import Derived.Laws.Slices
import Derived.WalkKit
import Derived.KernelRfl
import Derived.RowKit3
import Derived.Deep.LoopGhost
import Derived.Deep.QuietTactic
import Derived.BigQuiet
import Derived.WideLaws
import Derived.Deep.DeepCutAuto
import Derived.Deep.CutBlock
import Derived.Deep.RegionHeld3
import Derived.Laws.Rows
import Derived.Lib.AppendStr
import Derived.ArgAppend
import Derived.Laws.IdiomCopy
import Derived.OrdersHeld
import Derived.Laws.BitsLemmas
import Derived.RowKit
import Derived.Test.YtakfmcpjnkagmaaGreatDoorUPoSpWords
import Derived.Test.YtakfmcpjnkagmaaGreatDoorUPoSpLast
import Derived.Test.YtakfmcpjnkagmaaGreatDoorUPoSpTab
import Derived.Test.YtakfmcpjnkagmaaGreatDoorUPoSpFour
import Derived.Test.YtakfmcpjnkagmaaGreatDoorUPoSpQPut
import Derived.Test.YtakfmcpjnkagmaaGreatDoorUPoSpApart
import Derived.Test.YtakfmcpjnkagmaaGreatDoorUPoSpArr
import Derived.Test.YtakfmcpjnkagmaaGreatDoorUPoSpZeros
import Derived.Test.YtakfmcpjnkagmaaGreatDoorUPoSpFoot
import Derived.Test.YtakfmcpjnkagmaaGreatDoorUPoSpKept
import Derived.Test.YtakfmcpjnkagmaaGreatDoorUPoSpShare
import Derived.Test.YtakfmcpjnkagmaaGreatDoorUPoSpN
import Derived.Test.YtakfmcpjnkagmaaGreatDoorUPoSpFootNe
import Derived.Test.YtakfmcpjnkagmaaGreatDoorUPoSpAt
import Derived.Test.YtakfmcpjnkagmaaGreatDoorUPoSpEqStruct
import Derived.Test.YtakfmcpjnkagmaaGreatDoorUPoSpRepsOne
import Derived.Test.YtakfmcpjnkagmaaGreatDoorUPoSpInv
import Derived.Test.YtakfmcpjnkagmaaGreatDoorUPoSpInvWords
import Derived.Test.YtakfmcpjnkagmaaGreatDoorUPoSpGuard
import Derived.Test.YtakfmcpjnkagmaaGreatDoorUPoSpNEv
import Derived.Test.YtakfmcpjnkagmaaGreatDoorUPoSpMore
import Derived.Shelf.Small.Wraps
import Derived.Shelf.LaysM
import Derived.Shelf.Strconv.Itoa3
import Derived.Shelf.LaysC
import Derived.Shelf.Strconv.AtoiAll
import Derived.Shelf.Strings.Cut
import Derived.Shelf.Vars
import Derived.Shelf.Lays
import Derived.Lib.Hide
import Derived.WalkSmall
import Derived.Test.YtakfmcpjnkagmaaGreatDoorRows
import Derived.Lay
import Derived.LaidSub
import Derived.MakeChecks
import Derived.Stop.Joined
import Derived.Deep.DeepHandedRow
import Derived.Lib.LaidTab
namespace Go.Proofs.YtakfmcpjnkagmaaGreatDoor.P
open Go.Proofs.YtakfmcpjnkagmaaGreatDoorUPoSp.PrintLast Go.Proofs.YtakfmcpjnkagmaaGreatDoorUPoSp.PrintMore Go.Proofs.YtakfmcpjnkagmaaGreatDoorUPoSp.PrintWords Go.RowKit
set_option linter.unusedVariables false
set_option linter.unusedSimpArgs false
section
attribute [local go_sem] max2_int min2_int max_two min_two max_three min_three max_four min_four
def errW : Option Int → Value
 | none=>.nilIface
 | some c=>.iface 133 (.int .i64 c)
theorem errW_none : errW none = .nilIface:=rfl
theorem errW_some (c : Int) : errW (some c) = .iface 133 (.int .i64 c):=rfl
theorem info5 : (Tryz.prog.info? 5).map (fun i=>(i.zero,i.size,i.bytes)) = some (some (.int .u8 0),1,1):=by kernel_rfl
theorem info9 : (Tryz.prog.info? 9).map (fun i=>(i.zero,i.size,i.bytes)) = some (some (.string ⟨#[]⟩),1,16):=by kernel_rfl
theorem info50 : (Tryz.prog.info? 50).map (fun i=>(i.zero,i.size,i.bytes)) = some (some (.agg #[(.int .i64 0),(.int .i64 0),(.int .i64 0),(.int .i64 0),(.bool false)]),5,40):=by kernel_rfl
theorem info55 : (Tryz.prog.info? 55).map (fun i=>(i.zero,i.size,i.bytes)) = some (some (.agg #[(.int .i64 0),(.int .i64 0)]),2,16):=by kernel_rfl
structure S55 where
 f0 : Int
 f1 : Int
def z55 : S55:=⟨(0 : Int),(0 : Int)⟩
def k55 : Kd S55:=Kd.iso (Kd.pair (Kd.int .i64) (Kd.int .i64)) (fun x : S55=>(x.f0,x.f1))
theorem k55_heap : Kd.Heap k55:=Kd.heap_iso _ (Kd.heap_pair (Kd.heap_int .i64) (Kd.heap_int .i64))
theorem k55_open {w : World} {x : S55} {cs : List Value} (h : k55.K w x cs) : cs = [.int .i64 x.f0,.int .i64 x.f1]:=by
 obtain ⟨_,_,rfl,rfl,rfl⟩:=h
 exact rfl
theorem k55_mkM (w : World) (base : Nat) (ok : Nat → Prop) (x : S55)  : k55.M w base ok x [.int .i64 x.f0,.int .i64 x.f1]:=⟨[.int .i64 x.f0],[.int .i64 x.f1],rfl,rfl,rfl⟩
def rd_T55 (xs : List S55) (i : Int) : S55:=xs.getD i.toNat z55
theorem at_T55 {w : World} {A : Option Addr} {n : Nat} {xs : List S55} (h : Kd.C k55 w A n xs) (i : Int) (h0 : 0 ≤ i) (h1 : i < n) : ∃ ad ,A = some ad ∧ w.cell? (ad.add (i.toNat * 2)) = some (.int .i64 (rd_T55 xs i).f0) ∧ w.cell? ⟨(ad.add (i.toNat * 2)).block,(ad.add (i.toNat * 2)).off + 1,none⟩ = some (.int .i64 (rd_T55 xs i).f1):=by
 obtain ⟨ad,c,e,_,hK,hc0⟩:=Kd.C_get h z55 i h0 h1
 have hc : ∀ j u,c[j]? = some u → w.cell? (ad.add (i.toNat * 2 + j)) = some u:=hc0
 obtain rfl:=k55_open hK
 exact ⟨ad,e,hc 0 _ rfl,by rw [← add_field _ _ 1 (by omega)];exact hc 1 _ rfl⟩
structure S50 where
 f0 : Int
 f1 : Int
 f2 : Int
 f3 : Int
 f4 : Bool
def z50 : S50:=⟨(0 : Int),(0 : Int),(0 : Int),(0 : Int),false⟩
def k50 : Kd S50:=Kd.iso (Kd.pair (Kd.int .i64) (Kd.pair (Kd.int .i64) (Kd.pair (Kd.int .i64) (Kd.pair (Kd.int .i64) Kd.bool)))) (fun x : S50=>(x.f0,x.f1,x.f2,x.f3,x.f4))
theorem k50_open {w : World} {x : S50} {cs : List Value} (h : k50.K w x cs) : cs = [.int .i64 x.f0,.int .i64 x.f1,.int .i64 x.f2,.int .i64 x.f3,.bool x.f4]:=by
 obtain ⟨_,_,rfl,rfl,⟨_,_,rfl,rfl,⟨_,_,rfl,rfl,⟨_,_,rfl,rfl,rfl⟩⟩⟩⟩:=h
 exact rfl
theorem k50_mkM (w : World) (base : Nat) (ok : Nat → Prop) (x : S50)  : k50.M w base ok x [.int .i64 x.f0,.int .i64 x.f1,.int .i64 x.f2,.int .i64 x.f3,.bool x.f4]:=⟨[.int .i64 x.f0],[.int .i64 x.f1,.int .i64 x.f2,.int .i64 x.f3,.bool x.f4],rfl,rfl,⟨[.int .i64 x.f1],[.int .i64 x.f2,.int .i64 x.f3,.bool x.f4],rfl,rfl,⟨[.int .i64 x.f2],[.int .i64 x.f3,.bool x.f4],rfl,rfl,⟨[.int .i64 x.f3],[.bool x.f4],rfl,rfl,rfl⟩⟩⟩⟩
def rd_T50 (xs : List S50) (i : Int) : S50:=xs.getD i.toNat z50
theorem at_T50 {w : World} {A : Option Addr} {n : Nat} {xs : List S50} (h : Kd.C k50 w A n xs) (i : Int) (h0 : 0 ≤ i) (h1 : i < n) : ∃ ad ,A = some ad ∧ w.cell? (ad.add (i.toNat * 5)) = some (.int .i64 (rd_T50 xs i).f0) ∧ w.cell? ⟨(ad.add (i.toNat * 5)).block,(ad.add (i.toNat * 5)).off + 1,none⟩ = some (.int .i64 (rd_T50 xs i).f1) ∧ w.cell? ⟨(ad.add (i.toNat * 5)).block,(ad.add (i.toNat * 5)).off + 2,none⟩ = some (.int .i64 (rd_T50 xs i).f2) ∧ w.cell? ⟨(ad.add (i.toNat * 5)).block,(ad.add (i.toNat * 5)).off + 3,none⟩ = some (.int .i64 (rd_T50 xs i).f3) ∧ w.cell? ⟨(ad.add (i.toNat * 5)).block,(ad.add (i.toNat * 5)).off + 4,none⟩ = some (.bool (rd_T50 xs i).f4):=by
 obtain ⟨ad,c,e,_,hK,hc0⟩:=Kd.C_get h z50 i h0 h1
 have hc : ∀ j u,c[j]? = some u → w.cell? (ad.add (i.toNat * 5 + j)) = some u:=hc0
 obtain rfl:=k50_open hK
 exact ⟨ad,e,hc 0 _ rfl,by rw [← add_field _ _ 1 (by omega)];exact hc 1 _ rfl,by rw [← add_field _ _ 2 (by omega)];exact hc 2 _ rfl,by rw [← add_field _ _ 3 (by omega)];exact hc 3 _ rfl,by rw [← add_field _ _ 4 (by omega)];exact hc 4 _ rfl⟩
end
end Go.Proofs.YtakfmcpjnkagmaaGreatDoor.P
namespace Go.Proofs
open Go.Shelf
def Tryz.lays103_ren : Go.Shelf.Ren:=⟨fun | 103=>86 | 210=>107 | 206=>123 | n=>n,fun | 9=>9 | 4=>4 | 24=>103 | 3=>3 | n=>n,fun | n=>n⟩
theorem Tryz.lays103 : Go.Proofs.Lays.n103 Tryz.prog Tryz.lays103_ren:={
  mixed:=by kernel_rfl
  f103:=Tryz.func86.trans (congrArg some (by kernel_rfl))
  f206:=Tryz.func123.trans (congrArg some (by kernel_rfl))
  f210:=Tryz.func107.trans (congrArg some (by kernel_rfl))
  t3:=Tryz.underlying3
  a3:=Tryz.isAgg3
  z3:=Tryz.sizeOf3
  v3:=Tryz.zeroValue3
  t4:=Tryz.underlying4
  a4:=Tryz.isAgg4
  z4:=Tryz.sizeOf4
  v4:=Tryz.zeroValue4
  t9:=Tryz.underlying9
  a9:=Tryz.isAgg9
  z9:=Tryz.sizeOf9
  v9:=Tryz.zeroValue9
  t24:=Tryz.underlying103
  a24:=Tryz.isAgg103
  z24:=Tryz.sizeOf103
  v24:=Tryz.zeroValue103 }
open Go.RowKit in
theorem Tryz.strings_CutPrefix (s p : ByteArray) (w : World) :
    Calls Tryz.prog 86 #[.string s,.string p] w fun e w'=>e = .returned (.tuple #[.string ⟨(Lib.trimPrefix s.data.toList p.data.toList).toArray⟩,.bool (Lib.hasPrefix s.data.toList p.data.toList)]) ∧ w' = w:=Any.strings_CutPrefix Tryz.lays103 s p w
def Tryz.laysM171_ren : Go.Shelf.Ren:=⟨fun | 171=>126 | 243=>140 | 246=>149 | 283=>152 | 284=>153 | 285=>154 | 286=>155 | 129=>157 | 317=>156 | 318=>158 | 319=>159 | 320=>160 | 337=>161 | 338=>162 | n=>n,fun | 3=>3 | 9=>9 | 2=>2 | 4=>4 | 171=>154 | 0=>0 | 53=>141 | 37=>39 | 5=>5 | 173=>157 | 212=>160 | 51=>114 | 20=>20 | 213=>161 | 46=>107 | 232=>164 | 233=>165 | n=>n,fun | 17=>4 | 18=>5 | 19=>6 | n=>n⟩
theorem Tryz.laysM171 : Go.Proofs.LaysM.n171 Tryz.prog Tryz.laysM171_ren:={
  mixed:=by kernel_rfl
  f129:=Tryz.func157.trans (congrArg some (by kernel_rfl))
  f171:=Tryz.func126.trans (congrArg some (by kernel_rfl))
  f243:=Tryz.func140.trans (congrArg some (by kernel_rfl))
  f246:=Tryz.func149.trans (congrArg some (by kernel_rfl))
  f283:=Tryz.func152.trans (congrArg some (by kernel_rfl))
  f284:=Tryz.func153.trans (congrArg some (by kernel_rfl))
  f285:=Tryz.func154.trans (congrArg some (by kernel_rfl))
  f286:=Tryz.func155.trans (congrArg some (by kernel_rfl))
  f317:=Tryz.func156.trans (congrArg some (by kernel_rfl))
  f318:=Tryz.func158.trans (congrArg some (by kernel_rfl))
  f319:=Tryz.func159.trans (congrArg some (by kernel_rfl))
  f320:=Tryz.func160.trans (congrArg some (by kernel_rfl))
  f337:=Tryz.func161.trans (congrArg some (by kernel_rfl))
  f338:=Tryz.func162.trans (congrArg some (by kernel_rfl))
  t0:=Tryz.underlying0
  a0:=Tryz.isAgg0
  z0:=Tryz.sizeOf0
  v0:=Tryz.zeroValue0
  t2:=Tryz.underlying2
  a2:=Tryz.isAgg2
  z2:=Tryz.sizeOf2
  v2:=Tryz.zeroValue2
  t3:=Tryz.underlying3
  a3:=Tryz.isAgg3
  z3:=Tryz.sizeOf3
  v3:=Tryz.zeroValue3
  t4:=Tryz.underlying4
  a4:=Tryz.isAgg4
  z4:=Tryz.sizeOf4
  v4:=Tryz.zeroValue4
  t5:=Tryz.underlying5
  a5:=Tryz.isAgg5
  z5:=Tryz.sizeOf5
  v5:=Tryz.zeroValue5
  t9:=Tryz.underlying9
  a9:=Tryz.isAgg9
  z9:=Tryz.sizeOf9
  v9:=Tryz.zeroValue9
  t20:=Tryz.underlying20
  a20:=Tryz.isAgg20
  z20:=Tryz.sizeOf20
  v20:=Tryz.zeroValue20
  t37:=Tryz.underlying39
  a37:=Tryz.isAgg39
  z37:=Tryz.sizeOf39
  v37:=Tryz.zeroValue39
  t46:=Tryz.underlying107
  a46:=Tryz.isAgg107
  z46:=Tryz.sizeOf107
  v46:=Tryz.zeroValue107
  t51:=Tryz.underlying114
  a51:=Tryz.isAgg114
  z51:=Tryz.sizeOf114
  v51:=Tryz.zeroValue114
  t53:=Tryz.underlying141
  a53:=Tryz.isAgg141
  z53:=Tryz.sizeOf141
  v53:=Tryz.zeroValue141
  t171:=Tryz.underlying154
  a171:=Tryz.isAgg154
  z171:=Tryz.sizeOf154
  v171:=Tryz.zeroValue154
  t173:=Tryz.underlying157
  a173:=Tryz.isAgg157
  z173:=Tryz.sizeOf157
  v173:=Tryz.zeroValue157
  t212:=Tryz.underlying160
  a212:=Tryz.isAgg160
  z212:=Tryz.sizeOf160
  v212:=Tryz.zeroValue160
  t213:=Tryz.underlying161
  a213:=Tryz.isAgg161
  z213:=Tryz.sizeOf161
  t232:=Tryz.underlying164
  a232:=Tryz.isAgg164
  z232:=Tryz.sizeOf164
  v232:=Tryz.zeroValue164
  t233:=Tryz.underlying165
  a233:=Tryz.isAgg165
  z233:=Tryz.sizeOf165
  v233:=Tryz.zeroValue165
  g17:=by kernel_rfl
  g18:=by kernel_rfl
  g19:=by kernel_rfl
  i0:=by kernel_rfl
  i2:=by kernel_rfl
  i3:=by kernel_rfl
  i4:=by kernel_rfl
  i5:=by kernel_rfl
  i9:=by kernel_rfl
  i20:=by kernel_rfl
  i37:=by kernel_rfl
  i46:=by kernel_rfl
  i51:=by kernel_rfl
  i53:=by kernel_rfl
  i171:=by kernel_rfl
  i173:=by kernel_rfl
  i212:=by kernel_rfl
  i232:=by kernel_rfl
  i233:=by kernel_rfl
  m17:=by kernel_rfl
  m18:=by kernel_rfl
  m19:=by kernel_rfl }
open Go.RowKit Go.Sort Go.Lib in
theorem Tryz.strconv_Itoa (n : Int) (h0 : -9223372036854775808 ≤ n) (h1 : n ≤ 9223372036854775807) (w : World) (htab : Lib.TabIs Tryz.prog w "internal/strconv.uint64pow10" .u64 Lib.pow10Tab) :
    Calls Tryz.prog 126 #[.int .i64 n] w fun e w'=>e = .returned (.string ⟨(Lib.itoa n).toArray⟩) ∧ ∃ k os,w' = grow (w.drewN k) os:=Any.strconv_Itoa Tryz.laysM171 n h0 h1 w htab
def Tryz.laysC172_ren : Go.Shelf.Ren:=⟨fun | 172=>108 | 244=>124 | 245=>125 | 247=>135 | 279=>136 | 280=>137 | 281=>138 | 282=>139 | 287=>146 | 316=>147 | 171=>126 | 205=>148 | 321=>150 | 322=>151 | 243=>140 | 246=>149 | 283=>152 | 284=>153 | 285=>154 | 286=>155 | 129=>157 | 317=>156 | 318=>158 | 319=>159 | 320=>160 | 337=>161 | 338=>162 | n=>n,fun | 9=>9 | 3=>3 | 75=>97 | 76=>98 | 4=>4 | 5=>5 | 167=>133 | 37=>39 | 0=>0 | 85=>134 | 2=>2 | 168=>136 | 53=>141 | 175=>142 | 46=>107 | 210=>146 | 127=>121 | 145=>153 | 143=>151 | 21=>21 | 171=>154 | 173=>157 | 212=>160 | 51=>114 | 20=>20 | 213=>161 | 232=>164 | 233=>165 | 80=>100 | n=>n,fun | 15=>2 | 16=>3 | 17=>4 | 18=>5 | 19=>6 | n=>n⟩
theorem Tryz.laysC172 : Go.Proofs.LaysC.n172 Tryz.prog Tryz.laysC172_ren:={
  mixed:=by kernel_rfl
  f129:=Tryz.func157.trans (congrArg some (by kernel_rfl))
  f171:=Tryz.func126.trans (congrArg some (by kernel_rfl))
  f172:=Tryz.func108.trans (congrArg some (by kernel_rfl))
  f205:=Tryz.func148.trans (congrArg some (by kernel_rfl))
  f243:=Tryz.func140.trans (congrArg some (by kernel_rfl))
  f244:=Tryz.func124.trans (congrArg some (by kernel_rfl))
  f245:=Tryz.func125.trans (congrArg some (by kernel_rfl))
  f246:=Tryz.func149.trans (congrArg some (by kernel_rfl))
  f247:=Tryz.func135.trans (congrArg some (by kernel_rfl))
  f279:=Tryz.func136.trans (congrArg some (by kernel_rfl))
  f280:=Tryz.func137.trans (congrArg some (by kernel_rfl))
  f281:=Tryz.func138.trans (congrArg some (by kernel_rfl))
  f282:=Tryz.func139.trans (congrArg some (by kernel_rfl))
  f283:=Tryz.func152.trans (congrArg some (by kernel_rfl))
  f284:=Tryz.func153.trans (congrArg some (by kernel_rfl))
  f285:=Tryz.func154.trans (congrArg some (by kernel_rfl))
  f286:=Tryz.func155.trans (congrArg some (by kernel_rfl))
  f287:=Tryz.func146.trans (congrArg some (by kernel_rfl))
  f316:=Tryz.func147.trans (congrArg some (by kernel_rfl))
  f317:=Tryz.func156.trans (congrArg some (by kernel_rfl))
  f318:=Tryz.func158.trans (congrArg some (by kernel_rfl))
  f319:=Tryz.func159.trans (congrArg some (by kernel_rfl))
  f320:=Tryz.func160.trans (congrArg some (by kernel_rfl))
  f321:=Tryz.func150.trans (congrArg some (by kernel_rfl))
  f322:=Tryz.func151.trans (congrArg some (by kernel_rfl))
  f337:=Tryz.func161.trans (congrArg some (by kernel_rfl))
  f338:=Tryz.func162.trans (congrArg some (by kernel_rfl))
  t0:=Tryz.underlying0
  a0:=Tryz.isAgg0
  z0:=Tryz.sizeOf0
  v0:=Tryz.zeroValue0
  t2:=Tryz.underlying2
  a2:=Tryz.isAgg2
  z2:=Tryz.sizeOf2
  v2:=Tryz.zeroValue2
  t3:=Tryz.underlying3
  a3:=Tryz.isAgg3
  z3:=Tryz.sizeOf3
  v3:=Tryz.zeroValue3
  t4:=Tryz.underlying4
  a4:=Tryz.isAgg4
  z4:=Tryz.sizeOf4
  v4:=Tryz.zeroValue4
  t5:=Tryz.underlying5
  a5:=Tryz.isAgg5
  z5:=Tryz.sizeOf5
  v5:=Tryz.zeroValue5
  t9:=Tryz.underlying9
  a9:=Tryz.isAgg9
  z9:=Tryz.sizeOf9
  v9:=Tryz.zeroValue9
  t20:=Tryz.underlying20
  a20:=Tryz.isAgg20
  z20:=Tryz.sizeOf20
  v20:=Tryz.zeroValue20
  t21:=Tryz.underlying21
  a21:=Tryz.isAgg21
  z21:=Tryz.sizeOf21
  v21:=Tryz.zeroValue21
  t37:=Tryz.underlying39
  a37:=Tryz.isAgg39
  z37:=Tryz.sizeOf39
  v37:=Tryz.zeroValue39
  t46:=Tryz.underlying107
  a46:=Tryz.isAgg107
  z46:=Tryz.sizeOf107
  v46:=Tryz.zeroValue107
  t51:=Tryz.underlying114
  a51:=Tryz.isAgg114
  z51:=Tryz.sizeOf114
  v51:=Tryz.zeroValue114
  t53:=Tryz.underlying141
  a53:=Tryz.isAgg141
  z53:=Tryz.sizeOf141
  v53:=Tryz.zeroValue141
  t75:=Tryz.underlying97
  a75:=Tryz.isAgg97
  z75:=Tryz.sizeOf97
  v75:=Tryz.zeroValue97
  t76:=Tryz.underlying98
  a76:=Tryz.isAgg98
  z76:=Tryz.sizeOf98
  v76:=Tryz.zeroValue98
  t85:=Tryz.underlying134
  a85:=Tryz.isAgg134
  z85:=Tryz.sizeOf134
  v85:=Tryz.zeroValue134
  t127:=Tryz.underlying121
  a127:=Tryz.isAgg121
  z127:=Tryz.sizeOf121
  v127:=Tryz.zeroValue121
  t143:=Tryz.underlying151
  a143:=Tryz.isAgg151
  z143:=Tryz.sizeOf151
  v143:=Tryz.zeroValue151
  t145:=Tryz.underlying153
  a145:=Tryz.isAgg153
  z145:=Tryz.sizeOf153
  v145:=Tryz.zeroValue153
  t167:=Tryz.underlying133
  a167:=Tryz.isAgg133
  z167:=Tryz.sizeOf133
  v167:=Tryz.zeroValue133
  t168:=Tryz.underlying136
  a168:=Tryz.isAgg136
  z168:=Tryz.sizeOf136
  v168:=Tryz.zeroValue136
  t171:=Tryz.underlying154
  a171:=Tryz.isAgg154
  z171:=Tryz.sizeOf154
  v171:=Tryz.zeroValue154
  t173:=Tryz.underlying157
  a173:=Tryz.isAgg157
  z173:=Tryz.sizeOf157
  v173:=Tryz.zeroValue157
  t175:=Tryz.underlying142
  a175:=Tryz.isAgg142
  z175:=Tryz.sizeOf142
  v175:=Tryz.zeroValue142
  t210:=Tryz.underlying146
  a210:=Tryz.isAgg146
  z210:=Tryz.sizeOf146
  v210:=Tryz.zeroValue146
  t212:=Tryz.underlying160
  a212:=Tryz.isAgg160
  z212:=Tryz.sizeOf160
  v212:=Tryz.zeroValue160
  t213:=Tryz.underlying161
  a213:=Tryz.isAgg161
  z213:=Tryz.sizeOf161
  t232:=Tryz.underlying164
  a232:=Tryz.isAgg164
  z232:=Tryz.sizeOf164
  v232:=Tryz.zeroValue164
  t233:=Tryz.underlying165
  a233:=Tryz.isAgg165
  z233:=Tryz.sizeOf165
  v233:=Tryz.zeroValue165
  g15:=by kernel_rfl
  g16:=by kernel_rfl
  g17:=by kernel_rfl
  g18:=by kernel_rfl
  g19:=by kernel_rfl
  t80:=Tryz.underlying100
  a80:=Tryz.isAgg100
  z80:=Tryz.sizeOf100
  v80:=Tryz.zeroValue100
  i0:=by kernel_rfl
  i2:=by kernel_rfl
  i3:=by kernel_rfl
  i4:=by kernel_rfl
  i5:=by kernel_rfl
  i9:=by kernel_rfl
  i20:=by kernel_rfl
  i21:=by kernel_rfl
  i37:=by kernel_rfl
  i46:=by kernel_rfl
  i51:=by kernel_rfl
  i53:=by kernel_rfl
  i75:=by kernel_rfl
  i76:=by kernel_rfl
  i80:=by kernel_rfl
  i85:=by kernel_rfl
  i127:=by kernel_rfl
  i143:=by kernel_rfl
  i145:=by kernel_rfl
  i167:=by kernel_rfl
  i168:=by kernel_rfl
  i171:=by kernel_rfl
  i173:=by kernel_rfl
  i175:=by kernel_rfl
  i210:=by kernel_rfl
  i212:=by kernel_rfl
  i232:=by kernel_rfl
  i233:=by kernel_rfl
  m15:=by kernel_rfl
  m16:=by kernel_rfl
  m17:=by kernel_rfl
  m18:=by kernel_rfl
  m19:=by kernel_rfl
  c0:=by kernel_rfl
  c2:=by kernel_rfl
  c3:=by kernel_rfl
  c4:=by kernel_rfl
  c5:=by kernel_rfl
  c9:=by kernel_rfl
  c20:=by kernel_rfl
  c21:=by kernel_rfl
  c37:=by kernel_rfl
  c46:=by kernel_rfl
  c51:=by kernel_rfl
  c53:=by kernel_rfl
  c75:=by kernel_rfl
  c76:=by kernel_rfl
  c80:=by kernel_rfl
  c85:=by kernel_rfl
  c127:=by kernel_rfl
  c143:=by kernel_rfl
  c145:=by kernel_rfl
  c167:=by kernel_rfl
  c168:=by kernel_rfl
  c171:=by kernel_rfl
  c173:=by kernel_rfl
  c175:=by kernel_rfl
  c210:=by kernel_rfl
  c212:=by kernel_rfl
  c213:=by kernel_rfl
  c232:=by kernel_rfl
  c233:=by kernel_rfl }
open Go.RowKit in
theorem Tryz.strconv_Atoi_ok (s : ByteArray) (hmax : s.size ≤ 9223372036854775806) (v : Int) (h : Lib.atoiAll s.data.toList = .ok v) (w : World) :
    Calls Tryz.prog 108 #[.string s] w fun e w'=>e = .returned (.tuple #[.int .i64 v,.nilIface]) ∧ (w' = w ∨ ∃ t,w' = Lib.bytesWorld w 5 t):=Any.strconv_Atoi_ok Tryz.laysC172 s hmax v h w
open Go.RowKit in
theorem Tryz.strconv_Atoi_syntax (s : ByteArray) (hlim : s.size ≤ 281474976710656) (h : Lib.atoiAll s.data.toList = Lib.atoiAll []) (ev : Value) (w : World) (hv : w.cell? ⟨2,0,none⟩ = some ev) (hev : ev = .nilIface ∨ ∃ te pe,ev = .iface te pe) :
    Calls Tryz.prog 108 #[.string s] w fun e w'=>∃ N,e = .returned (.tuple #[.int .i64 (0),.iface 136 (.pointer (some ⟨N,0,none⟩))]) ∧ w.heap.size ≤ N ∧ w'.heap[N]? = some (.cells #[.string ⟨#[65,116,111,105]⟩,.string s,ev] 146 (0,0)) ∧ Below w.heap.size w w':=Any.strconv_Atoi_syntax Tryz.laysC172 s hlim h ev w hv hev
open Go.RowKit in
theorem Tryz.strconv_Atoi_range (s : ByteArray) (hlim : s.size ≤ 281474976710656) (h : Lib.atoiAll s.data.toList = .range) (ev : Value) (w : World) (hv : w.cell? ⟨3,0,none⟩ = some ev) (hev : ev = .nilIface ∨ ∃ te pe,ev = .iface te pe) :
    Calls Tryz.prog 108 #[.string s] w fun e w'=>∃ N,e = .returned (.tuple #[.int .i64 (Lib.atoiSat s.data.toList),.iface 136 (.pointer (some ⟨N,0,none⟩))]) ∧ w.heap.size ≤ N ∧ w'.heap[N]? = some (.cells #[.string ⟨#[65,116,111,105]⟩,.string s,ev] 146 (0,0)) ∧ Below w.heap.size w w':=Any.strconv_Atoi_range Tryz.laysC172 s hlim h ev w hv hev
def Tryz.lays145_ren : Go.Shelf.Ren:=⟨fun | 145=>78 | 220=>99 | 219=>98 | 217=>116 | 225=>117 | 224=>118 | 267=>119 | 266=>131 | 314=>132 | n=>n,fun | 9=>9 | 4=>4 | 59=>89 | 3=>3 | 5=>5 | 46=>107 | 146=>115 | 51=>114 | n=>n,fun | 1=>0 | n=>n⟩
theorem Tryz.lays145 : Go.Proofs.Lays.n145 Tryz.prog Tryz.lays145_ren:={
  mixed:=by kernel_rfl
  f145:=Tryz.func78.trans (congrArg some (by kernel_rfl))
  f217:=Tryz.func116.trans (congrArg some (by kernel_rfl))
  f219:=Tryz.func98.trans (congrArg some (by kernel_rfl))
  f220:=Tryz.func99.trans (congrArg some (by kernel_rfl))
  f224:=Tryz.func118.trans (congrArg some (by kernel_rfl))
  f225:=Tryz.func117.trans (congrArg some (by kernel_rfl))
  f266:=Tryz.func131.trans (congrArg some (by kernel_rfl))
  f267:=Tryz.func119.trans (congrArg some (by kernel_rfl))
  f314:=Tryz.func132.trans (congrArg some (by kernel_rfl))
  t3:=Tryz.underlying3
  a3:=Tryz.isAgg3
  z3:=Tryz.sizeOf3
  v3:=Tryz.zeroValue3
  t4:=Tryz.underlying4
  a4:=Tryz.isAgg4
  z4:=Tryz.sizeOf4
  v4:=Tryz.zeroValue4
  t5:=Tryz.underlying5
  a5:=Tryz.isAgg5
  z5:=Tryz.sizeOf5
  v5:=Tryz.zeroValue5
  t9:=Tryz.underlying9
  a9:=Tryz.isAgg9
  z9:=Tryz.sizeOf9
  v9:=Tryz.zeroValue9
  t46:=Tryz.underlying107
  a46:=Tryz.isAgg107
  z46:=Tryz.sizeOf107
  v46:=Tryz.zeroValue107
  t51:=Tryz.underlying114
  a51:=Tryz.isAgg114
  z51:=Tryz.sizeOf114
  v51:=Tryz.zeroValue114
  t59:=Tryz.underlying89
  a59:=Tryz.isAgg89
  z59:=Tryz.sizeOf89
  v59:=Tryz.zeroValue89
  t146:=Tryz.underlying115
  a146:=Tryz.isAgg115
  z146:=Tryz.sizeOf115
  v146:=Tryz.zeroValue115
  g1:=by kernel_rfl }
open Go.RowKit Go.Lib in
theorem Tryz.strings_Cut (s sep : ByteArray) (m : Int) (w : World) (hs : s.size < 4294967281) (hm : w.cell? ⟨0,0,none⟩ = some (.int .i64 m)) :
    Calls Tryz.prog 78 #[.string s,.string sep] w fun e w'=>e = .returned (.tuple #[.string ⟨(Lib.cut s.data.toList sep.data.toList).1.toArray⟩,.string ⟨(Lib.cut s.data.toList sep.data.toList).2.1.toArray⟩,.bool (Lib.cut s.data.toList sep.data.toList).2.2]) ∧ ∃ n,w' = w.drewN n:=Any.strings_Cut Tryz.lays145 s sep m w hs hm
end Go.Proofs
namespace Go.Proofs.YtakfmcpjnkagmaaGreatDoor.P
open Go Go.Proofs.YtakfmcpjnkagmaaGreatDoorUPoSp.PrintLast Go.Proofs.YtakfmcpjnkagmaaGreatDoorUPoSp.PrintMore Go.Proofs.YtakfmcpjnkagmaaGreatDoorUPoSp.PrintWords Go.RowKit Go.Sort
set_option linter.unusedVariables false
theorem var_below {P : Program} {n : String} {cs : Array Value} {w w' : World} (h : w.var? P n = some cs) (b : Below w.heap.size w w') : w'.var? P n = some cs:=by
  simp only [World.var?] at h ⊢
  cases hg : P.globalNamed n with
  | none=>rw [hg] at h;exact h
  | some g=>
    rw [hg] at h
    simp only [Option.bind_some] at h ⊢
    cases hk : w.heap[g]? with
    | none=>rw [hk] at h;simp at h
    | some o=>rw [b.block g (Array.getElem?_eq_some_iff.1 hk).1,hk];rw [hk] at h;exact h
theorem cell_below {g : Nat} {v : Value} {w w' : World} (h : w.cell? ⟨g,0,none⟩ = some v) (b : Below w.heap.size w w') : w'.cell? ⟨g,0,none⟩ = some v:=by
  simp only [World.cell?] at h ⊢
  cases hk : w.heap[g]? with
  | none=>rw [hk] at h;simp at h
  | some o=>rw [b.block g (Array.getElem?_eq_some_iff.1 hk).1,hk];rw [hk] at h;exact h
structure EnvT (w : World) : Prop where
  pow : Lib.TabIs Tryz.prog w "internal/strconv.uint64pow10" .u64 Lib.pow10Tab
theorem EnvT.below {w w' : World} (h : EnvT w) (b : Below w.heap.size w w') : EnvT w':=⟨var_below h.pow b⟩
theorem below_grow {B : Nat} {a w : World} (h : Below B a w) (hB : B ≤ w.heap.size) (os : Array Obj) : Below B a (grow w os):=
  h.trans ⟨rfl,rfl,rfl,by simp [grow],fun k hk=>by simp only [grow];rw [Array.getElem?_append_left (by omega)]⟩
theorem itoa_calls (n : Int) (h0 : 0 ≤ n) (h1 : n ≤ 1000000) (w : World) (hE : EnvT w) :
    Calls Tryz.prog 126 #[.int .i64 n] w fun e w'=>e = .returned (.string ⟨(Lib.itoa n).toArray⟩) ∧ Below w.heap.size w w':=by
  refine (Tryz.strconv_Itoa n (by omega) (by omega) w hE.pow).mono ?_
  rintro e w' ⟨rfl,k,os,rfl⟩
  exact ⟨rfl,below_grow (below_drewN (Below.refl _ _) k) (Nat.le_refl _) os⟩
theorem toList_inj {a b : ByteArray} (h : a.toList = b.toList) : a = b:=by
  rw [ByteArray.toList_eq,ByteArray.toList_eq] at h
  cases a;cases b;simp at h;rw [h]
def numB (n : Int) : ByteArray:=⟨(Lib.itoa n).toArray⟩
theorem numB_size {n : Int} (h0 : 0 ≤ n) (h1 : n ≤ 999) : (numB n).size ≤ 3:=by
  obtain ⟨k,rfl⟩ : ∃ k : Nat,n = k:=⟨n.toNat,by omega⟩
  have hk : k < 1000:=by omega
  have h3 : Lib.nDigits k ≤ 3:=by
    by_cases a : k < 10
    · rw [Lib.nDigits_small a];omega
    · rw [Lib.nDigits_big a]
      by_cases b : k / 10 < 10
      · rw [Lib.nDigits_small b];omega
      · rw [Lib.nDigits_big b,Lib.nDigits_small (by omega)];omega
  have : (Lib.itoa (k : Int)).length ≤ 3:=by
    unfold Lib.itoa
    rw [if_neg (by omega),Lib.decDigits_length]
    simpa using h3
  simpa [numB,ByteArray.size] using this
theorem num_calls (n : Int) (h0 : 0 ≤ n) (h1 : n ≤ 999) (w : World) (hE : EnvT w) :
    Calls Tryz.prog 126 #[.int .i64 n] w fun e w'=>∃ b : ByteArray,e = .returned (.string b) ∧ b = numB n ∧ b.size ≤ 3 ∧ Below w.heap.size w w':=by
  refine (itoa_calls n h0 (by omega) w hE).mono ?_
  rintro e w' ⟨rfl,hb⟩
  exact ⟨_,rfl,rfl,numB_size h0 h1,hb⟩
structure Env (w : World) : Prop where
  t : EnvT w
  max : ∃ m,w.cell? ⟨0,0,none⟩ = some (.int .i64 m)
  syn : ∃ te pe,w.cell? ⟨2,0,none⟩ = some (.iface te pe)
  rng : ∃ te pe,w.cell? ⟨3,0,none⟩ = some (.iface te pe)
theorem Env.below {w w' : World} (h : Env w) (b : Below w.heap.size w w') : Env w':=
  ⟨h.t.below b,h.max.elim fun m hm=>⟨m,cell_below hm b⟩,h.syn.elim fun a ha=>ha.elim fun c hc=>⟨a,c,cell_below hc b⟩,h.rng.elim fun a ha=>ha.elim fun c hc=>⟨a,c,cell_below hc b⟩⟩
theorem below_bytesE (w : World) (e : TypeId) (s : ByteArray) : Below w.heap.size w (Lib.bytesWorld w e s):=by
  refine ⟨?_,?_,?_,?_,fun k hk=>Lib.bytesWorld_at_old w e s k hk⟩ <;> unfold Lib.bytesWorld World.freeze <;> simp [World.alloc,World.drew,-World.alloc_eq,-World.drew_eq]
theorem end_cases (x : Lib.NumEnd Int) : (∃ n,x = .ok n) ∨ x = .range ∨ x = Lib.atoiAll []:=by
  cases x <;> first | exact .inl ⟨_,rfl⟩ | exact .inr (.inl rfl) | exact .inr (.inr rfl)
def atoiP (s : ByteArray) (v : Int) (ev : Value) : Prop:=(Lib.atoiAll s.data.toList = .ok v ∧ ev = .nilIface) ∨ ((∀ n,Lib.atoiAll s.data.toList ≠ .ok n) ∧ ∃ t p,ev = .iface t p)
theorem atoi_calls (s : ByteArray) (hs : s.size ≤ 281474976710656) (w : World) (hE : Env w) :
    Calls Tryz.prog 108 #[.string s] w fun e w'=>∃ (v : Int) (ev : Value),e = .returned (.tuple #[.int .i64 v,ev]) ∧ atoiP s v ev ∧ Below w.heap.size w w':=by
  rcases end_cases (Lib.atoiAll s.data.toList) with ⟨n,h⟩ | h | h
  · refine (Tryz.strconv_Atoi_ok s (by omega) n h w).mono ?_
    rintro e w' ⟨rfl,hw⟩
    refine ⟨n,.nilIface,rfl,.inl ⟨h,rfl⟩,?_⟩
    rcases hw with rfl | ⟨t,rfl⟩
    · exact Below.refl _ _
    · exact below_bytesE _ _ _
  · obtain ⟨te,pe,hv⟩:=hE.rng
    refine (Tryz.strconv_Atoi_range s hs h _ w hv (.inr ⟨te,pe,rfl⟩)).mono ?_
    rintro e w' ⟨N,rfl,_,_,hb⟩
    exact ⟨_,_,rfl,.inr ⟨fun n hn=>(by rw [h] at hn;cases hn),_,_,rfl⟩,hb⟩
  · obtain ⟨te,pe,hv⟩:=hE.syn
    refine (Tryz.strconv_Atoi_syntax s hs h _ w hv (.inr ⟨te,pe,rfl⟩)).mono ?_
    rintro e w' ⟨N,rfl,_,_,hb⟩
    exact ⟨_,_,rfl,.inr ⟨fun n hn=>(by rw [h] at hn;cases hn),_,_,rfl⟩,hb⟩
def atoiO (s : ByteArray) : Option Int:=match Lib.atoiAll s.data.toList with | .ok n=>some n | _=>none
theorem atoi_ok (s : ByteArray) (hs : s.size ≤ 281474976710656) (v : Int) (h : atoiO s = some v) (w : World) (hE : Env w) :
    Calls Tryz.prog 108 #[.string s] w fun e w'=>e = .returned (.tuple #[.int .i64 v,.nilIface]) ∧ Below w.heap.size w w':=by
  refine (atoi_calls s hs w hE).mono ?_
  rintro e w' ⟨v',ev,rfl,hp,hb⟩
  rcases hp with ⟨h1,rfl⟩ | ⟨h1,_⟩
  · unfold atoiO at h;rw [h1] at h;cases h;exact ⟨rfl,hb⟩
  · unfold atoiO at h
    rcases end_cases (Lib.atoiAll s.data.toList) with ⟨n,h2⟩ | h2 | h2
    · exact absurd h2 (h1 n)
    · rw [h2] at h;cases h
    · rw [h2] at h;cases h
theorem atoi_no (s : ByteArray) (hs : s.size ≤ 281474976710656) (h : atoiO s = none) (w : World) (hE : Env w) :
    Calls Tryz.prog 108 #[.string s] w fun e w'=>∃ v t p,e = .returned (.tuple #[.int .i64 v,.iface t p]) ∧ Below w.heap.size w w':=by
  refine (atoi_calls s hs w hE).mono ?_
  rintro e w' ⟨v',ev,rfl,hp,hb⟩
  rcases hp with ⟨h1,rfl⟩ | ⟨h1,t,p,rfl⟩
  · unfold atoiO at h;rw [h1] at h;cases h
  · exact ⟨_,_,_,rfl,hb⟩
structure EnvE (w : World) : Prop where
  e : Env w
  err : ∃ te pe,w.cell? ⟨1,0,none⟩ = some (.iface te pe)
theorem EnvE.below {w w' : World} (h : EnvE w) (b : Below w.heap.size w w') : EnvE w':=
  ⟨h.e.below b,h.err.elim fun a ha=>ha.elim fun c hc=>⟨a,c,cell_below hc b⟩⟩
end Go.Proofs.YtakfmcpjnkagmaaGreatDoor.P
namespace Go.Proofs.YtakfmcpjnkagmaaGreatDoor.P
open Go Go.RowKit
set_option linter.unusedVariables false
theorem laid_iface {P : Program} {n nm : String} {d : DataW Unit} {r : List (String × DataW Unit)} {W : World} {g : Nat} {ti : TypeId} {ms : Array (String × TypeId)}
    (h : laidMet P ((n,.iface nm d) :: r) W) (hg : P.globalNamed n = some g) (ht : (P.globals[g]?).map (·.type) = some ti) (hi : P.underlying ti = some (.interface ms)) :
    ∃ u v,W.cell? ⟨g,0,none⟩ = some (.iface u v):=by
  obtain ⟨ps,⟨g0,t0,cs0,f0,p0,q0,hg0,ht0,hv0,hd0,_,e0⟩,_,hrows⟩:=h
  obtain rfl:=Option.some.inj (hg.symm.trans hg0)
  obtain rfl:=Option.some.inj (ht.symm.trans ht0)
  obtain ⟨f1,u,v,hc,_⟩:=iface_of_trod hi hd0
  refine ⟨u,v,?_⟩
  have:=World.var?_cell hg0 hv0 0
  rw [Array.eq_one_of_toList hc] at this
  simpa using this
theorem laid_one {P : Program} {L : List (String × DataW Unit)} {W : World} (h : laidMetH P L W) (n : String) {x : String × DataW Unit} (e : (L.filter fun x=>x.1 == n) = [x]) (hx : x.2.handleName?.isNone = true) : laidMet P [x] W:=by
  have h1:=h.filter (fun x=>x.1 == n)
  rw [e,MakeChecks.laidMetH_plain _ _ _ (by simp [hx])] at h1
  exact h1
theorem envT_of {L : List (String × DataW Unit)} {W : World} (h : laidMetH Tryz.prog L W)
    (e : (L.filter fun x => x.1 == "internal/strconv.uint64pow10") = [("internal/strconv.uint64pow10", Lib.tabData .u64 Lib.pow10Tab)]) : EnvT W :=
  ⟨Lib.tabIs_of_head (g:=4) (by kernel_rfl) (by kernel_rfl) Tryz.underlying160 Tryz.underlying141 (by kernel_rfl) (by kernel_rfl) (laid_one h _ e rfl)⟩
theorem env_of {L : List (String × DataW Unit)} {W : World} (h : laidMetH Tryz.prog L W) (hs : W.ShapedOpen Tryz.prog)
    (e : (L.filter fun x => x.1 == "internal/strconv.uint64pow10") = [("internal/strconv.uint64pow10", Lib.tabData .u64 Lib.pow10Tab)])
    (e1 : (L.filter fun x => x.1 == "strconv.ErrSyntax") = [("strconv.ErrSyntax", Rows.laid_strconv_ErrSyntax)])
    (e2 : (L.filter fun x => x.1 == "strconv.ErrRange") = [("strconv.ErrRange", Rows.laid_strconv_ErrRange)]) : Env W :=
  ⟨envT_of h e,cell_of_shapedOpen_int (zero:=#[.int .i64 0]) (t:=3) hs (of_decide_eq_true (by kernel_rfl)) (by kernel_rfl) rfl (by kernel_rfl) (by kernel_rfl) Tryz.underlying3,
   laid_iface (laid_one h _ e1 rfl) (by kernel_rfl) (by kernel_rfl) Tryz.underlying97,laid_iface (laid_one h _ e2 rfl) (by kernel_rfl) (by kernel_rfl) Tryz.underlying97⟩
theorem envE_of {L : List (String × DataW Unit)} {W : World} (h : laidMetH Tryz.prog L W) (hs : W.ShapedOpen Tryz.prog)
    (e : (L.filter fun x => x.1 == "internal/strconv.uint64pow10") = [("internal/strconv.uint64pow10", Lib.tabData .u64 Lib.pow10Tab)])
    (e1 : (L.filter fun x => x.1 == "strconv.ErrSyntax") = [("strconv.ErrSyntax", Rows.laid_strconv_ErrSyntax)])
    (e2 : (L.filter fun x => x.1 == "strconv.ErrRange") = [("strconv.ErrRange", Rows.laid_strconv_ErrRange)])
    (e3 : (L.filter fun x => x.1 == "loop.example/hatchway/impl.errEnd") = [("loop.example/hatchway/impl.errEnd", Rows.laid_loop_example_hatchway_impl_errEnd)]) : EnvE W :=
  ⟨env_of h hs e e1 e2,laid_iface (laid_one h _ e3 rfl) (by kernel_rfl) (by kernel_rfl) Tryz.underlying97⟩
theorem witness_laid {H : Type} {enc : TypeId × Value → H} {os : Os} {f : FuncId} {fn : Func} {s : OpenSpec} {conds : List PathCond} {apart : Bool} {laid : List (String × DataW Unit)} (args : Array Value)
    (hsh : ((World.laidAll Tryz.prog os laid).forCall (fun _ _=>0) ⟨#[],args,[]⟩).Shaped Tryz.prog)
    (hok : Input.okWideB Tryz.prog ((World.laidAll Tryz.prog os laid).forCall (fun _ _=>0) ⟨#[],args,[]⟩) f ⟨#[],args,[]⟩ = true)
    (hrow : s.preRow enc Tryz.prog fn conds apart laid ((World.laidAll Tryz.prog os laid).forCall (fun _ _=>0) ⟨#[],args,[]⟩).memory args) :
    ∃ (w : World) (tape : Tape) (i : Input),w.os = os ∧ (w.forCall tape i).Shaped Tryz.prog ∧ i.vars = [] ∧ Input.okWide Tryz.prog (w.forCall tape i) .any w.heap.size f i ∧
      s.preRow enc Tryz.prog fn conds apart laid (w.forCall tape i).memory i.args ∧ ({} : Assume).holds Tryz.prog (lone (Frame.enter Tryz.prog f i.args .normal) [] (w.forCall tape i)):=
  ⟨World.laidAll Tryz.prog os laid,fun _ _=>0,⟨#[],args,[]⟩,World.laidAll_os _ _ _,hsh,(Input.okWide_of_okWideB (base:=0) hok).1,(Input.okWide_of_okWideB hok).2,hrow,by simp [Assume.holds]⟩
end Go.Proofs.YtakfmcpjnkagmaaGreatDoor.P
namespace Go.Proofs.YtakfmcpjnkagmaaGreatDoor.P
open Go.Proofs.YtakfmcpjnkagmaaGreatDoorUPoSp.PrintLast Go.Proofs.YtakfmcpjnkagmaaGreatDoorUPoSp.PrintMore Go.Proofs.YtakfmcpjnkagmaaGreatDoorUPoSp.PrintWords Go.RowKit
set_option linter.unusedVariables false
set_option linter.unusedSimpArgs false
section
attribute [local go_sem] max2_int min2_int max_two min_two max_three min_three max_four min_four
def spec_l1In.f (a0 : Int) (a1 : Int) (a2 : Int) : Option (Bool):=if a0 ≥ a1 then (some (decide (a0 ≤ a2))) else (some false)
set_option maxHeartbeats 8000000 in
set_option maxRecDepth 100000 in
theorem spec_l1In.calls (a0 : Int) (a1 : Int) (a2 : Int) (r : Bool) (w : World) (h : spec_l1In.f a0 a1 a2 = some r) :
  Calls Tryz.prog 71 #[.int .i64 a0,.int .i64 a1,.int .i64 a2] w fun e w'=>e = .returned (.bool r) ∧ Drawn0 w w':=by
 have H : (if a0 ≥ a1 then (some (decide (a0 ≤ a2))) else (some false)) = some r:=h
 clear h
 by_cases c4 : a0 ≥ a1
 ·rw [if_pos c4] at H
  have c4b0 : decide (a1 ≤ a0) = true:=decide_eq_true c4
  clear c4
  obtain rfl:=Option.some.inj H
  go_enter Tryz.func71,Tryz.ntmps71
  go_wp2
  go_ret
  exact ⟨by first | rfl | (simp;done) | (simp [*];done),by repeat (first | exact Drawn0.refl _ | apply Drawn0.step)⟩
 ·rw [if_neg c4] at H
  have c4b0 : decide (a1 ≤ a0) = false:=decide_eq_false c4
  clear c4
  obtain rfl:=Option.some.inj H
  go_enter Tryz.func71,Tryz.ntmps71
  go_wp2
  go_ret
  exact ⟨by first | rfl | (simp;done) | (simp [*];done),by repeat (first | exact Drawn0.refl _ | apply Drawn0.step)⟩
end
theorem bk {w W : World} {g : Nat} {o : Obj} (b : Aside0 (w.heap[g]? = some o)) (s : w.heap[g]? = some o → W.heap[g]? = some o:=by intro h;(with_reducible repeat (first | refine blk_drewN ?_ _ | refine blk_drew ?_ | refine blk_alloc ?_ _));exact h) : W.heap[g]? = some o:=s b.out
theorem bkL {w W : World} {g : Nat} {o : Obj} (b : Aside0 (w.heap[g]? = some o)) (s : w.heap[g]? = some o → W.heap[g]? = some o:=by intro h;(with_reducible repeat (first | refine blk_drewN ?_ _ | refine blk_drew ?_ | refine blk_alloc ?_ _));exact h) : g < W.heap.size:=blk_lt (s b.out)
theorem bkB {w W W' : World} {g : Nat} {o : Obj} (b : Aside0 (w.heap[g]? = some o)) (hb : Below W.heap.size W W') (s : w.heap[g]? = some o → W.heap[g]? = some o:=by intro h;(with_reducible repeat (first | refine blk_drewN ?_ _ | refine blk_drew ?_ | refine blk_alloc ?_ _));exact h) : Aside0 (W'.heap[g]? = some o):=⟨blk_below (s b.out) hb⟩
theorem bl {w W W' : World} {n : Nat} (b : Aside0 (Below n w W)) (s : Below n w W → Below n w W':=by intro h;repeat (first | (with_reducible first | exact h | apply below_alloc | apply pw_below_drewN | apply below_drew1 | refine below_set ?_ (Aside0.out (by with_reducible assumption))) | exact h)) : Below n w W':=s b.out
theorem rs {α : Type} {d : Kd α} {e : Nat} {w W : World} {base : Nat} {ok : Nat → Prop} {v : Value} {xs : List α} (b : Aside0 (Kd.R d e w base ok v xs)) (s : Kd.R d e w base ok v xs → Kd.R d e W base ok v xs:=by intro h;(with_reducible repeat (first | apply Kd.R_alloc | apply Kd.R_drewN | apply Kd.R_drew));exact h) : Kd.R d e W base ok v xs:=s b.out
class Up (w : outParam World) (W : World) : Prop where
  up : ∀ {g : Nat} {o : Obj},w.heap[g]? = some o → W.heap[g]? = some o
instance up_drew (w : World) : Up w w.drew:=⟨fun h=>blk_drew h⟩
instance up_drewN (w : World) (n : Nat) : Up w (w.drewN n):=⟨fun h=>blk_drewN h n⟩
instance up_alloc (w : World) (o : Obj) : Up w (w.alloc o):=⟨fun h=>blk_alloc h o⟩
theorem bu {w W : World} [u : Up w W] {g : Nat} {o : Obj} (h : w.heap[g]? = some o) : W.heap[g]? = some o:=u.up h
class UpR (w : outParam World) (W : World) : Prop where
  up : ∀ {α : Type} {d : Kd α} {e base : Nat} {ok : Nat → Prop} {v : Value} {xs : List α},Kd.R d e w base ok v xs → Kd.R d e W base ok v xs
instance upR_drew (w : World) : UpR w w.drew:=⟨fun h=>Kd.R_drew h⟩
instance upR_drewN (w : World) (n : Nat) : UpR w (w.drewN n):=⟨fun h=>Kd.R_drewN h n⟩
instance upR_alloc (w : World) (o : Obj) : UpR w (w.alloc o):=⟨fun h=>Kd.R_alloc h o⟩
theorem ru {w W : World} [u : UpR w W] {α : Type} {d : Kd α} {e base : Nat} {ok : Nat → Prop} {v : Value} {xs : List α} (h : Kd.R d e w base ok v xs) : Kd.R d e W base ok v xs:=u.up h
theorem farN {g b : Nat} {w W : World} {p : Addr} {v : Option Value} (h : b ≠ g) (e : w.cell? p = v) (hb : p.block = b:=by first | rfl | exact add_block _ _ | (simp [add_block];done))
    (s : ∀ x : Addr,x.block ≠ g → W.cell? x = w.cell? x:=by intro x hx;(with_reducible repeat refine (cell_far hx _).trans ?_);with_reducible rfl) : W.cell? p = v:=(s p (by rw [hb];exact h)).trans e
end Go.Proofs.YtakfmcpjnkagmaaGreatDoor.P
namespace Go.Proofs.YtakfmcpjnkagmaaGreatDoor.P
open Go.Proofs.YtakfmcpjnkagmaaGreatDoorUPoSp.PrintWords Go.Proofs.YtakfmcpjnkagmaaGreatDoorUPoSp.PrintLast Go.Proofs.YtakfmcpjnkagmaaGreatDoorUPoSp.PrintMore
set_option linter.unusedVariables false
open Go.RowKit
theorem am {p : Prop} (h : p) : Aside0 p:=⟨h⟩
theorem bse {α β : Type} {o : Option α} {f : α → Option β} {r : β} (h : o.bind f = some r) : ∃ t,Aside0 (o = some t) ∧ f t = some r:=by obtain ⟨t,a,b⟩:=Option.bind_eq_some_iff.mp h;exact ⟨t,⟨a⟩,b⟩
theorem bfz {w : World} {g : Nat} {t : TypeId} {cs : Array Value} (b : Aside0 (w.heap[g]? = some (.cells cs t (0,0)))) (i : Nat) : w.frozen? ⟨g,i,none⟩ = false:=blk_frozen b.out i
theorem bf_ {w W : World} {g : Nat} {o : Obj} (b : Aside0 (w.heap[g]? = some o)) (s : w.heap[g]? = some o → W.heap[g]? = some o:=by intro h;repeat (first | (with_reducible refine bu ?_) | (refine blk_far ?_ (Aside0.out (by with_reducible assumption)) _) | exact h)) : Aside0 (W.heap[g]? = some o):=⟨s b.out⟩
theorem rcx {α : Type} {d : Kd α} {e base c n : Nat} {ok : Nat → Prop} {w W : World} {A : Option Addr} {xs : List α} (b : Aside0 (d.R e w base ok (.slice A n c) xs)) (s : d.C w A xs.length xs → d.C W A xs.length xs:=by intro h;repeat (first | exact h | (with_reducible refine Kd.C_alloc ?_ _) | (with_reducible refine Kd.C_drewN ?_ _) | (with_reducible refine Kd.C_drew ?_))) : d.C W A xs.length xs:=s (Kd.R_reads' b.out).2.2
def bm (n k : Nat) : Array Bool:=((List.range n).map fun i=>k.testBit i).toArray
theorem fi_ {p : Prop} (h : p:=by first | rfl | (simp [errW_none,errW_some] <;> rfl) | (simp [*,errW_none,errW_some] <;> rfl)) : p:=h
theorem hr_ {p : Prop} (h : p:=by first | (go_simp;done) | (go_simp;rfl)) : p:=h
theorem gwE {w W W' : World} {g : Nat} (b : Aside0 (Below w.heap.size w W)) (hg : g = W'.heap.size) (s : Below w.heap.size w W → Below w.heap.size w W':=by intro h;repeat (first | (with_reducible first | exact h | apply below_alloc | apply pw_below_drewN | apply below_drew1 | refine below_set ?_ (Aside0.out (by with_reducible assumption))) | exact h)) : Aside0 (w.heap.size ≤ g):=⟨hg ▸ below_size (s b.out)⟩
theorem hbS {w W W' W2 : World} (b : Aside0 (Below w.heap.size w W)) (hb : Below W'.heap.size W' W2) (s : Below w.heap.size w W → Below w.heap.size w W':=by intro h;repeat (first | (with_reducible first | exact h | apply below_alloc | apply pw_below_drewN | apply below_drew1 | refine below_set ?_ (Aside0.out (by with_reducible assumption))) | exact h)) : Aside0 (Below w.heap.size w W2):=⟨below_step (s b.out) hb⟩
theorem neL {w W : World} {g g' : Nat} {o : Obj} (b : Aside0 (w.heap[g]? = some o)) (hg : g' = W.heap.size) (s : w.heap[g]? = some o → W.heap[g]? = some o:=by intro h;(with_reducible repeat (first | refine blk_drewN ?_ _ | refine blk_drew ?_ | refine blk_alloc ?_ _));exact h) : Aside0 (g ≠ g'):=⟨hg ▸ Nat.ne_of_lt (blk_lt (s b.out))⟩
theorem neG {w W : World} {g g' : Nat} {o : Obj} (b : Aside0 (w.heap[g]? = some o)) (hg : g' = W.heap.size) (s : w.heap[g]? = some o → W.heap[g]? = some o:=by intro h;(with_reducible repeat (first | refine blk_drewN ?_ _ | refine blk_drew ?_ | refine blk_alloc ?_ _));exact h) : Aside0 (g' ≠ g):=⟨hg ▸ Nat.ne_of_gt (blk_lt (s b.out))⟩
theorem bcell {w : World} {g : Nat} {cs : Array Value} {t : TypeId} (b : Aside0 (w.heap[g]? = some (.cells cs t (0,0)))) (i : Nat) {v : Value} (h : cs.toList[i]? = some v:=by exact rfl) : w.cell? ⟨g,i,none⟩ = some v:=(blk_cell b.out i).trans (by rw [← Array.getElem?_toList];exact h)
theorem gL {P : Program} {ops : Array Oper} {rest : List Oper} {Q : Exit → Act → World → Prop} {oi : Oper} {a : Act} {w : World} (N : Option Tmp) {f : FuncId} {fn : Func} {ar : Array Operand} {ts : Array TypeId} (hf : P.funcs[f]? = some fn) (args : Array Value)
    (h : Calls P f args w fun e w'=>∃ v,e = .returned v ∧ wpList P ops Q rest (a.put N v) w')
    (hd : oi.dst = N := by exact rfl) (hg : oi.guard = none := by exact rfl) (hname : (fn.name == "runtime.NumGoroutine") = false := by kernel_rfl) (hb : fn.body.isSome = true := by exact rfl)
    (hop : oi.op = .call { callee:=.value (.func f),args:=ar,argTypes:=ts }:=by exact rfl) (hargs : ar.map a.eval = args:=by (try simp only [List.map_toArray,List.map_cons,List.map_nil]);first | done | rfl | (simp only [List.length_drop,List.length_take];rfl)) :
    wpList P ops Q (oi :: rest) a w:=goesL_ N hd hg hf hname hb args hop hargs h
theorem gR {P : Program} {ops : Array Oper} {Q : Exit → Act → World → Prop} {oi : Oper} {N : Option Tmp} {a : Act} {w : World} {K : Act → World → Prop} {f : FuncId} {fn : Func} {ar : Array Operand} {ts : Array TypeId} (hf : P.funcs[f]? = some fn) (args : Array Value)
    (h : Calls P f args w fun e w'=>∃ v,e = .returned v ∧ K (a.put N v) w')
    (hname : (fn.name == "runtime.NumGoroutine") = false := by kernel_rfl) (hb : fn.body.isSome = true := by exact rfl) (hw : Region.wanted oi (yielded ops a.tmps) = true := by rfl) (hN : oi.dst = N := by exact rfl)
    (hop : oi.op = .call { callee:=.value (.func f),args:=ar,argTypes:=ts }:=by exact rfl) (hargs : ar.map a.eval = args:=by (try simp only [List.map_toArray,List.map_cons,List.map_nil]);first | done | rfl | (simp only [List.length_drop,List.length_take];rfl)) :
    if Region.wanted oi (yielded ops a.tmps) = true then Oper.wp P oi a w K Q else K (a.put N undef) w:=goes_ hf hname hb args hw hN hop hargs h
theorem bcl {w W : World} (b : Aside0 (Below w.heap.size w W)) {a : Addr} {v : Value} (h : w.cell? a = some v) : W.cell? a = some v:=(b.out.cell (World.block_lt_of_cell? w _ h)).trans h
theorem bch {w W : World} (b : Below w.heap.size w W) {a : Addr} {v : Value} (h : w.cell? a = some v) : W.cell? a = some v:=(b.cell (World.block_lt_of_cell? w _ h)).trans h
theorem da_ {p : Prop} (h : p:=by first | (with_reducible assumption) | assumption) : p:=h
theorem isE_ne (l : List UInt8) : l.isEmpty = !(l != []):=by cases l <;> rfl
theorem rs_ {p : Prop} (h : p:=by first | rfl | (simp;done) | (simp [*];done) | (simp;exact isE_ne _)) : p:=h
theorem ok_ {p q : Nat → Prop} (h : ∀ k,p k → q k:=by intro k hk;first | exact hk | trivial | (simp only [hk,ne_eq,not_false_eq_true,and_self])) : ∀ k,p k → q k:=h
section
variable {P : Program} {ops : Array Oper} {Q : Exit → Act → World → Prop} {md : Region.Mode} {S : World → Prop} {ds : List Nat} {oi : Oper} {v : Value} {fuel : Nat} {l : Array Bool} {a a' : Act} {w : World}
theorem pu_ (i : Nat) (N : Option Tmp) (l' : Array Bool) (h : wpAnyLast P md ops Q S ds fuel l' a' w) (hi : ops[i]? = some oi:=by exact rfl) (hN : oi.dst = N:=by exact rfl)
    (hc : anyB md ops l l' i = true:=by first | exact any_of HT_.out (by kernel_rfl) | kernel_rfl) (hQ : ∀ c a w,Q (.panic c) (a.put oi.dst v) w → Q (.panic c) a w:=by exact fun _ _ _ h=>h)
    (hy : Yields P ops oi v a:=by (refine Or.inl ⟨by rfl,?_⟩;intro w';go_simp;with_reducible rfl)) (ha : a.put N v = a':=by (simp only [Act.put,List.setIfInBounds_toArray,List.set_cons_zero,List.set_cons_succ,i64_w,i32_w];rfl)) :
    wpAnyLast P md ops Q S ds (fuel + 1) l a w:=pure_ l' hi hN hc hQ hy ha h
theorem pv_ (i : Nat) (N : Option Tmp) (l' : Array Bool) (h : wpAnyLast P md ops Q S ds fuel l' a' w) (hi : ops[i]? = some oi:=by exact rfl) (hN : oi.dst = N:=by exact rfl)
    (hc : anyB md ops l l' i = true:=by first | exact any_of HT_.out (by kernel_rfl) | kernel_rfl) (hQ : ∀ c a w,Q (.panic c) (a.put oi.dst undef) w → Q (.panic c) a w:=by exact fun _ _ _ h=>h)
    (hy : Yields P ops oi undef a:=by exact Or.inr ⟨by rfl,rfl⟩) (ha : a.put N undef = a':=by (simp only [Act.put,List.setIfInBounds_toArray,List.set_cons_zero,List.set_cons_succ,i64_w,i32_w];rfl)) :
    wpAnyLast P md ops Q S ds (fuel + 1) l a w:=pure_ l' hi hN hc hQ hy ha h
theorem tk_ (i : Nat) (N : Option Tmp) (l' : Array Bool) (hi : ops[i]? = some oi) (hy : YieldsIf P ops S oi v a) (h : wpAnyLast P md ops Q S ds fuel l' a' w) (hN : oi.dst = N:=by exact rfl)
    (hc : takeB md ops ds l l' i = true:=by first | exact take_ofW HT_.out HW_.out (by kernel_rfl) | kernel_rfl) (hQ : ∀ c a w,Q (.panic c) (a.put oi.dst v) w → Q (.panic c) a w:=by exact fun _ _ _ h=>h)
    (hS : S w:=by exact hHeld) (ha : a.put N v = a':=by (simp only [Act.put,List.setIfInBounds_toArray,List.set_cons_zero,List.set_cons_succ,i64_w,i32_w];rfl)) :
    wpAnyLast P md ops Q S ds (fuel + 1) l a w:=take_ l' hi hN hc hQ hy hS ha h
theorem nm_ (h : wpAnyLast P md ops Q S ds fuel l a' w) (ha : a = a':=by (show Act.put _ (some _) _ = _;simp only [Act.put,List.setIfInBounds_toArray,List.set_cons_zero,List.set_cons_succ,i64_w,i32_w];rfl)) : wpAnyLast P md ops Q S ds fuel l a w:=norm_ ha h
theorem on_ (i : Nat) (N : Option Tmp) (l' : Array Bool)
    (h : ∀ K : Act → World → Prop,Shut (∀ a' w',S w' → (S w' → wpAnyLast P md ops Q S ds fuel l' a' w') → K a' w') → if Region.wanted oi (yielded ops a.tmps) = true then Oper.wp P oi a w K Q else K (a.put N undef) w)
    (hi : ops[i]? = some oi:=by exact rfl) (hN : oi.dst = N:=by exact rfl) (hc : readyB md ops l l' i = true:=by exact one_of HT_.out (by kernel_rfl)) (hd : i ∉ ds:=by decide) :
    wpAnyLast P md ops Q S ds (fuel + 1) l a w:=one_ l' hi hN hc hd h
end
theorem m0_ {p : Prop} (h : p:=by repeat (first | (with_reducible first | exact HB.out | apply below_alloc | apply pw_below_drewN | apply below_drew1) | exact HB.out)) : p:=h
theorem m1_ {p : Prop} (h : p:=by repeat (first | exact HR0.out | (with_reducible refine Kd.C_alloc ?_ _) | (with_reducible refine Kd.C_drewN ?_ _) | (with_reducible refine Kd.C_drew ?_))) : p:=h
theorem m2_ {p : Prop} (h : p:=by repeat (first | (with_reducible first | exact HB.out | apply below_alloc | apply pw_below_drewN | apply below_drew1 | refine below_set ?_ (Aside0.out (by with_reducible assumption))) | exact HB.out)) : p:=h
theorem m3_ {p : Prop} (h : p:=by repeat (first | exact (Kd.C_below HR0_0.out HB.out) | (with_reducible refine Kd.C_alloc ?_ _) | (with_reducible refine Kd.C_drewN ?_ _) | (with_reducible refine Kd.C_drew ?_))) : p:=h
theorem m4_ {p : Prop} (h : p:=by (rintro w' ⟨s0,s1⟩;go_simp;with_reducible rfl)) : p:=h
theorem m5_ {p : Prop} (h : p:=by repeat (first | (with_reducible first | exact HK.out | apply Kept.alloc | apply Kept.drewN | apply Kept.drew) | exact HK.out)) : p:=h
theorem m6_ {p : Prop} (h : p:=by repeat (first | (with_reducible first | exact HK.out | apply Kept.alloc | apply Kept.drewN | apply Kept.drew | refine Kept.setCell (w:=w) ?_ (.inr (Aside0.out (by with_reducible assumption))) _) | exact HK.out)) : p:=h
theorem m7_ {p : Prop} (h : p:=by (rintro w' ⟨s0,s1,s2⟩;go_simp;with_reducible rfl)) : p:=h
theorem m8_ {p : Prop} (h : p:=by repeat (first | (with_reducible first | exact HI0.out | apply IsS102.alloc | apply IsS102.drewN | apply IsS102.drew | apply IsS102.set_1) | exact HI0.out)) : p:=h
theorem m9_ {p : Prop} (h : p:=by repeat (first | (with_reducible first | exact HB.out | apply below_alloc | apply pw_below_drewN | apply below_drew1 | refine below_set ?_ (IsS102.ge HI0.out)) | exact HB.out)) : p:=h
theorem m10_ {p : Prop} (h : p:=by repeat (first | (with_reducible first | exact HK.out | apply KeepBut.set_ | apply keep_drewN | apply keep_drew | apply keep_alloc) | exact HK.out)) : p:=h
theorem m13_ {p : Prop} (h : p:=by repeat (first | exact (Kd.C_below HR0.out HB.out) | (with_reducible refine Kd.C_alloc ?_ _) | (with_reducible refine Kd.C_drewN ?_ _) | (with_reducible refine Kd.C_drew ?_))) : p:=h
theorem m14_ {p : Prop} (h : p:=by repeat (first | exact (Kd.C_below HR115.out HB.out) | (with_reducible refine Kd.C_alloc ?_ _) | (with_reducible refine Kd.C_drewN ?_ _) | (with_reducible refine Kd.C_drew ?_))) : p:=h
theorem m15_ {p : Prop} (h : p:=by (rintro w' ⟨s0,s1,s2,s3,s4⟩;go_simp;with_reducible rfl)) : p:=h
theorem m18_ {p : Prop} (h : p:=by (rintro w' ⟨s0,s1,s2,s3⟩;go_simp;with_reducible rfl)) : p:=h
theorem m22_ {p : Prop} (h : p:=by repeat (first | exact (Kd.C_below HR294.out HB.out) | (with_reducible refine Kd.C_alloc ?_ _) | (with_reducible refine Kd.C_drewN ?_ _) | (with_reducible refine Kd.C_drew ?_))) : p:=h
theorem m23_ {p : Prop} (h : p:=by repeat (first | (with_reducible first | exact HBW.out | apply below_alloc | apply pw_below_drewN | apply below_drew1) | exact HBW.out)) : p:=h
theorem m24_ {p : Prop} (h : p:=by repeat (first | (with_reducible first | exact HBW.out | apply below_alloc | apply pw_below_drewN | apply below_drew1 | refine below_set ?_ (Aside0.out (by with_reducible assumption))) | exact HBW.out)) : p:=h
theorem m25_ {p : Prop} (h : p:=by repeat (first | (with_reducible first | exact HB.out | apply below_alloc | apply pw_below_drewN | apply below_drew1 | refine below_set ?_ (IsS102.ge HI0.out) | refine below_set ?_ (Aside0.out (by with_reducible assumption))) | exact HB.out)) : p:=h
theorem m26_ {p : Prop} (h : p:=by repeat (first | (with_reducible first | exact HK.out | apply KeepBut.set_ | apply keep_drewN | apply keep_drew | apply keep_alloc | refine keep_far (w:=w) ?_ (Aside0.out (by with_reducible assumption)) _) | exact HK.out)) : p:=h
theorem m27_ {p : Prop} (h : p:=by repeat (first | (with_reducible first | exact HI0.out | apply IsS102.alloc | apply IsS102.drewN | apply IsS102.drew | apply IsS102.set_1 | refine IsS102.far ?_ (Aside0.out (by with_reducible assumption)) _) | exact HI0.out)) : p:=h
theorem m31_ {p : Prop} (h : p:=by repeat (first | (with_reducible first | exact HI682.out | apply IsS102.alloc | apply IsS102.drewN | apply IsS102.drew | apply IsS102.set_1 | refine IsS102.far ?_ (Aside0.out (by with_reducible assumption)) _) | exact HI682.out)) : p:=h
theorem m32_ {p : Prop} (h : p:=by repeat (first | (with_reducible first | exact HB.out | apply below_alloc | apply pw_below_drewN | apply below_drew1 | refine below_set ?_ (IsS102.ge HI682.out) | refine below_set ?_ (Aside0.out (by with_reducible assumption))) | exact HB.out)) : p:=h
theorem gC {P : Program} {ops : Array Oper} {Q : Exit → Act → World → Prop} {o : Oper} {rest : List Oper} {a : Act} {W : World} (f : FuncId) {aa : Array Operand} {ts : Array TypeId} (_ho : o.op = .call { callee:=.value (.func f),args:=aa,argTypes:=ts }) (h : wpList P ops Q (o :: rest) a W) : wpList P ops Q (o :: rest) a W:=h
theorem gD {P : Program} {ops : Array Oper} {Q : Exit → Act → World → Prop} {o : Oper} {rest : List Oper} {a : Act} {W : World} (N : Tmp) (_hN : o.dst = some N) (h : wpList P ops Q (o :: rest) a W) : wpList P ops Q (o :: rest) a W:=h
theorem fr_ {p : Prop} (h : p:=by first | rfl | (simp;done) | (simp [*];done)) : p:=h
theorem dn_ {v w : World} (h : Drawn0 v w:=by repeat (first | exact Drawn0.refl _ | apply Drawn0.step)) : Drawn0 v w:=h
end Go.Proofs.YtakfmcpjnkagmaaGreatDoor.P
namespace Go.Proofs.YtakfmcpjnkagmaaGreatDoor.P
open Go.Proofs.YtakfmcpjnkagmaaGreatDoorUPoSp.PrintLast Go.Proofs.YtakfmcpjnkagmaaGreatDoorUPoSp.PrintMore Go.Proofs.YtakfmcpjnkagmaaGreatDoorUPoSp.PrintWords Go.RowKit
set_option linter.unusedVariables false
set_option linter.unusedSimpArgs false
section
attribute [local go_sem] max2_int min2_int max_two min_two max_three min_three max_four min_four
def spec_EndInside.f (a0_0 : Int) (a0_1 : Int) : Option (Bool):=(spec_l1In.f a0_0 1 9).bind fun t104=>(if t104 = true then ((spec_l1In.f a0_1 1 999).bind fun t105=>(some t105)) else (some false))
set_option maxHeartbeats 8000000 in
set_option maxRecDepth 100000 in
theorem spec_EndInside.calls (a0_0 : Int) (a0_1 : Int) (r : Bool) (w : World) (h : spec_EndInside.f a0_0 a0_1 = some r) :
  Calls Tryz.prog 46 #[.agg #[.int .i64 a0_0,.int .i64 a0_1]] w fun e w'=>e = .returned (.bool r) ∧ Below w.heap.size w w':=by
 have hu55:=Tryz.underlying55
 have HB:=am (Below.refl w.heap.size w)
 have H : ((spec_l1In.f a0_0 1 9).bind fun t104=>(if t104 = true then ((spec_l1In.f a0_1 1 999).bind fun t105=>(some t105)) else (some false))) = some r:=h
 clear h
 obtain ⟨t104,A2,H⟩:=bse H
 try dsimp only at H
 by_cases c3 : t104 = true
 ·subst c3
  have H1 : ((spec_l1In.f a0_1 1 999).bind fun t105=>(some t105)) = some r:=by rw [if_pos rfl] at H;exact H
  clear H
  have H:=H1
  clear H1
  obtain ⟨t105,A4,H⟩:=bse H
  try dsimp only at H
  obtain rfl:=Option.some.inj H
  go_enter Tryz.func46,Tryz.ntmps46
  go_wp2_with (first | ((with_reducible refine gD 1 rfl ?_);refine box_event rfl (N:=1) rfl (cs:=#[.int .i64 a0_0,.int .i64 a0_1]) (t:=55) hr_ ?_;intro gb103 hg w5 hbox hb;have BK103:=am hbox;have GW103:=gwE HB hg;have GE103:=gwE HB hg;replace HB:=hbS HB hb;clear hb hbox hg;have:=bcell BK103 0;have:=bcell BK103 1;have:=bfz BK103 0;have:=bfz BK103 1) | ((with_reducible refine gC 71 rfl ?_);refine gL (some 5) Tryz.func71 #[.int .i64 a0_0,.int .i64 1,.int .i64 9] ?_;(with_reducible refine (spec_l1In.calls a0_0 1 9 true _ A2.out).mono ?_);rintro e w' ⟨rfl,⟨nd,rfl⟩⟩;refine ⟨_,rfl,?_⟩) | (go_at_call 71;(with_reducible refine (spec_l1In.calls a0_1 1 999 t105 _ A4.out).mono ?_);rintro e w' ⟨rfl,⟨nd,rfl⟩⟩))
  go_ret
  exact ⟨fi_,m2_⟩
 ·replace c3:=Bool.eq_false_iff.mpr c3
  subst c3
  have H1 : (some false) = some r:=by rw [if_neg (show ¬ (false = true) by decide)] at H;exact H
  clear H
  have H:=H1
  clear H1
  obtain rfl:=Option.some.inj H
  go_enter Tryz.func46,Tryz.ntmps46
  go_wp2_with (first | ((with_reducible refine gD 1 rfl ?_);refine box_event rfl (N:=1) rfl (cs:=#[.int .i64 a0_0,.int .i64 a0_1]) (t:=55) hr_ ?_;intro gb103 hg w7 hbox hb;have BK103:=am hbox;have GW103:=gwE HB hg;have GE103:=gwE HB hg;replace HB:=hbS HB hb;clear hb hbox hg;have:=bcell BK103 0;have:=bcell BK103 1;have:=bfz BK103 0;have:=bfz BK103 1) | ((with_reducible refine gC 71 rfl ?_);refine gL (some 5) Tryz.func71 #[.int .i64 a0_0,.int .i64 1,.int .i64 9] ?_;(with_reducible refine (spec_l1In.calls a0_0 1 9 false _ A2.out).mono ?_);rintro e w' ⟨rfl,⟨nd,rfl⟩⟩;refine ⟨_,rfl,?_⟩))
  go_ret
  exact ⟨fi_,m2_⟩
theorem eqA50 (d : Nat) (w : World) (x0 y0 : Int) (x1 y1 : Int) (x2 y2 : Int) (x3 y3 : Int) (x4 y4 : Bool) :
  (Op.equalIn (d + 2) 50 (.agg #[.int .i64 x0,.int .i64 x1,.int .i64 x2,.int .i64 x3,.bool x4]) (.agg #[.int .i64 y0,.int .i64 y1,.int .i64 y2,.int .i64 y3,.bool y4])).run Tryz.prog w = .ok (x0 == y0 && (x1 == y1 && (x2 == y2 && (x3 == y3 && (x4 == y4))))) w:=by
 refine eqA_of Tryz.underlying50 (by kernel_rfl) ?_
 refine eqf_cons (by rfl) (by go_simp;rfl) (by go_simp;rfl) (by go_simp) ?_
 refine eqf_cons (by rfl) (by go_simp;rfl) (by go_simp;rfl) (by go_simp) ?_
 refine eqf_cons (by rfl) (by go_simp;rfl) (by go_simp;rfl) (by go_simp) ?_
 refine eqf_cons (by rfl) (by go_simp;rfl) (by go_simp;rfl) (by go_simp) ?_
 exact eqf_last (by rfl) (by go_simp;rfl) (by go_simp;rfl) (by go_simp)
theorem eqA55 (d : Nat) (w : World) (x0 y0 : Int) (x1 y1 : Int) :
  (Op.equalIn (d + 2) 55 (.agg #[.int .i64 x0,.int .i64 x1]) (.agg #[.int .i64 y0,.int .i64 y1])).run Tryz.prog w = .ok (x0 == y0 && (x1 == y1)) w:=by
 refine eqA_of Tryz.underlying55 (by kernel_rfl) ?_
 refine eqf_cons (by rfl) (by go_simp;rfl) (by go_simp;rfl) (by go_simp) ?_
 exact eqf_last (by rfl) (by go_simp;rfl) (by go_simp;rfl) (by go_simp)
end
section
attribute [local go_sem] max2_int min2_int max_two min_two max_three min_three max_four min_four
attribute [local go_sem high] eqA55
def spec_l3Find.l0 : Nat → Int → List (S55) → Int → Int → Option (Int)
 | 0,_,_,_,_=>none
 | k + 1,x5,x107000,x108000,x108001=>if x5 < (x107000.length : Int) then (if 0 ≤ x5 then (if (((rd_T55 x107000 x5).f0) == x108000 && (((rd_T55 x107000 x5).f1) == x108001)) = true then (some x5) else (spec_l3Find.l0 k (wrap64 (x5 + 1)) x107000 x108000 x108001)) else (none)) else (some (-1))
def spec_l3Find.f (k : Nat) (l0_0 : List (S55)) (a1_0 : Int) (a1_1 : Int) : Option (Int):=spec_l3Find.l0 k 0 l0_0 a1_0 a1_1
theorem spec_l3Find.mono_l : ∀ k,(∀ y0 y1 y2 y3,LeO (spec_l3Find.l0 k y0 y1 y2 y3) (spec_l3Find.l0 (k + 1) y0 y1 y2 y3))
 | 0=>fun _ _ _ _ r h=>by simp [spec_l3Find.l0] at h
 | k + 1=>by
  have ih0:=spec_l3Find.mono_l k
  ·intro y0 y1 y2 y3
   unfold spec_l3Find.l0
   repeat' first | (with_reducible first | exact ih0 _ _ _ _ | exact LeO.refl _ | exact LeO.none _ | refine LeO.ite ?_ ?_ | refine LeO.bind ?_ (fun _=>?_)) | exact ih0 _ _ _ _ | exact LeO.none _ | refine LeO.ite ?_ ?_ | refine LeO.bind ?_ (fun _=>?_)
theorem spec_l3Find.mono : ∀ a0 a1 a2 k,LeO (spec_l3Find.f k a0 a1 a2) (spec_l3Find.f (k + 1) a0 a1 a2):=by
 intro a0 a1 a2 k
 have ih0:=spec_l3Find.mono_l k
 unfold spec_l3Find.f
 repeat' first | (with_reducible first | exact ih0 _ _ _ _ | exact LeO.refl _ | exact LeO.none _ | refine LeO.ite ?_ ?_ | refine LeO.bind ?_ (fun _=>?_)) | exact ih0 _ _ _ _ | exact LeO.none _ | refine LeO.ite ?_ ?_ | refine LeO.bind ?_ (fun _=>?_)
set_option maxHeartbeats 8000000 in
set_option maxRecDepth 100000 in
theorem spec_l3Find.calls (k : Nat) (A0_0 : Option Addr) (c0_0 : Nat) (l0_0 : List (S55)) (a1_0 : Int) (a1_1 : Int) (r : Int) (w : World) (hr0_0 : Kd.C k55 w A0_0 l0_0.length l0_0) (hc0_0 : l0_0.length ≤ c0_0) (h : spec_l3Find.f k l0_0 a1_0 a1_1 = some r) :
  Calls Tryz.prog 47 #[.agg #[.slice A0_0 l0_0.length c0_0],.agg #[.int .i64 a1_0,.int .i64 a1_1]] w fun e w'=>e = .returned (.int .i64 r) ∧ Below w.heap.size w w':=by
 have hu29:=Tryz.underlying29
 have hu55:=Tryz.underlying55
 have HR0_0:=am hr0_0
 have HC0_0:=am hc0_0
 clear hr0_0 hc0_0
 have HB:=am (Below.refl w.heap.size w)
 have H : (spec_l3Find.l0 k 0 l0_0 a1_0 a1_1) = some r:=h
 clear h
 have H':=am H
 clear H
 go_enter Tryz.func47,Tryz.ntmps47
 iterate 4 ((try go_quiet (fail));(try go_wp2_with (first | ((with_reducible refine gD 2 rfl ?_);refine box_event rfl (N:=2) rfl (cs:=#[.slice A0_0 l0_0.length c0_0]) (t:=29) hr_ ?_;intro gb106 hg w3 hbox hb;have BK106:=am hbox;have GW106:=gwE HB hg;have GE106:=gwE HB hg;replace HB:=hbS HB hb;clear hb hbox hg) | ((with_reducible refine gD 3 rfl ?_);refine box_event rfl (N:=3) rfl (cs:=#[.int .i64 a1_0,.int .i64 a1_1]) (t:=55) hr_ ?_;intro gb107 hg w4 hbox hb;have BK107:=am hbox;have GW107:=gwE HB hg;have GE107:=gwE HB hg;replace HB:=hbS HB hb;have NB106_107:=neL BK106 hg;have NB107_106:=neG BK106 hg;replace BK106:=bkB BK106 hb;clear hb hbox hg))))
 go_loopg [5] k (fun kq v5 w'=>∃ (x5_1 : Int),v5 = .int .i64 x5_1 ∧ Aside0 (spec_l3Find.l0 kq x5_1 l0_0 a1_0 a1_1 = some r) ∧ Aside0 (kq ≤ k) ∧ Aside0 (w'.heap[gb106]? = some (.cells #[(.slice A0_0 l0_0.length c0_0)] 29 (0,0))) ∧ Aside0 (w'.heap[gb107]? = some (.cells #[.int .i64 a1_0,.int .i64 a1_1] 55 (0,0))) ∧ Aside0 (Below w.heap.size w w'))
 case atStart=>exact ⟨(0),rs_,H',⟨Nat.le_refl _⟩,⟨bk BK106⟩,⟨bk BK107⟩,⟨m2_⟩⟩
 case round=>
  clear H'
  try clear p2
  try clear c4
  obtain ⟨x5_1,rfl,HA,HK1,BK106,BK107,HB⟩:=hrel
  cases gk with
  | zero=>exact absurd HA.out (by simp [spec_l3Find.l0])
  | succ k1=>
   have H:=HA.out
   clear HA
   simp only [spec_l3Find.l0] at H
   by_cases c5 : x5_1 < (l0_0.length : Int)
   ·rw [if_pos c5] at H
    have c5b0 : decide (x5_1 < (l0_0.length : Int)) = true:=decide_eq_true c5
    clear c5
    by_cases c6 : 0 ≤ x5_1
    ·rw [if_pos c6] at H
     have c6b0 : decide (0 ≤ x5_1) = true:=decide_eq_true c6
     clear c6
     by_cases c7 : (((rd_T55 l0_0 x5_1).f0) == a1_0 && (((rd_T55 l0_0 x5_1).f1) == a1_1)) = true
     ·rw [if_pos c7] at H
      have c7b0 : (((rd_T55 l0_0 x5_1).f0) == a1_0 && (((rd_T55 l0_0 x5_1).f1) == a1_1)) = true:=c7
      (try (have c7b1 : decide (((rd_T55 l0_0 x5_1).f0) = a1_0 && (((rd_T55 l0_0 x5_1).f1) == a1_1)) = true:=by simpa using c7))
      (try (have c7b2 : (((rd_T55 l0_0 x5_1).f0) == a1_0 && (((rd_T55 l0_0 x5_1).f1) == a1_1)) = true:=by simpa using c7))
      clear c7
      obtain rfl:=Option.some.inj H
      have:=NB106_107.out
      have:=NB107_106.out
      have:=bcell BK106 0
      have:=bfz BK106 0
      have p108 : 0 ≤ (x5_1 : Int):=of_decide_eq_true da_
      have q108 : x5_1 < (l0_0.length : Int):=of_decide_eq_true da_
      obtain ⟨ad108,e108,hx108_0,hx108_1⟩:=at_T55 HR0_0.out x5_1 p108 q108
      cases e108
      replace hx108_0:=bcl HB hx108_0
      replace hx108_1:=bcl HB hx108_1
      replace p108:=eq_true p108
      replace q108:=eq_true q108
      have:=bcell BK107 0
      have:=bcell BK107 1
      have:=bfz BK107 0
      have:=bfz BK107 1
      go_wp2
      repeat (go_quiet (fail);try go_wp2)
      go_ret
      exact ⟨fi_,m2_⟩
     ·rw [if_neg c7] at H
      have c7b0 : (((rd_T55 l0_0 x5_1).f0) == a1_0 && (((rd_T55 l0_0 x5_1).f1) == a1_1)) = false:=by simpa using c7
      (try (have c7b1 : decide (((rd_T55 l0_0 x5_1).f0) = a1_0 && (((rd_T55 l0_0 x5_1).f1) == a1_1)) = false:=by simpa using c7))
      (try (have c7b2 : (((rd_T55 l0_0 x5_1).f0) == a1_0 && (((rd_T55 l0_0 x5_1).f1) == a1_1)) = false:=by simpa using c7))
      (try (have c7b3 : ¬ (((rd_T55 l0_0 x5_1).f0) = a1_0 && (((rd_T55 l0_0 x5_1).f1) == a1_1)):=by simpa using c7))
      clear c7
      have H':=am H
      clear H
      have:=NB106_107.out
      have:=NB107_106.out
      have:=bcell BK106 0
      have:=bfz BK106 0
      have p108 : 0 ≤ (x5_1 : Int):=of_decide_eq_true da_
      have q108 : x5_1 < (l0_0.length : Int):=of_decide_eq_true da_
      obtain ⟨ad108,e108,hx108_0,hx108_1⟩:=at_T55 HR0_0.out x5_1 p108 q108
      cases e108
      replace hx108_0:=bcl HB hx108_0
      replace hx108_1:=bcl HB hx108_1
      replace p108:=eq_true p108
      replace q108:=eq_true q108
      have:=bcell BK107 0
      have:=bcell BK107 1
      have:=bfz BK107 0
      have:=bfz BK107 1
      go_wp2
      repeat (go_quiet (fail);try go_wp2)
      go_roundg k1
      case measure=>have:=HK1.out;omega
      case rel=>exact ⟨(wrap64 (x5_1 + 1)),rs_,H',⟨by have:=HK1.out;omega⟩,⟨bk BK106⟩,⟨bk BK107⟩,⟨m2_⟩⟩
    ·rw [if_neg c6] at H
     exact absurd H (by simp)
   ·rw [if_neg c5] at H
    have c5b0 : decide (x5_1 < (l0_0.length : Int)) = false:=decide_eq_false c5
    clear c5
    obtain rfl:=Option.some.inj H
    have:=NB106_107.out
    have:=NB107_106.out
    have:=bcell BK106 0
    have:=bfz BK106 0
    go_wp2
    repeat (go_quiet (fail);try go_wp2)
    go_ret
    exact ⟨fi_,m2_⟩
end
section
attribute [local go_sem] max2_int min2_int max_two min_two max_three min_three max_four min_four
def spec_MapOk.l0 : Nat → Int → List (S55) → Option (Bool)
 | 0,_,_=>none
 | k + 1,x3,x110000=>if x3 < (x110000.length : Int) then (if 0 ≤ x3 then ((spec_EndInside.f ((rd_T55 x110000 x3).f0) ((rd_T55 x110000 x3).f1)).bind fun t111=>(if t111 = true then (if x3 ≤ (x110000.length : Int) then ((spec_l3Find.f k (x110000.take (x3 : Int).toNat) ((rd_T55 x110000 x3).f0) ((rd_T55 x110000 x3).f1)).bind fun t117=>(if t117 ≥ 0 then (some false) else (spec_MapOk.l0 k (wrap64 (x3 + 1)) x110000))) else (none)) else (some false))) else (none)) else (some true)
def spec_MapOk.f (k : Nat) (l0_0 : List (S55)) : Option (Bool):=if (l0_0.length : Int) > 6 then (some false) else (spec_MapOk.l0 k 0 l0_0)
theorem spec_MapOk.mono_l : ∀ k,(∀ y0 y1,LeO (spec_MapOk.l0 k y0 y1) (spec_MapOk.l0 (k + 1) y0 y1))
 | 0=>fun _ _ r h=>by simp [spec_MapOk.l0] at h
 | k + 1=>by
  have ih0:=spec_MapOk.mono_l k
  ·intro y0 y1
   unfold spec_MapOk.l0
   repeat' first | (with_reducible first | exact ih0 _ _ | exact spec_l3Find.mono _ _ _ _ | exact LeO.refl _ | exact LeO.none _ | refine LeO.ite ?_ ?_ | refine LeO.bind ?_ (fun _=>?_)) | exact ih0 _ _ | exact spec_l3Find.mono _ _ _ _ | exact LeO.none _ | refine LeO.ite ?_ ?_ | refine LeO.bind ?_ (fun _=>?_)
theorem spec_MapOk.mono : ∀ a0 k,LeO (spec_MapOk.f k a0) (spec_MapOk.f (k + 1) a0):=by
 intro a0 k
 have ih0:=spec_MapOk.mono_l k
 unfold spec_MapOk.f
 repeat' first | (with_reducible first | exact ih0 _ _ | exact spec_l3Find.mono _ _ _ _ | exact LeO.refl _ | exact LeO.none _ | refine LeO.ite ?_ ?_ | refine LeO.bind ?_ (fun _=>?_)) | exact ih0 _ _ | exact spec_l3Find.mono _ _ _ _ | exact LeO.none _ | refine LeO.ite ?_ ?_ | refine LeO.bind ?_ (fun _=>?_)
def spec_MapOk.T6 : Bool × List (List Nat × List Nat):=(true,[([],[]),([0],[0]),([],[]),([1,2],[1,2]),([3],[3]),([4],[4]),([5],[5]),([6,5],[6]),([7],[7]),([8,7],[7,8]),([7],[7]),([9,10,7],[7,9,10]),([11,7],[7,11]),([7],[7]),([13,7],[7,13]),([7],[7]),([14,15,7],[7,14,15]),([16,7],[7,16]),([12,17,7,7],[7,12,17]),([18,7],[7,18]),([7,19],[7,19])])
def spec_MapOk.B6 : List Nat:=[0,1,0,7,15,31,63,127,255,511,255,2047,4095,255,8447,255,57599,123135,262143,524287,1048575]
theorem spec_MapOk.tab6 : rtab .any (opsOf Tryz.f26 6) = spec_MapOk.T6:=by kernel_rfl
theorem spec_MapOk.bits6 : waitsOk spec_MapOk.T6.2 spec_MapOk.B6 = true:=by kernel_rfl
set_option maxHeartbeats 8000000 in
set_option maxRecDepth 100000 in
theorem spec_MapOk.calls (k : Nat) (A0_0 : Option Addr) (c0_0 : Nat) (l0_0 : List (S55)) (r : Bool) (w : World) (hr0_0 : Kd.C k55 w A0_0 l0_0.length l0_0) (hc0_0 : l0_0.length ≤ c0_0) (h : spec_MapOk.f k l0_0 = some r) :
  Calls Tryz.prog 26 #[.agg #[.slice A0_0 l0_0.length c0_0]] w fun e w'=>e = .returned (.bool r) ∧ Below w.heap.size w w':=by
 have hu29:=Tryz.underlying29
 have hu55:=Tryz.underlying55
 have HR0_0:=am hr0_0
 have HC0_0:=am hc0_0
 clear hr0_0 hc0_0
 have HB:=am (Below.refl w.heap.size w)
 have H : (if (l0_0.length : Int) > 6 then (some false) else (spec_MapOk.l0 k 0 l0_0)) = some r:=h
 clear h
 by_cases c2 : (l0_0.length : Int) > 6
 ·rw [if_pos c2] at H
  have c2b0 : decide (6 < (l0_0.length : Int)) = true:=decide_eq_true c2
  have c2b1 : decide (6 < l0_0.length) = true:=decide_eq_true (by omega)
  clear c2
  obtain rfl:=Option.some.inj H
  go_enter Tryz.func26,Tryz.ntmps26
  go_wp2_with (first | ((with_reducible refine gD 1 rfl ?_);refine box_event rfl (N:=1) rfl (cs:=#[.slice A0_0 l0_0.length c0_0]) (t:=29) hr_ ?_;intro gb109 hg w3 hbox hb;have BK109:=am hbox;have GW109:=gwE HB hg;have GE109:=gwE HB hg;replace HB:=hbS HB hb;clear hb hbox hg;have hcz4_0:=bcell BK109 0;have hfz4_0:=blk_frozen BK109.out 0))
  go_ret
  exact ⟨fi_,m2_⟩
 ·rw [if_neg c2] at H
  have c2b0 : decide (6 < (l0_0.length : Int)) = false:=decide_eq_false c2
  have c2b1 : decide (6 < l0_0.length) = false:=decide_eq_false (by omega)
  clear c2
  have H':=am H
  clear H
  go_enter Tryz.func26,Tryz.ntmps26
  go_wp2_with (first | ((with_reducible refine gD 1 rfl ?_);refine box_event rfl (N:=1) rfl (cs:=#[.slice A0_0 l0_0.length c0_0]) (t:=29) hr_ ?_;intro gb109 hg w5 hbox hb;have BK109:=am hbox;have GW109:=gwE HB hg;have GE109:=gwE HB hg;replace HB:=hbS HB hb;clear hb hbox hg;have hcz6_0:=bcell BK109 0;have hfz6_0:=blk_frozen BK109.out 0))
  go_loopg [3] k (fun kq v3 w'=>∃ (x3_1 : Int),v3 = .int .i64 x3_1 ∧ Aside0 (spec_MapOk.l0 kq x3_1 l0_0 = some r) ∧ Aside0 (kq ≤ k) ∧ Aside0 (w'.heap[gb109]? = some (.cells #[(.slice A0_0 l0_0.length c0_0)] 29 (0,0))) ∧ Aside0 (Below w.heap.size w w'))
  case atStart=>exact ⟨(0),rs_,H',⟨Nat.le_refl _⟩,⟨bk BK109⟩,⟨m2_⟩⟩
  case round=>
   clear H'
   try clear c2
   try clear c2b0
   try clear c2b1
   try clear p2
   try clear hcz4_0
   try clear hcz6_0
   try clear hfz4_0
   try clear hfz6_0
   obtain ⟨x3_1,rfl,HA,HK1,BK109,HB⟩:=hrel
   cases gk with
   | zero=>exact absurd HA.out (by simp [spec_MapOk.l0])
   | succ k1=>
    have H:=HA.out
    clear HA
    simp only [spec_MapOk.l0] at H
    by_cases c7 : x3_1 < (l0_0.length : Int)
    ·rw [if_pos c7] at H
     have c7b0 : decide (x3_1 < (l0_0.length : Int)) = true:=decide_eq_true c7
     clear c7
     by_cases c8 : 0 ≤ x3_1
     ·rw [if_pos c8] at H
      have c8b0 : decide (0 ≤ x3_1) = true:=decide_eq_true c8
      clear c8
      obtain ⟨t111,A9,H⟩:=bse H
      try dsimp only at H
      by_cases c10 : t111 = true
      ·subst c10
       have H1 : (if x3_1 ≤ (l0_0.length : Int) then ((spec_l3Find.f k1 (l0_0.take (x3_1 : Int).toNat) ((rd_T55 l0_0 x3_1).f0) ((rd_T55 l0_0 x3_1).f1)).bind fun t117=>(if t117 ≥ 0 then (some false) else (spec_MapOk.l0 k1 (wrap64 (x3_1 + 1)) l0_0))) else (none)) = some r:=by rw [if_pos rfl] at H;exact H
       clear H
       have H:=H1
       clear H1
       have c11b0:=eq_true (of_decide_eq_true da_ : 0 ≤ x3_1)
       by_cases c12 : x3_1 ≤ (l0_0.length : Int)
       ·rw [if_pos c12] at H
        have c12b0:=eq_true c12
        have c12b1 : decide (x3_1 ≤ (l0_0.length : Int)) = true:=decide_eq_true c12
        clear c12
        obtain ⟨y112,hy112⟩ : ∃ y_ : List (S55),y_ = (l0_0.take (x3_1 : Int).toNat):=⟨_,rfl⟩
        replace H : ((spec_l3Find.f k1 y112 ((rd_T55 l0_0 x3_1).f0) ((rd_T55 l0_0 x3_1).f1)).bind fun t117=>(if t117 ≥ 0 then (some false) else (spec_MapOk.l0 k1 (wrap64 (x3_1 + 1)) l0_0))) = some r:=by first | (rw [hy112];with_reducible exact H) | (have H2_:=(Option.bind_some _ _).symm.trans H;rw [hy112];with_reducible exact H2_) | (have H2_:=(Option.bind_some _ _).symm.trans H;with_reducible exact H2_) | with_reducible exact H | (rw [hy112];exact H) | exact H
        have Ny112:=am hy112
        clear hy112
        obtain ⟨t117,A13,H⟩:=bse H
        try dsimp only at H
        by_cases c14 : t117 ≥ 0
        ·rw [if_pos c14] at H
         have c14b0 : decide (0 ≤ t117) = true:=decide_eq_true c14
         clear c14
         obtain rfl:=Option.some.inj H
         have:=bcell BK109 0
         have:=bfz BK109 0
         try go_wp2
         replace BK109:=am (blk_drew BK109.out)
         replace HB:=am (below_drew1 HB.out)
         have p110 : 0 ≤ (x3_1 : Int):=of_decide_eq_true da_
         have q110 : x3_1 < (l0_0.length : Int):=of_decide_eq_true da_
         obtain ⟨ad110,e110,hx110_0,hx110_1⟩:=at_T55 HR0_0.out x3_1 p110 q110
         have hw110_1:=hx110_1
         have hw110_0:=hx110_0
         cases e110
         replace hx110_0:=bcl HB hx110_0
         replace hx110_1:=bcl HB hx110_1
         replace p110:=eq_true p110
         replace q110:=eq_true q110
         have p116 : 0 ≤ (x3_1 : Int):=of_decide_eq_true da_
         have q116 : x3_1 < (l0_0.length : Int):=of_decide_eq_true da_
         obtain ⟨ad116,e116,hx116_0,hx116_1⟩:=at_T55 HR0_0.out x3_1 p116 q116
         have hw116_1:=hx116_1
         have hw116_0:=hx116_0
         obtain rfl : ad110 = ad116:=(by injection e116)
         replace hx116_0:=bcl HB hx116_0
         replace hx116_1:=bcl HB hx116_1
         replace p116:=eq_true p116
         replace q116:=eq_true q116
         refine start_ (n:=21) (S:=fun w'=>w'.cell? ⟨gb109,0,none⟩ = some (.slice (some ad110) l0_0.length c0_0) ∧ w'.cell? (ad110.add ((x3_1).toNat * 2)) = some (.int .i64 ((rd_T55 l0_0 x3_1).f0)) ∧ w'.cell? ⟨(ad110.add ((x3_1).toNat * 2)).block,(ad110.add ((x3_1).toNat * 2)).off + 1,none⟩ = some (.int .i64 ((rd_T55 l0_0 x3_1).f1)) ∧ w'.cell? (ad110.add ((x3_1).toNat * 2)) = some (.int .i64 ((rd_T55 l0_0 x3_1).f0)) ∧ w'.cell? ⟨(ad110.add ((x3_1).toNat * 2)).block,(ad110.add ((x3_1).toNat * 2)).off + 1,none⟩ = some (.int .i64 ((rd_T55 l0_0 x3_1).f1))) (ds:=[]) #[false,false,false,false,false,false,false,false,false,false,false,false,false,false,false,false,false,false,false,false,false] (by kernel_rfl) rfl rfl ⟨bcell BK109 0,(bcl HB hw110_0),(bcl HB hw110_1),(bcl HB hw116_0),(bcl HB hw116_1)⟩ (fun hHeld=>?_);refine with_tabW spec_MapOk.tab6 spec_MapOk.bits6 (fun HT_ HW_=>?_)
         generalize wr.drew = w16 at BK109 HB hx110_0 hx110_1 hx116_0 hx116_1 hHeld ⊢
         refine pu_ 0 (some 15) (bm 21 1) ?_
         refine pu_ 2 (some 17) (bm 21 5) ?_
         refine tk_ 1 (some 16) (bm 21 7) rfl (.inl ⟨rfl,m15_⟩) ?_
         refine pu_ 3 (some 18) (bm 21 15) ?_
         refine tk_ 4 (some 19) (bm 21 31) rfl (.inl ⟨rfl,m15_⟩) ?_
         refine on_ 5 (some 20) (bm 21 63) (fun K hK=>?_)
         refine gR Tryz.func46 #[.agg #[.int .i64 ((rd_T55 l0_0 x3_1).f0),.int .i64 ((rd_T55 l0_0 x3_1).f1)]] ?_
         with_reducible refine (spec_EndInside.calls ((rd_T55 l0_0 x3_1).f0) ((rd_T55 l0_0 x3_1).f1) true _ A9.out).mono ?_
         rintro e w17 ⟨rfl,hb⟩
         refine ⟨_,rfl,?_⟩
         replace BK109:=bkB BK109 hb
         replace HB:=hbS HB hb
         (try clear hb)
         (try clear hb2)
         (try clear hk)
         (try clear hi)
         have q18 : (x3_1 : Int) ≤ ((l0_0.length : Int) : Int):=of_decide_eq_true da_
         obtain ⟨i018,hi018,_,hsz18,_⟩:=info_parts info55
         have hroom18 : l0_0.length ≤ c0_0:=HC0_0.out
         have hC18 : Kd.C k55 _ (some ad110) l0_0.length l0_0:=HR0_0.out
         have hcut18:=cut_to (P:=Tryz.prog) 27 55 .i64 Tryz.underlying27 hi018 (some ad110) l0_0.length c0_0 x3_1 (of_decide_eq_true da_) q18 hroom18
         have hr18:=Kd.C_take (m:=(x3_1 : Int).toNat) hC18 (by omega)
         have hy18 : y112.length = (x3_1 : Int).toNat:=(by rw [Ny112.out,List.length_take];omega)
         rw [← Ny112.out] at hr18
         rw [← hy18] at hcut18
         have HR115:=am hr18
         have HC115:=am (show y112.length ≤ c0_0 from by omega)
         clear hr18 hC18 hroom18 hi018 hsz18
         have KY18:=am hy18
         clear hy18
         replace q18:=eq_true q18
         refine hK.out _ _ ⟨bcell BK109 0,(bcl HB hw110_0),(bcl HB hw110_1),(bcl HB hw116_0),(bcl HB hw116_1)⟩ (fun hHeld=>?_)
         clear hK K
         refine nm_ ?_
         refine pu_ 6 (some 21) (bm 21 127) ?_
         refine pu_ 7 (some 22) (bm 21 255) ?_
         refine pu_ 8 (some 23) (bm 21 511) ?_
         refine pu_ 10 (some 25) (bm 21 1535) ?_
         refine pu_ 13 (some 28) (bm 21 9727) ?_
         refine pu_ 15 (some 30) (bm 21 42495) ?_
         refine tk_ 9 (some 24) (bm 21 43007) rfl (.inl ⟨rfl,m15_⟩) ?_
         refine pu_ 11 (some 26) (bm 21 45055) ?_
         refine pu_ 12 (some 27) (bm 21 49151) ?_
         refine tk_ 14 (some 29) (bm 21 65535) rfl (.inl ⟨rfl,m15_⟩) ?_
         refine pu_ 16 (some 31) (bm 21 131071) ?_
         refine tk_ 17 (some 32) (bm 21 262143) rfl (.inl ⟨rfl,m15_⟩) ?_
         refine on_ 18 (some 33) (bm 21 524287) (fun K hK=>?_)
         refine gR Tryz.func47 #[.agg #[.slice (some ad110) y112.length c0_0],.agg #[.int .i64 ((rd_T55 l0_0 x3_1).f0),.int .i64 ((rd_T55 l0_0 x3_1).f1)]] ?_
         with_reducible refine (spec_l3Find.calls k1 _ _ y112 ((rd_T55 l0_0 x3_1).f0) ((rd_T55 l0_0 x3_1).f1) t117 _ ?side1 ?side2 A13.out).mono ?_
         (case side1=>exact m14_)
         (case side2=>exact HC115.out)
         rintro e w19 ⟨rfl,hb⟩
         refine ⟨_,rfl,?_⟩
         replace BK109:=bkB BK109 hb
         replace HB:=hbS HB hb
         (try clear hb)
         (try clear hb2)
         (try clear hk)
         (try clear hi)
         refine hK.out _ _ ⟨bcell BK109 0,(bcl HB hw110_0),(bcl HB hw110_1),(bcl HB hw116_0),(bcl HB hw116_1)⟩ (fun hHeld=>?_)
         clear hK K
         refine nm_ ?_
         refine pu_ 19 (some 34) (bm 21 1048575) ?_
         refine pu_ 20 (some 35) (bm 21 2097151) ?_
         refine done_ (done_of HT_.out (by kernel_rfl)) ?_
         try go_wp2
         go_ret
         exact ⟨fi_,m2_⟩
        ·rw [if_neg c14] at H
         have c14b0 : decide (0 ≤ t117) = false:=decide_eq_false c14
         clear c14
         have H':=am H
         clear H
         have:=bcell BK109 0
         have:=bfz BK109 0
         try go_wp2
         replace BK109:=am (blk_drew BK109.out)
         replace HB:=am (below_drew1 HB.out)
         have p110 : 0 ≤ (x3_1 : Int):=of_decide_eq_true da_
         have q110 : x3_1 < (l0_0.length : Int):=of_decide_eq_true da_
         obtain ⟨ad110,e110,hx110_0,hx110_1⟩:=at_T55 HR0_0.out x3_1 p110 q110
         have hw110_1:=hx110_1
         have hw110_0:=hx110_0
         cases e110
         replace hx110_0:=bcl HB hx110_0
         replace hx110_1:=bcl HB hx110_1
         replace p110:=eq_true p110
         replace q110:=eq_true q110
         have p116 : 0 ≤ (x3_1 : Int):=of_decide_eq_true da_
         have q116 : x3_1 < (l0_0.length : Int):=of_decide_eq_true da_
         obtain ⟨ad116,e116,hx116_0,hx116_1⟩:=at_T55 HR0_0.out x3_1 p116 q116
         have hw116_1:=hx116_1
         have hw116_0:=hx116_0
         obtain rfl : ad110 = ad116:=(by injection e116)
         replace hx116_0:=bcl HB hx116_0
         replace hx116_1:=bcl HB hx116_1
         replace p116:=eq_true p116
         replace q116:=eq_true q116
         refine start_ (n:=21) (S:=fun w'=>w'.cell? ⟨gb109,0,none⟩ = some (.slice (some ad110) l0_0.length c0_0) ∧ w'.cell? (ad110.add ((x3_1).toNat * 2)) = some (.int .i64 ((rd_T55 l0_0 x3_1).f0)) ∧ w'.cell? ⟨(ad110.add ((x3_1).toNat * 2)).block,(ad110.add ((x3_1).toNat * 2)).off + 1,none⟩ = some (.int .i64 ((rd_T55 l0_0 x3_1).f1)) ∧ w'.cell? (ad110.add ((x3_1).toNat * 2)) = some (.int .i64 ((rd_T55 l0_0 x3_1).f0)) ∧ w'.cell? ⟨(ad110.add ((x3_1).toNat * 2)).block,(ad110.add ((x3_1).toNat * 2)).off + 1,none⟩ = some (.int .i64 ((rd_T55 l0_0 x3_1).f1))) (ds:=[]) #[false,false,false,false,false,false,false,false,false,false,false,false,false,false,false,false,false,false,false,false,false] (by kernel_rfl) rfl rfl ⟨bcell BK109 0,(bcl HB hw110_0),(bcl HB hw110_1),(bcl HB hw116_0),(bcl HB hw116_1)⟩ (fun hHeld=>?_);refine with_tabW spec_MapOk.tab6 spec_MapOk.bits6 (fun HT_ HW_=>?_)
         generalize wr.drew = w21 at BK109 HB hx110_0 hx110_1 hx116_0 hx116_1 hHeld ⊢
         refine pu_ 0 (some 15) (bm 21 1) ?_
         refine pu_ 2 (some 17) (bm 21 5) ?_
         refine tk_ 1 (some 16) (bm 21 7) rfl (.inl ⟨rfl,m15_⟩) ?_
         refine pu_ 3 (some 18) (bm 21 15) ?_
         refine tk_ 4 (some 19) (bm 21 31) rfl (.inl ⟨rfl,m15_⟩) ?_
         refine on_ 5 (some 20) (bm 21 63) (fun K hK=>?_)
         refine gR Tryz.func46 #[.agg #[.int .i64 ((rd_T55 l0_0 x3_1).f0),.int .i64 ((rd_T55 l0_0 x3_1).f1)]] ?_
         with_reducible refine (spec_EndInside.calls ((rd_T55 l0_0 x3_1).f0) ((rd_T55 l0_0 x3_1).f1) true _ A9.out).mono ?_
         rintro e w22 ⟨rfl,hb⟩
         refine ⟨_,rfl,?_⟩
         replace BK109:=bkB BK109 hb
         replace HB:=hbS HB hb
         (try clear hb)
         (try clear hb2)
         (try clear hk)
         (try clear hi)
         have q23 : (x3_1 : Int) ≤ ((l0_0.length : Int) : Int):=of_decide_eq_true da_
         obtain ⟨i023,hi023,_,hsz23,_⟩:=info_parts info55
         have hroom23 : l0_0.length ≤ c0_0:=HC0_0.out
         have hC23 : Kd.C k55 _ (some ad110) l0_0.length l0_0:=HR0_0.out
         have hcut23:=cut_to (P:=Tryz.prog) 27 55 .i64 Tryz.underlying27 hi023 (some ad110) l0_0.length c0_0 x3_1 (of_decide_eq_true da_) q23 hroom23
         have hr23:=Kd.C_take (m:=(x3_1 : Int).toNat) hC23 (by omega)
         have hy23 : y112.length = (x3_1 : Int).toNat:=(by rw [Ny112.out,List.length_take];omega)
         rw [← Ny112.out] at hr23
         rw [← hy23] at hcut23
         have HR115:=am hr23
         have HC115:=am (show y112.length ≤ c0_0 from by omega)
         clear hr23 hC23 hroom23 hi023 hsz23
         have KY23:=am hy23
         clear hy23
         replace q23:=eq_true q23
         refine hK.out _ _ ⟨bcell BK109 0,(bcl HB hw110_0),(bcl HB hw110_1),(bcl HB hw116_0),(bcl HB hw116_1)⟩ (fun hHeld=>?_)
         clear hK K
         refine nm_ ?_
         refine pu_ 6 (some 21) (bm 21 127) ?_
         refine pu_ 7 (some 22) (bm 21 255) ?_
         refine pu_ 8 (some 23) (bm 21 511) ?_
         refine pu_ 10 (some 25) (bm 21 1535) ?_
         refine pu_ 13 (some 28) (bm 21 9727) ?_
         refine pu_ 15 (some 30) (bm 21 42495) ?_
         refine tk_ 9 (some 24) (bm 21 43007) rfl (.inl ⟨rfl,m15_⟩) ?_
         refine pu_ 11 (some 26) (bm 21 45055) ?_
         refine pu_ 12 (some 27) (bm 21 49151) ?_
         refine tk_ 14 (some 29) (bm 21 65535) rfl (.inl ⟨rfl,m15_⟩) ?_
         refine pu_ 16 (some 31) (bm 21 131071) ?_
         refine tk_ 17 (some 32) (bm 21 262143) rfl (.inl ⟨rfl,m15_⟩) ?_
         refine on_ 18 (some 33) (bm 21 524287) (fun K hK=>?_)
         refine gR Tryz.func47 #[.agg #[.slice (some ad110) y112.length c0_0],.agg #[.int .i64 ((rd_T55 l0_0 x3_1).f0),.int .i64 ((rd_T55 l0_0 x3_1).f1)]] ?_
         with_reducible refine (spec_l3Find.calls k1 _ _ y112 ((rd_T55 l0_0 x3_1).f0) ((rd_T55 l0_0 x3_1).f1) t117 _ ?side1 ?side2 A13.out).mono ?_
         (case side1=>exact m14_)
         (case side2=>exact HC115.out)
         rintro e w24 ⟨rfl,hb⟩
         refine ⟨_,rfl,?_⟩
         replace BK109:=bkB BK109 hb
         replace HB:=hbS HB hb
         (try clear hb)
         (try clear hb2)
         (try clear hk)
         (try clear hi)
         refine hK.out _ _ ⟨bcell BK109 0,(bcl HB hw110_0),(bcl HB hw110_1),(bcl HB hw116_0),(bcl HB hw116_1)⟩ (fun hHeld=>?_)
         clear hK K
         refine nm_ ?_
         refine pu_ 19 (some 34) (bm 21 1048575) ?_
         refine pu_ 20 (some 35) (bm 21 2097151) ?_
         refine done_ (done_of HT_.out (by kernel_rfl)) ?_
         try go_wp2
         go_roundg k1
         case measure=>have:=HK1.out;omega
         case rel=>exact ⟨(wrap64 (x3_1 + 1)),rs_,H',⟨by have:=HK1.out;omega⟩,⟨bk BK109⟩,⟨m2_⟩⟩
       ·rw [if_neg c12] at H
        exact absurd H (by simp)
      ·replace c10:=Bool.eq_false_iff.mpr c10
       subst c10
       have H1 : (some false) = some r:=by rw [if_neg (show ¬ (false = true) by decide)] at H;exact H
       clear H
       have H:=H1
       clear H1
       obtain rfl:=Option.some.inj H
       have:=bcell BK109 0
       have:=bfz BK109 0
       try go_wp2
       replace BK109:=am (blk_drew BK109.out)
       replace HB:=am (below_drew1 HB.out)
       have p110 : 0 ≤ (x3_1 : Int):=of_decide_eq_true da_
       have q110 : x3_1 < (l0_0.length : Int):=of_decide_eq_true da_
       obtain ⟨ad110,e110,hx110_0,hx110_1⟩:=at_T55 HR0_0.out x3_1 p110 q110
       have hw110_1:=hx110_1
       have hw110_0:=hx110_0
       cases e110
       replace hx110_0:=bcl HB hx110_0
       replace hx110_1:=bcl HB hx110_1
       replace p110:=eq_true p110
       replace q110:=eq_true q110
       refine start_ (n:=21) (S:=fun w'=>w'.cell? ⟨gb109,0,none⟩ = some (.slice (some ad110) l0_0.length c0_0) ∧ w'.cell? (ad110.add ((x3_1).toNat * 2)) = some (.int .i64 ((rd_T55 l0_0 x3_1).f0)) ∧ w'.cell? ⟨(ad110.add ((x3_1).toNat * 2)).block,(ad110.add ((x3_1).toNat * 2)).off + 1,none⟩ = some (.int .i64 ((rd_T55 l0_0 x3_1).f1))) (ds:=[]) #[false,false,false,false,false,false,false,false,false,false,false,false,false,false,false,false,false,false,false,false,false] (by kernel_rfl) rfl rfl ⟨bcell BK109 0,(bcl HB hw110_0),(bcl HB hw110_1)⟩ (fun hHeld=>?_);refine with_tabW spec_MapOk.tab6 spec_MapOk.bits6 (fun HT_ HW_=>?_)
       generalize wr.drew = w26 at BK109 HB hx110_0 hx110_1 hHeld ⊢
       refine pu_ 0 (some 15) (bm 21 1) ?_
       refine pu_ 2 (some 17) (bm 21 5) ?_
       refine tk_ 1 (some 16) (bm 21 7) rfl (.inl ⟨rfl,m7_⟩) ?_
       refine pu_ 3 (some 18) (bm 21 15) ?_
       refine tk_ 4 (some 19) (bm 21 31) rfl (.inl ⟨rfl,m7_⟩) ?_
       refine on_ 5 (some 20) (bm 21 63) (fun K hK=>?_)
       refine gR Tryz.func46 #[.agg #[.int .i64 ((rd_T55 l0_0 x3_1).f0),.int .i64 ((rd_T55 l0_0 x3_1).f1)]] ?_
       with_reducible refine (spec_EndInside.calls ((rd_T55 l0_0 x3_1).f0) ((rd_T55 l0_0 x3_1).f1) false _ A9.out).mono ?_
       rintro e w27 ⟨rfl,hb⟩
       refine ⟨_,rfl,?_⟩
       replace BK109:=bkB BK109 hb
       replace HB:=hbS HB hb
       (try clear hb)
       (try clear hb2)
       (try clear hk)
       (try clear hi)
       refine hK.out _ _ ⟨bcell BK109 0,(bcl HB hw110_0),(bcl HB hw110_1)⟩ (fun hHeld=>?_)
       clear hK K
       refine nm_ ?_
       refine pu_ 6 (some 21) (bm 21 127) ?_
       refine pu_ 7 (some 22) (bm 21 255) ?_
       refine pv_ 8 (some 23) (bm 21 511) ?_
       refine pv_ 9 (some 24) (bm 21 1023) ?_
       refine pv_ 10 (some 25) (bm 21 2047) ?_
       refine pv_ 11 (some 26) (bm 21 4095) ?_
       refine pv_ 12 (some 27) (bm 21 8191) ?_
       refine pv_ 13 (some 28) (bm 21 16383) ?_
       refine pv_ 14 (some 29) (bm 21 32767) ?_
       refine pv_ 15 (some 30) (bm 21 65535) ?_
       refine pv_ 16 (some 31) (bm 21 131071) ?_
       refine pv_ 17 (some 32) (bm 21 262143) ?_
       refine pv_ 18 (some 33) (bm 21 524287) ?_
       refine pv_ 19 (some 34) (bm 21 1048575) ?_
       refine pu_ 20 (some 35) (bm 21 2097151) ?_
       refine done_ (done_of HT_.out (by kernel_rfl)) ?_
       try go_wp2
       go_ret
       exact ⟨fi_,m2_⟩
     ·rw [if_neg c8] at H
      exact absurd H (by simp)
    ·rw [if_neg c7] at H
     have c7b0 : decide (x3_1 < (l0_0.length : Int)) = false:=decide_eq_false c7
     clear c7
     obtain rfl:=Option.some.inj H
     have:=bcell BK109 0
     have:=bfz BK109 0
     go_wp2
     go_ret
     exact ⟨fi_,m2_⟩
def spec_StrLines.l0 : Nat → ByteArray → List ByteArray → Int → Int → Option (List ByteArray × ByteArray)
 | 0,_,_,_,_=>none
 | k + 1,x0,x4,x5,x6=>if x6 < (x0.size : Int) then (if 0 ≤ x6 then (if (bt x0 x6) = 59 then (if 0 ≤ x5 then (if x5 ≤ x6 then (if x6 ≤ (x0.size : Int) then (if x4.length < 8796093022208 then (spec_StrLines.l0 k x0 (x4 ++ [x0.extract (x5 : Int).toNat (x6 : Int).toNat]) (wrap64 (x6 + 1)) (wrap64 (x6 + 1))) else (none)) else (none)) else (none)) else (none)) else (spec_StrLines.l0 k x0 x4 x5 (wrap64 (x6 + 1)))) else (none)) else (if 0 ≤ x5 then (if x5 ≤ (x0.size : Int) then (some (x4,x0.extract (x5 : Int).toNat x0.size)) else (none)) else (none))
def spec_StrLines.f (k : Nat) (a0 : ByteArray) : Option (List ByteArray × ByteArray):=spec_StrLines.l0 k a0 (([] : List ByteArray)) 0 0
theorem spec_StrLines.mono_l : ∀ k,(∀ y0 y1 y2 y3,LeO (spec_StrLines.l0 k y0 y1 y2 y3) (spec_StrLines.l0 (k + 1) y0 y1 y2 y3))
 | 0=>fun _ _ _ _ r h=>by simp [spec_StrLines.l0] at h
 | k + 1=>by
  have ih0:=spec_StrLines.mono_l k
  ·intro y0 y1 y2 y3
   unfold spec_StrLines.l0
   repeat' first | (with_reducible first | exact ih0 _ _ _ _ | exact LeO.refl _ | exact LeO.none _ | refine LeO.ite ?_ ?_ | refine LeO.bind ?_ (fun _=>?_)) | exact ih0 _ _ _ _ | exact LeO.none _ | refine LeO.ite ?_ ?_ | refine LeO.bind ?_ (fun _=>?_)
theorem spec_StrLines.mono : ∀ a0 k,LeO (spec_StrLines.f k a0) (spec_StrLines.f (k + 1) a0):=by
 intro a0 k
 have ih0:=spec_StrLines.mono_l k
 unfold spec_StrLines.f
 repeat' first | (with_reducible first | exact ih0 _ _ _ _ | exact LeO.refl _ | exact LeO.none _ | refine LeO.ite ?_ ?_ | refine LeO.bind ?_ (fun _=>?_)) | exact ih0 _ _ _ _ | exact LeO.none _ | refine LeO.ite ?_ ?_ | refine LeO.bind ?_ (fun _=>?_)
set_option maxHeartbeats 8000000 in
set_option maxRecDepth 100000 in
theorem spec_StrLines.calls (k : Nat) (a0 : ByteArray) (r1 : List ByteArray) (r2 : ByteArray) (w : World) (h : spec_StrLines.f k a0 = some (r1,r2)) :
  Calls Tryz.prog 48 #[.string a0] w fun e w'=>∃ v0_ : Value,e = .returned (.tuple #[v0_,.string r2]) ∧ Kd.R Kd.string 9 w' w.heap.size (fun _=>True) v0_ r1 ∧ Below w.heap.size w w':=by
 have HB:=am (Below.refl w.heap.size w)
 have H : (spec_StrLines.l0 k a0 (([] : List ByteArray)) 0 0) = some (r1,r2):=h
 clear h
 obtain ⟨y118,hy118⟩ : ∃ y_ : List ByteArray,y_ = (([] : List ByteArray)):=⟨_,rfl⟩
 replace H : (spec_StrLines.l0 k a0 y118 0 0) = some (r1,r2):=by first | (rw [hy118];with_reducible exact H) | (have H2_:=(Option.bind_some _ _).symm.trans H;rw [hy118];with_reducible exact H2_) | (have H2_:=(Option.bind_some _ _).symm.trans H;with_reducible exact H2_) | with_reducible exact H | (rw [hy118];exact H) | exact H
 have Ny118:=am hy118
 clear hy118
 have H':=am H
 clear H
 go_enter Tryz.func48,Tryz.ntmps48
 iterate 4 ((try go_quiet (fail));(try go_wp2_with (first | ((with_reducible refine gD 7 rfl ?_);refine Kd.R_lit Kd.string _ 9 rfl (N:=7) rfl (xs:=([] : List ByteArray)) (inner:=[]) (ok:=fun _=>True) (okp:=fun _=>True) hr_ ?hp (fun _ hk=>hk) trivial (Below.refl _ _) (Nat.le_refl _) (by simp) ?_;(case hp=>exact (Reps.none _ _));intro v119 w2 ho3 hb hg_ hnew_;clear hg_ hnew_;(first | rw [← Ny118.out] at ho3 | (simp only [Int.reduceToNat] at ho3;rw [← Ny118.out] at ho3));have HO120:=am (Kd.R_lower ho3 (below_size (bl HB)));replace HB:=hbS HB hb;clear hb ho3))))
 go_loopg [4,5,6] k (fun kq v4 v5 v6 w'=>∃ (x4_1 : List ByteArray) (x5_1 : Int) (x6_1 : Int),v5 = .int .i64 x5_1 ∧ v6 = .int .i64 x6_1 ∧ Aside0 (spec_StrLines.l0 kq a0 x4_1 x5_1 x6_1 = some (r1,r2)) ∧ Aside0 (kq ≤ k) ∧ Aside0 (Kd.R Kd.string 9 w' w.heap.size (fun _=>True) v4 x4_1) ∧ Aside0 (Below w.heap.size w w'))
 case atStart=>exact ⟨(y118),(0),(0),rs_,rs_,H',⟨Nat.le_refl _⟩,⟨by (with_reducible repeat apply ru);exact HO120.out⟩,⟨m0_⟩⟩
 case round=>
  clear H'
  try clear p2
  obtain ⟨x4_1,x5_1,x6_1,rfl,rfl,HA,HK1,HO_4,HB⟩:=hrel
  cases gk with
  | zero=>exact absurd HA.out (by simp [spec_StrLines.l0])
  | succ k1=>
   have H:=HA.out
   clear HA
   simp only [spec_StrLines.l0] at H
   by_cases c4 : x6_1 < (a0.size : Int)
   ·rw [if_pos c4] at H
    have c4b0 : decide (x6_1 < (a0.size : Int)) = true:=decide_eq_true c4
    clear c4
    by_cases c5 : 0 ≤ x6_1
    ·rw [if_pos c5] at H
     have c5b0 : decide (0 ≤ x6_1) = true:=decide_eq_true c5
     clear c5
     by_cases c7 : (bt a0 x6_1) = 59
     ·rw [if_pos c7] at H
      have c7b0 : ((bt a0 x6_1) == 59) = true:=beq_iff_eq.mpr c7
      have c7b1 : ((bt a0 x6_1) != 59) = false:=bne_eq_false_iff_eq.mpr c7
      clear c7
      by_cases c8 : 0 ≤ x5_1
      ·rw [if_pos c8] at H
       have c8b0:=eq_true c8
       have c8b1 : decide (0 ≤ x5_1) = true:=decide_eq_true c8
       clear c8
       by_cases c9 : x5_1 ≤ x6_1
       ·rw [if_pos c9] at H
        have c9b0:=eq_true c9
        have c9b1 : decide (x5_1 ≤ x6_1) = true:=decide_eq_true c9
        clear c9
        by_cases c10 : x6_1 ≤ (a0.size : Int)
        ·rw [if_pos c10] at H
         have c10b0:=eq_true c10
         have c10b1 : decide (x6_1 ≤ (a0.size : Int)) = true:=decide_eq_true c10
         clear c10
         by_cases c11 : x4_1.length < 8796093022208
         ·rw [if_pos c11] at H
          have LMc11:=am c11
          clear c11
          obtain ⟨y121,hy121⟩ : ∃ y_ : List ByteArray,y_ = (x4_1 ++ [a0.extract (x5_1 : Int).toNat (x6_1 : Int).toNat]):=⟨_,rfl⟩
          replace H : (spec_StrLines.l0 k1 a0 y121 (wrap64 (x6_1 + 1)) (wrap64 (x6_1 + 1))) = some (r1,r2):=by first | (rw [hy121];with_reducible exact H) | (have H2_:=(Option.bind_some _ _).symm.trans H;rw [hy121];with_reducible exact H2_) | (have H2_:=(Option.bind_some _ _).symm.trans H;with_reducible exact H2_) | with_reducible exact H | (rw [hy121];exact H) | exact H
          have Ny121:=am hy121
          clear hy121
          have H':=am H
          clear H
          have p6 : 0 ≤ (x6_1 : Int):=of_decide_eq_true da_
          have q6 : x6_1 < (a0.size : Int):=of_decide_eq_true da_
          have hx6:=bt_at a0 x6_1
          replace p6:=eq_true p6
          replace q6:=eq_true q6
          iterate 4 ((try go_quiet (fail));(try go_wp2_with (first | ((with_reducible refine gate_builtin (b:=.append) (xs:=#[.tmp 18,.tmp 23]) rfl ?_);at_builtin;refine Kd.R_append Kd.string (w0:=w) w.heap.size rfl (.tmp 18) (.tmp 23) 45 9 (.string ⟨#[]⟩) 16 rfl Tryz.underlying45 info9 rfl (by decide) (by omega) u4 x4_1 (a0.extract (x5_1 : Int).toNat (x6_1 : Int).toNat) [.string (a0.extract (x5_1 : Int).toNat (x6_1 : Int).toNat)] (fun _=>True) (fun _=>False) rfl rfl ?aP (fun _ hk=>hk.elim) ?aF ?aO ?aB ?aS ?aL ?_;(case aP=>exact rfl);(case aB=>exact (bl HB));(case aF=>exact (fun _ _=>trivial));(case aO=>exact (rs HO_4));(case aS=>exact (below_size (bl HB)));(case aL=>have:=LMc11.out;omega);intro v122 w12 ho hb hg hat;rw [← Ny121.out] at ho;replace HB:=am hb;have HO123:=am (ho);clear HO_4;clear ho hb hg hat))))
          go_roundg k1
          case measure=>have:=HK1.out;omega
          case rel=>exact ⟨(y121),(wrap64 (x6_1 + 1)),(wrap64 (x6_1 + 1)),rs_,rs_,H',⟨by have:=HK1.out;omega⟩,⟨by (with_reducible repeat apply ru);exact HO123.out⟩,⟨m0_⟩⟩
         ·rw [if_neg c11] at H
          exact absurd H (by simp)
        ·rw [if_neg c10] at H
         exact absurd H (by simp)
       ·rw [if_neg c9] at H
        exact absurd H (by simp)
      ·rw [if_neg c8] at H
       exact absurd H (by simp)
     ·rw [if_neg c7] at H
      have c7b0 : ((bt a0 x6_1) == 59) = false:=beq_eq_false_iff_ne.mpr c7
      have c7b1 : ((bt a0 x6_1) != 59) = true:=bne_iff_ne.mpr c7
      have H':=am H
      clear H
      have p6 : 0 ≤ (x6_1 : Int):=of_decide_eq_true da_
      have q6 : x6_1 < (a0.size : Int):=of_decide_eq_true da_
      have hx6:=bt_at a0 x6_1
      replace p6:=eq_true p6
      replace q6:=eq_true q6
      go_wp2
      repeat (go_quiet (fail);try go_wp2)
      go_roundg k1
      case measure=>have:=HK1.out;omega
      case rel=>exact ⟨(x4_1),(x5_1),(wrap64 (x6_1 + 1)),rs_,rs_,H',⟨by have:=HK1.out;omega⟩,⟨by (with_reducible repeat apply ru);exact HO_4.out⟩,⟨m0_⟩⟩
    ·rw [if_neg c5] at H
     exact absurd H (by simp)
   ·rw [if_neg c4] at H
    have c4b0 : decide (x6_1 < (a0.size : Int)) = false:=decide_eq_false c4
    clear c4
    by_cases c13 : 0 ≤ x5_1
    ·rw [if_pos c13] at H
     have c13b0:=eq_true c13
     have c13b1 : decide (0 ≤ x5_1) = true:=decide_eq_true c13
     clear c13
     by_cases c14 : x5_1 ≤ (a0.size : Int)
     ·rw [if_pos c14] at H
      have c14b0:=eq_true c14
      have c14b1 : decide (x5_1 ≤ (a0.size : Int)) = true:=decide_eq_true c14
      clear c14
      simp only [Option.some.injEq,Prod.mk.injEq] at H
      obtain ⟨rfl,rfl⟩:=H
      go_wp2
      repeat (go_quiet (fail);try go_wp2)
      go_ret2
      exact ⟨_,fi_,by (with_reducible repeat apply ru);exact HO_4.out,m0_⟩
     ·rw [if_neg c14] at H
      exact absurd H (by simp)
    ·rw [if_neg c13] at H
     exact absurd H (by simp)
def spec_l2Byte.f (a0 : Int) : Option (Bool):=if a0 ≥ 97 then (if a0 ≤ 122 then (some true) else (if a0 ≥ 48 then (if a0 ≤ 57 then (some true) else (some (a0 == 32))) else (some (a0 == 32)))) else (if a0 ≥ 48 then (if a0 ≤ 57 then (some true) else (some (a0 == 32))) else (some (a0 == 32)))
set_option maxHeartbeats 8000000 in
set_option maxRecDepth 100000 in
theorem spec_l2Byte.calls (a0 : Int) (r : Bool) (w : World) (h : spec_l2Byte.f a0 = some r) :
  Calls Tryz.prog 72 #[.int .u8 a0] w fun e w'=>e = .returned (.bool r) ∧ Drawn0 w w':=by
 have H : (if a0 ≥ 97 then (if a0 ≤ 122 then (some true) else (if a0 ≥ 48 then (if a0 ≤ 57 then (some true) else (some (a0 == 32))) else (some (a0 == 32)))) else (if a0 ≥ 48 then (if a0 ≤ 57 then (some true) else (some (a0 == 32))) else (some (a0 == 32)))) = some r:=h
 clear h
 by_cases c2 : a0 ≥ 97
 ·rw [if_pos c2] at H
  have c2b0 : decide (97 ≤ a0) = true:=decide_eq_true c2
  clear c2
  by_cases c3 : a0 ≤ 122
  ·rw [if_pos c3] at H
   have c3b0 : decide (a0 ≤ 122) = true:=decide_eq_true c3
   clear c3
   obtain rfl:=Option.some.inj H
   go_enter Tryz.func72,Tryz.ntmps72
   go_wp2
   go_ret
   exact ⟨fr_,dn_⟩
  ·rw [if_neg c3] at H
   have c3b0 : decide (a0 ≤ 122) = false:=decide_eq_false c3
   clear c3
   by_cases c4 : a0 ≥ 48
   ·rw [if_pos c4] at H
    have c4b0 : decide (48 ≤ a0) = true:=decide_eq_true c4
    clear c4
    by_cases c5 : a0 ≤ 57
    ·rw [if_pos c5] at H
     have c5b0 : decide (a0 ≤ 57) = true:=decide_eq_true c5
     clear c5
     obtain rfl:=Option.some.inj H
     go_enter Tryz.func72,Tryz.ntmps72
     go_wp2
     go_ret
     exact ⟨fr_,dn_⟩
    ·rw [if_neg c5] at H
     have c5b0 : decide (a0 ≤ 57) = false:=decide_eq_false c5
     clear c5
     obtain rfl:=Option.some.inj H
     go_enter Tryz.func72,Tryz.ntmps72
     go_wp2
     go_ret
     exact ⟨fr_,dn_⟩
   ·rw [if_neg c4] at H
    have c4b0 : decide (48 ≤ a0) = false:=decide_eq_false c4
    clear c4
    obtain rfl:=Option.some.inj H
    go_enter Tryz.func72,Tryz.ntmps72
    go_wp2
    go_ret
    exact ⟨fr_,dn_⟩
 ·rw [if_neg c2] at H
  have c2b0 : decide (97 ≤ a0) = false:=decide_eq_false c2
  clear c2
  by_cases c6 : a0 ≥ 48
  ·rw [if_pos c6] at H
   have c6b0 : decide (48 ≤ a0) = true:=decide_eq_true c6
   clear c6
   by_cases c7 : a0 ≤ 57
   ·rw [if_pos c7] at H
    have c7b0 : decide (a0 ≤ 57) = true:=decide_eq_true c7
    clear c7
    obtain rfl:=Option.some.inj H
    go_enter Tryz.func72,Tryz.ntmps72
    go_wp2
    go_ret
    exact ⟨fr_,dn_⟩
   ·rw [if_neg c7] at H
    have c7b0 : decide (a0 ≤ 57) = false:=decide_eq_false c7
    clear c7
    obtain rfl:=Option.some.inj H
    go_enter Tryz.func72,Tryz.ntmps72
    go_wp2
    go_ret
    exact ⟨fr_,dn_⟩
  ·rw [if_neg c6] at H
   have c6b0 : decide (48 ≤ a0) = false:=decide_eq_false c6
   clear c6
   obtain rfl:=Option.some.inj H
   go_enter Tryz.func72,Tryz.ntmps72
   go_wp2
   go_ret
   exact ⟨fr_,dn_⟩
def spec_LinOk.l0 : Nat → ByteArray → Int → Option (Bool)
 | 0,_,_=>none
 | k + 1,x0,x3=>if x3 < (x0.size : Int) then (if 0 ≤ x3 then ((spec_l2Byte.f (bt x0 x3)).bind fun t124=>(if t124 = true then (spec_LinOk.l0 k x0 (wrap64 (x3 + 1))) else (some false))) else (none)) else (some true)
def spec_LinOk.f (k : Nat) (a0 : ByteArray) : Option (Bool):=if (a0.size : Int) > 16 then (some false) else (spec_LinOk.l0 k a0 0)
theorem spec_LinOk.mono_l : ∀ k,(∀ y0 y1,LeO (spec_LinOk.l0 k y0 y1) (spec_LinOk.l0 (k + 1) y0 y1))
 | 0=>fun _ _ r h=>by simp [spec_LinOk.l0] at h
 | k + 1=>by
  have ih0:=spec_LinOk.mono_l k
  ·intro y0 y1
   unfold spec_LinOk.l0
   repeat' first | (with_reducible first | exact ih0 _ _ | exact LeO.refl _ | exact LeO.none _ | refine LeO.ite ?_ ?_ | refine LeO.bind ?_ (fun _=>?_)) | exact ih0 _ _ | exact LeO.none _ | refine LeO.ite ?_ ?_ | refine LeO.bind ?_ (fun _=>?_)
theorem spec_LinOk.mono : ∀ a0 k,LeO (spec_LinOk.f k a0) (spec_LinOk.f (k + 1) a0):=by
 intro a0 k
 have ih0:=spec_LinOk.mono_l k
 unfold spec_LinOk.f
 repeat' first | (with_reducible first | exact ih0 _ _ | exact LeO.refl _ | exact LeO.none _ | refine LeO.ite ?_ ?_ | refine LeO.bind ?_ (fun _=>?_)) | exact ih0 _ _ | exact LeO.none _ | refine LeO.ite ?_ ?_ | refine LeO.bind ?_ (fun _=>?_)
set_option maxHeartbeats 8000000 in
set_option maxRecDepth 100000 in
theorem spec_LinOk.calls (k : Nat) (a0 : ByteArray) (r : Bool) (w : World) (h : spec_LinOk.f k a0 = some r) :
  Calls Tryz.prog 49 #[.string a0] w fun e w'=>e = .returned (.bool r) ∧ Drawn0 w w':=by
 have H : (if (a0.size : Int) > 16 then (some false) else (spec_LinOk.l0 k a0 0)) = some r:=h
 clear h
 by_cases c2 : (a0.size : Int) > 16
 ·rw [if_pos c2] at H
  have c2b0 : decide (16 < (a0.size : Int)) = true:=decide_eq_true c2
  have c2b1 : decide (16 < a0.size) = true:=decide_eq_true (by omega)
  clear c2
  obtain rfl:=Option.some.inj H
  go_enter Tryz.func49,Tryz.ntmps49
  go_wp2
  go_ret
  exact ⟨fr_,dn_⟩
 ·rw [if_neg c2] at H
  have c2b0 : decide (16 < (a0.size : Int)) = false:=decide_eq_false c2
  have c2b1 : decide (16 < a0.size) = false:=decide_eq_false (by omega)
  clear c2
  have H':=am H
  clear H
  go_enter Tryz.func49,Tryz.ntmps49
  go_wp2
  go_loopg [3] k (fun kq v3 w'=>∃ (x3_1 : Int),v3 = .int .i64 x3_1 ∧ Aside0 (spec_LinOk.l0 kq a0 x3_1 = some r) ∧ Aside0 (kq ≤ k) ∧ Drawn0 w w')
  case atStart=>exact ⟨(0),rs_,H',⟨Nat.le_refl _⟩,by repeat (first | exact Drawn0.refl _ | apply Drawn0.step)⟩
  case round=>
   clear H'
   try clear c2
   try clear c2b0
   try clear c2b1
   try clear p2
   obtain ⟨x3_1,rfl,HA,HK1,⟨m1,rfl⟩⟩:=hrel
   cases gk with
   | zero=>exact absurd HA.out (by simp [spec_LinOk.l0])
   | succ k1=>
    have H:=HA.out
    clear HA
    simp only [spec_LinOk.l0] at H
    by_cases c3 : x3_1 < (a0.size : Int)
    ·rw [if_pos c3] at H
     have c3b0 : decide (x3_1 < (a0.size : Int)) = true:=decide_eq_true c3
     clear c3
     by_cases c4 : 0 ≤ x3_1
     ·rw [if_pos c4] at H
      have c4b0 : decide (0 ≤ x3_1) = true:=decide_eq_true c4
      clear c4
      obtain ⟨t124,A6,H⟩:=bse H
      try dsimp only at H
      by_cases c7 : t124 = true
      ·subst c7
       have H1 : (spec_LinOk.l0 k1 a0 (wrap64 (x3_1 + 1))) = some r:=by rw [if_pos rfl] at H;exact H
       clear H
       have H:=H1
       clear H1
       have H':=am H
       clear H
       have p5 : 0 ≤ (x3_1 : Int):=of_decide_eq_true da_
       have q5 : x3_1 < (a0.size : Int):=of_decide_eq_true da_
       have hx5:=bt_at a0 x3_1
       replace p5:=eq_true p5
       replace q5:=eq_true q5
       go_wp2_with (first | ((with_reducible refine gC 72 rfl ?_);refine gL (some 16) Tryz.func72 #[.int .u8 (bt a0 x3_1)] ?_;(with_reducible refine (spec_l2Byte.calls (bt a0 x3_1) true _ A6.out).mono ?_);rintro e w' ⟨rfl,⟨nd,rfl⟩⟩;refine ⟨_,rfl,?_⟩))
       go_roundg k1
       case measure=>have:=HK1.out;omega
       case rel=>exact ⟨(wrap64 (x3_1 + 1)),rs_,H',⟨by have:=HK1.out;omega⟩,by repeat (first | exact Drawn0.refl _ | apply Drawn0.step)⟩
      ·replace c7:=Bool.eq_false_iff.mpr c7
       subst c7
       have H1 : (some false) = some r:=by rw [if_neg (show ¬ (false = true) by decide)] at H;exact H
       clear H
       have H:=H1
       clear H1
       obtain rfl:=Option.some.inj H
       have p5 : 0 ≤ (x3_1 : Int):=of_decide_eq_true da_
       have q5 : x3_1 < (a0.size : Int):=of_decide_eq_true da_
       have hx5:=bt_at a0 x3_1
       replace p5:=eq_true p5
       replace q5:=eq_true q5
       go_wp2_with (first | ((with_reducible refine gC 72 rfl ?_);refine gL (some 16) Tryz.func72 #[.int .u8 (bt a0 x3_1)] ?_;(with_reducible refine (spec_l2Byte.calls (bt a0 x3_1) false _ A6.out).mono ?_);rintro e w' ⟨rfl,⟨nd,rfl⟩⟩;refine ⟨_,rfl,?_⟩))
       go_ret
       exact ⟨fr_,dn_⟩
     ·rw [if_neg c4] at H
      exact absurd H (by simp)
    ·rw [if_neg c3] at H
     have c3b0 : decide (x3_1 < (a0.size : Int)) = false:=decide_eq_false c3
     clear c3
     obtain rfl:=Option.some.inj H
     go_wp2
     go_ret
     exact ⟨fr_,dn_⟩
def spec_StrOk.l0 : Nat → List ByteArray → ByteArray → Int → Option (Bool)
 | 0,_,_,_=>none
 | k + 1,x3,x4,x5=>if x5 < (x3.length : Int) then (if 0 ≤ x5 then ((spec_LinOk.f k (rdOf ByteArray.empty x3 x5)).bind fun t130=>(if t130 = true then (spec_StrOk.l0 k x3 x4 (wrap64 (x5 + 1))) else (some false))) else (none)) else ((spec_LinOk.f k x4).bind fun t131=>(some t131))
def spec_StrOk.f (k : Nat) (a0 : ByteArray) : Option (Bool):=if (a0.size : Int) > 120 then (some false) else ((spec_StrLines.f k a0).bind fun bt125=>(spec_StrOk.l0 k bt125.1 bt125.2 0))
theorem spec_StrOk.mono_l : ∀ k,(∀ y0 y1 y2,LeO (spec_StrOk.l0 k y0 y1 y2) (spec_StrOk.l0 (k + 1) y0 y1 y2))
 | 0=>fun _ _ _ r h=>by simp [spec_StrOk.l0] at h
 | k + 1=>by
  have ih0:=spec_StrOk.mono_l k
  ·intro y0 y1 y2
   unfold spec_StrOk.l0
   repeat' first | (with_reducible first | exact ih0 _ _ _ | exact spec_LinOk.mono _ _ | exact spec_StrLines.mono _ _ | exact LeO.refl _ | exact LeO.none _ | refine LeO.ite ?_ ?_ | refine LeO.bind ?_ (fun _=>?_)) | exact ih0 _ _ _ | exact spec_LinOk.mono _ _ | exact spec_StrLines.mono _ _ | exact LeO.none _ | refine LeO.ite ?_ ?_ | refine LeO.bind ?_ (fun _=>?_)
theorem spec_StrOk.mono : ∀ a0 k,LeO (spec_StrOk.f k a0) (spec_StrOk.f (k + 1) a0):=by
 intro a0 k
 have ih0:=spec_StrOk.mono_l k
 unfold spec_StrOk.f
 repeat' first | (with_reducible first | exact ih0 _ _ _ | exact spec_LinOk.mono _ _ | exact spec_StrLines.mono _ _ | exact LeO.refl _ | exact LeO.none _ | refine LeO.ite ?_ ?_ | refine LeO.bind ?_ (fun _=>?_)) | exact ih0 _ _ _ | exact spec_LinOk.mono _ _ | exact spec_StrLines.mono _ _ | exact LeO.none _ | refine LeO.ite ?_ ?_ | refine LeO.bind ?_ (fun _=>?_)
set_option maxHeartbeats 8000000 in
set_option maxRecDepth 100000 in
theorem spec_StrOk.calls (k : Nat) (a0 : ByteArray) (r : Bool) (w : World) (h : spec_StrOk.f k a0 = some r) :
  Calls Tryz.prog 27 #[.string a0] w fun e w'=>e = .returned (.bool r) ∧ Below w.heap.size w w':=by
 have HB:=am (Below.refl w.heap.size w)
 have H : (if (a0.size : Int) > 120 then (some false) else ((spec_StrLines.f k a0).bind fun bt125=>(spec_StrOk.l0 k bt125.1 bt125.2 0))) = some r:=h
 clear h
 by_cases c2 : (a0.size : Int) > 120
 ·rw [if_pos c2] at H
  have c2b0 : decide (120 < (a0.size : Int)) = true:=decide_eq_true c2
  have c2b1 : decide (120 < a0.size) = true:=decide_eq_true (by omega)
  clear c2
  obtain rfl:=Option.some.inj H
  go_enter Tryz.func27,Tryz.ntmps27
  go_wp2
  go_ret
  exact ⟨fi_,m0_⟩
 ·rw [if_neg c2] at H
  have c2b0 : decide (120 < (a0.size : Int)) = false:=decide_eq_false c2
  have c2b1 : decide (120 < a0.size) = false:=decide_eq_false (by omega)
  clear c2
  obtain ⟨⟨t125,t126⟩,A3,H⟩:=bse H
  try dsimp only at H
  have H':=am H
  clear H
  go_enter Tryz.func27,Tryz.ntmps27
  go_wp2_with (first | ((with_reducible refine gC 48 rfl ?_);refine gL (some 11) Tryz.func48 #[.string a0] ?_;(with_reducible refine (spec_StrLines.calls k a0 t125 t126 _ A3.out).mono ?_);rintro e w4 ⟨v127,rfl,ho0,hb⟩;refine ⟨_,rfl,?_⟩;have HO128:=am (Kd.R_lower ho0 (below_size (bl HB)));replace HB:=hbS HB hb;(try clear hb);(try clear ho0)))
  go_loopg [5] k (fun kq v5 w'=>∃ (x5_1 : Int),v5 = .int .i64 x5_1 ∧ Aside0 (spec_StrOk.l0 kq t125 t126 x5_1 = some r) ∧ Aside0 (kq ≤ k) ∧ Aside0 (Kd.R Kd.string 9 w' w.heap.size (fun _=>True) v127 t125) ∧ Aside0 (Below w.heap.size w w'))
  case atStart=>exact ⟨(0),rs_,H',⟨Nat.le_refl _⟩,⟨by (with_reducible repeat apply ru);exact HO128.out⟩,⟨m0_⟩⟩
  case round=>
   clear H'
   try clear c2
   try clear c2b0
   try clear c2b1
   try clear p2
   try clear c4
   obtain ⟨x5_1,rfl,HA,HK1,HO_3,HB⟩:=hrel
   cases gk with
   | zero=>exact absurd HA.out (by simp [spec_StrOk.l0])
   | succ k1=>
    have H:=HA.out
    clear HA
    simp only [spec_StrOk.l0] at H
    by_cases c5 : x5_1 < (t125.length : Int)
    ·rw [if_pos c5] at H
     have c5b0 : decide (x5_1 < (t125.length : Int)) = true:=decide_eq_true c5
     clear c5
     by_cases c6 : 0 ≤ x5_1
     ·rw [if_pos c6] at H
      have c6b0 : decide (0 ≤ x5_1) = true:=decide_eq_true c6
      clear c6
      obtain ⟨t130,A7,H⟩:=bse H
      try dsimp only at H
      by_cases c8 : t130 = true
      ·subst c8
       have H1 : (spec_StrOk.l0 k1 t125 t126 (wrap64 (x5_1 + 1))) = some r:=by rw [if_pos rfl] at H;exact H
       clear H
       have H:=H1
       clear H1
       have H':=am H
       clear H
       obtain ⟨Ao9,co9,eo9⟩:=Kd.R_slice HO_3.out
       subst eo9
       have p129 : 0 ≤ (x5_1 : Int):=of_decide_eq_true da_
       have q129 : x5_1 < (t125.length : Int):=of_decide_eq_true da_
       obtain ⟨ad129,e129,hx129_0⟩:=Kd.at_string (Kd.R_reads' HO_3.out).2.2 x5_1 p129 q129
       cases e129
       replace p129:=eq_true p129
       replace q129:=eq_true q129
       go_wp2_with (first | ((with_reducible refine gC 49 rfl ?_);refine gL (some 24) Tryz.func49 #[.string (rdOf ByteArray.empty t125 x5_1)] ?_;(with_reducible refine (spec_LinOk.calls k1 (rdOf ByteArray.empty t125 x5_1) true _ A7.out).mono ?_);rintro e w' ⟨rfl,⟨nd,rfl⟩⟩;refine ⟨_,rfl,?_⟩))
       go_roundg k1
       case measure=>have:=HK1.out;omega
       case rel=>exact ⟨(wrap64 (x5_1 + 1)),rs_,H',⟨by have:=HK1.out;omega⟩,⟨by (with_reducible repeat apply ru);exact HO_3.out⟩,⟨m0_⟩⟩
      ·replace c8:=Bool.eq_false_iff.mpr c8
       subst c8
       have H1 : (some false) = some r:=by rw [if_neg (show ¬ (false = true) by decide)] at H;exact H
       clear H
       have H:=H1
       clear H1
       obtain rfl:=Option.some.inj H
       obtain ⟨Ao10,co10,eo10⟩:=Kd.R_slice HO_3.out
       subst eo10
       have p129 : 0 ≤ (x5_1 : Int):=of_decide_eq_true da_
       have q129 : x5_1 < (t125.length : Int):=of_decide_eq_true da_
       obtain ⟨ad129,e129,hx129_0⟩:=Kd.at_string (Kd.R_reads' HO_3.out).2.2 x5_1 p129 q129
       cases e129
       replace p129:=eq_true p129
       replace q129:=eq_true q129
       go_wp2_with (first | ((with_reducible refine gC 49 rfl ?_);refine gL (some 24) Tryz.func49 #[.string (rdOf ByteArray.empty t125 x5_1)] ?_;(with_reducible refine (spec_LinOk.calls k1 (rdOf ByteArray.empty t125 x5_1) false _ A7.out).mono ?_);rintro e w' ⟨rfl,⟨nd,rfl⟩⟩;refine ⟨_,rfl,?_⟩))
       go_ret
       exact ⟨fi_,m0_⟩
     ·rw [if_neg c6] at H
      exact absurd H (by simp)
    ·rw [if_neg c5] at H
     have c5b0 : decide (x5_1 < (t125.length : Int)) = false:=decide_eq_false c5
     clear c5
     obtain ⟨t131,A11,H⟩:=bse H
     try dsimp only at H
     obtain rfl:=Option.some.inj H
     obtain ⟨Ao12,co12,eo12⟩:=Kd.R_slice HO_3.out
     subst eo12
     go_wp2_with (first | ((with_reducible refine gC 49 rfl ?_);refine gL (some 27) Tryz.func49 #[.string t126] ?_;(with_reducible refine (spec_LinOk.calls k1 t126 t131 _ A11.out).mono ?_);rintro e w' ⟨rfl,⟨nd,rfl⟩⟩;refine ⟨_,rfl,?_⟩))
     go_ret
     exact ⟨fi_,m0_⟩
def spec_EndOutside.f (a0_0 : Int) (a0_1 : Int) : Option (Bool):=(spec_l1In.f a0_0 100 109).bind fun t133=>(if t133 = true then ((spec_l1In.f a0_1 1 999).bind fun t134=>(some t134)) else (some false))
set_option maxHeartbeats 8000000 in
set_option maxRecDepth 100000 in
theorem spec_EndOutside.calls (a0_0 : Int) (a0_1 : Int) (r : Bool) (w : World) (h : spec_EndOutside.f a0_0 a0_1 = some r) :
  Calls Tryz.prog 143 #[.agg #[.int .i64 a0_0,.int .i64 a0_1]] w fun e w'=>e = .returned (.bool r) ∧ Below w.heap.size w w':=by
 have hu55:=Tryz.underlying55
 have HB:=am (Below.refl w.heap.size w)
 have H : ((spec_l1In.f a0_0 100 109).bind fun t133=>(if t133 = true then ((spec_l1In.f a0_1 1 999).bind fun t134=>(some t134)) else (some false))) = some r:=h
 clear h
 obtain ⟨t133,A2,H⟩:=bse H
 try dsimp only at H
 by_cases c3 : t133 = true
 ·subst c3
  have H1 : ((spec_l1In.f a0_1 1 999).bind fun t134=>(some t134)) = some r:=by rw [if_pos rfl] at H;exact H
  clear H
  have H:=H1
  clear H1
  obtain ⟨t134,A4,H⟩:=bse H
  try dsimp only at H
  obtain rfl:=Option.some.inj H
  go_enter Tryz.func143,Tryz.ntmps143
  go_wp2_with (first | ((with_reducible refine gD 1 rfl ?_);refine box_event rfl (N:=1) rfl (cs:=#[.int .i64 a0_0,.int .i64 a0_1]) (t:=55) hr_ ?_;intro gb132 hg w5 hbox hb;have BK132:=am hbox;have GW132:=gwE HB hg;have GE132:=gwE HB hg;replace HB:=hbS HB hb;clear hb hbox hg;have:=bcell BK132 0;have:=bcell BK132 1;have:=bfz BK132 0;have:=bfz BK132 1) | ((with_reducible refine gC 71 rfl ?_);refine gL (some 5) Tryz.func71 #[.int .i64 a0_0,.int .i64 100,.int .i64 109] ?_;(with_reducible refine (spec_l1In.calls a0_0 100 109 true _ A2.out).mono ?_);rintro e w' ⟨rfl,⟨nd,rfl⟩⟩;refine ⟨_,rfl,?_⟩) | (go_at_call 71;(with_reducible refine (spec_l1In.calls a0_1 1 999 t134 _ A4.out).mono ?_);rintro e w' ⟨rfl,⟨nd,rfl⟩⟩))
  go_ret
  exact ⟨fi_,m2_⟩
 ·replace c3:=Bool.eq_false_iff.mpr c3
  subst c3
  have H1 : (some false) = some r:=by rw [if_neg (show ¬ (false = true) by decide)] at H;exact H
  clear H
  have H:=H1
  clear H1
  obtain rfl:=Option.some.inj H
  go_enter Tryz.func143,Tryz.ntmps143
  go_wp2_with (first | ((with_reducible refine gD 1 rfl ?_);refine box_event rfl (N:=1) rfl (cs:=#[.int .i64 a0_0,.int .i64 a0_1]) (t:=55) hr_ ?_;intro gb132 hg w7 hbox hb;have BK132:=am hbox;have GW132:=gwE HB hg;have GE132:=gwE HB hg;replace HB:=hbS HB hb;clear hb hbox hg;have:=bcell BK132 0;have:=bcell BK132 1;have:=bfz BK132 0;have:=bfz BK132 1) | ((with_reducible refine gC 71 rfl ?_);refine gL (some 5) Tryz.func71 #[.int .i64 a0_0,.int .i64 100,.int .i64 109] ?_;(with_reducible refine (spec_l1In.calls a0_0 100 109 false _ A2.out).mono ?_);rintro e w' ⟨rfl,⟨nd,rfl⟩⟩;refine ⟨_,rfl,?_⟩))
  go_ret
  exact ⟨fi_,m2_⟩
def spec_EndOk.f (a0_0 : Int) (a0_1 : Int) : Option (Bool):=(spec_EndInside.f a0_0 a0_1).bind fun t136=>(if t136 = true then (some true) else ((spec_EndOutside.f a0_0 a0_1).bind fun t137=>(if t137 = true then (some true) else (if a0_0 = 50 then ((spec_l1In.f a0_1 1 999).bind fun t138=>(some t138)) else (some false)))))
set_option maxHeartbeats 8000000 in
set_option maxRecDepth 100000 in
theorem spec_EndOk.calls (a0_0 : Int) (a0_1 : Int) (r : Bool) (w : World) (h : spec_EndOk.f a0_0 a0_1 = some r) :
  Calls Tryz.prog 129 #[.agg #[.int .i64 a0_0,.int .i64 a0_1]] w fun e w'=>e = .returned (.bool r) ∧ Below w.heap.size w w':=by
 have hu55:=Tryz.underlying55
 have HB:=am (Below.refl w.heap.size w)
 have H : ((spec_EndInside.f a0_0 a0_1).bind fun t136=>(if t136 = true then (some true) else ((spec_EndOutside.f a0_0 a0_1).bind fun t137=>(if t137 = true then (some true) else (if a0_0 = 50 then ((spec_l1In.f a0_1 1 999).bind fun t138=>(some t138)) else (some false)))))) = some r:=h
 clear h
 obtain ⟨t136,A2,H⟩:=bse H
 try dsimp only at H
 by_cases c3 : t136 = true
 ·subst c3
  have H1 : (some true) = some r:=by rw [if_pos rfl] at H;exact H
  clear H
  have H:=H1
  clear H1
  obtain rfl:=Option.some.inj H
  go_enter Tryz.func129,Tryz.ntmps129
  go_wp2_with (first | ((with_reducible refine gD 1 rfl ?_);refine box_event rfl (N:=1) rfl (cs:=#[.int .i64 a0_0,.int .i64 a0_1]) (t:=55) hr_ ?_;intro gb135 hg w4 hbox hb;have BK135:=am hbox;have GW135:=gwE HB hg;have GE135:=gwE HB hg;replace HB:=hbS HB hb;clear hb hbox hg;have:=bcell BK135 0;have:=bcell BK135 1;have:=bfz BK135 0;have:=bfz BK135 1) | ((with_reducible refine gC 46 rfl ?_);refine gL (some 4) Tryz.func46 #[.agg #[.int .i64 a0_0,.int .i64 a0_1]] ?_;(with_reducible refine (spec_EndInside.calls a0_0 a0_1 true _ A2.out).mono ?_);rintro e w6 ⟨rfl,hb⟩;refine ⟨_,rfl,?_⟩;replace BK135:=bkB BK135 hb;replace HB:=hbS HB hb;(try clear hb)))
  go_ret
  exact ⟨fi_,m2_⟩
 ·replace c3:=Bool.eq_false_iff.mpr c3
  subst c3
  have H1 : ((spec_EndOutside.f a0_0 a0_1).bind fun t137=>(if t137 = true then (some true) else (if a0_0 = 50 then ((spec_l1In.f a0_1 1 999).bind fun t138=>(some t138)) else (some false)))) = some r:=by rw [if_neg (show ¬ (false = true) by decide)] at H;exact H
  clear H
  have H:=H1
  clear H1
  obtain ⟨t137,A7,H⟩:=bse H
  try dsimp only at H
  by_cases c8 : t137 = true
  ·subst c8
   have H1 : (some true) = some r:=by rw [if_pos rfl] at H;exact H
   clear H
   have H:=H1
   clear H1
   obtain rfl:=Option.some.inj H
   go_enter Tryz.func129,Tryz.ntmps129
   go_wp2_with (first | ((with_reducible refine gD 1 rfl ?_);refine box_event rfl (N:=1) rfl (cs:=#[.int .i64 a0_0,.int .i64 a0_1]) (t:=55) hr_ ?_;intro gb135 hg w9 hbox hb;have BK135:=am hbox;have GW135:=gwE HB hg;have GE135:=gwE HB hg;replace HB:=hbS HB hb;clear hb hbox hg;have:=bcell BK135 0;have:=bcell BK135 1;have:=bfz BK135 0;have:=bfz BK135 1) | ((with_reducible refine gC 46 rfl ?_);refine gL (some 4) Tryz.func46 #[.agg #[.int .i64 a0_0,.int .i64 a0_1]] ?_;(with_reducible refine (spec_EndInside.calls a0_0 a0_1 false _ A2.out).mono ?_);rintro e w11 ⟨rfl,hb⟩;refine ⟨_,rfl,?_⟩;replace BK135:=bkB BK135 hb;replace HB:=hbS HB hb;(try clear hb);have:=bcell BK135 0;have:=bcell BK135 1;have:=bfz BK135 0;have:=bfz BK135 1) | (go_at_call 143;(with_reducible refine (spec_EndOutside.calls a0_0 a0_1 true _ A7.out).mono ?_);rintro e w13 ⟨rfl,hb⟩;replace BK135:=bkB BK135 hb;replace HB:=hbS HB hb;(try clear hb)))
   go_ret
   exact ⟨fi_,m2_⟩
  ·replace c8:=Bool.eq_false_iff.mpr c8
   subst c8
   have H1 : (if a0_0 = 50 then ((spec_l1In.f a0_1 1 999).bind fun t138=>(some t138)) else (some false)) = some r:=by rw [if_neg (show ¬ (false = true) by decide)] at H;exact H
   clear H
   have H:=H1
   clear H1
   by_cases c14 : a0_0 = 50
   ·rw [if_pos c14] at H
    have c14b0 : (a0_0 == 50) = true:=beq_iff_eq.mpr c14
    have c14b1 : (a0_0 != 50) = false:=bne_eq_false_iff_eq.mpr c14
    clear c14
    obtain ⟨t138,A15,H⟩:=bse H
    try dsimp only at H
    obtain rfl:=Option.some.inj H
    go_enter Tryz.func129,Tryz.ntmps129
    go_wp2_with (first | ((with_reducible refine gD 1 rfl ?_);refine box_event rfl (N:=1) rfl (cs:=#[.int .i64 a0_0,.int .i64 a0_1]) (t:=55) hr_ ?_;intro gb135 hg w16 hbox hb;have BK135:=am hbox;have GW135:=gwE HB hg;have GE135:=gwE HB hg;replace HB:=hbS HB hb;clear hb hbox hg;have:=bcell BK135 0;have:=bcell BK135 1;have:=bfz BK135 0;have:=bfz BK135 1) | ((with_reducible refine gC 46 rfl ?_);refine gL (some 4) Tryz.func46 #[.agg #[.int .i64 a0_0,.int .i64 a0_1]] ?_;(with_reducible refine (spec_EndInside.calls a0_0 a0_1 false _ A2.out).mono ?_);rintro e w18 ⟨rfl,hb⟩;refine ⟨_,rfl,?_⟩;replace BK135:=bkB BK135 hb;replace HB:=hbS HB hb;(try clear hb);have:=bcell BK135 0;have:=bcell BK135 1;have:=bfz BK135 0;have:=bfz BK135 1) | (go_at_call 143;(with_reducible refine (spec_EndOutside.calls a0_0 a0_1 false _ A7.out).mono ?_);rintro e w20 ⟨rfl,hb⟩;replace BK135:=bkB BK135 hb;replace HB:=hbS HB hb;(try clear hb);have:=bcell BK135 0;have:=bcell BK135 1;have:=bfz BK135 0;have:=bfz BK135 1) | (go_at_call 71;(with_reducible refine (spec_l1In.calls a0_1 1 999 t138 _ A15.out).mono ?_);rintro e w' ⟨rfl,⟨nd,rfl⟩⟩))
    go_ret
    exact ⟨fi_,m2_⟩
   ·rw [if_neg c14] at H
    have c14b0 : (a0_0 == 50) = false:=beq_eq_false_iff_ne.mpr c14
    have c14b1 : (a0_0 != 50) = true:=bne_iff_ne.mpr c14
    obtain rfl:=Option.some.inj H
    go_enter Tryz.func129,Tryz.ntmps129
    go_wp2_with (first | ((with_reducible refine gD 1 rfl ?_);refine box_event rfl (N:=1) rfl (cs:=#[.int .i64 a0_0,.int .i64 a0_1]) (t:=55) hr_ ?_;intro gb135 hg w22 hbox hb;have BK135:=am hbox;have GW135:=gwE HB hg;have GE135:=gwE HB hg;replace HB:=hbS HB hb;clear hb hbox hg;have:=bcell BK135 0;have:=bcell BK135 1;have:=bfz BK135 0;have:=bfz BK135 1) | ((with_reducible refine gC 46 rfl ?_);refine gL (some 4) Tryz.func46 #[.agg #[.int .i64 a0_0,.int .i64 a0_1]] ?_;(with_reducible refine (spec_EndInside.calls a0_0 a0_1 false _ A2.out).mono ?_);rintro e w24 ⟨rfl,hb⟩;refine ⟨_,rfl,?_⟩;replace BK135:=bkB BK135 hb;replace HB:=hbS HB hb;(try clear hb);have:=bcell BK135 0;have:=bcell BK135 1;have:=bfz BK135 0;have:=bfz BK135 1) | (go_at_call 143;(with_reducible refine (spec_EndOutside.calls a0_0 a0_1 false _ A7.out).mono ?_);rintro e w26 ⟨rfl,hb⟩;replace BK135:=bkB BK135 hb;replace HB:=hbS HB hb;(try clear hb);have:=bcell BK135 0;have:=bcell BK135 1;have:=bfz BK135 0;have:=bfz BK135 1))
    go_ret
    exact ⟨fi_,m2_⟩
def spec_l1Words.l0 : Nat → ByteArray → List ByteArray → ByteArray → Int → Option (List ByteArray)
 | 0,_,_,_,_=>none
 | k + 1,x0,x3,x4,x5=>if x5 < (x0.size : Int) then (if 0 ≤ x5 then (if (bt x0 x5) = 32 then (if x3.length < 8796093022208 then (spec_l1Words.l0 k x0 (x3 ++ [x4]) (⟨#[]⟩ : ByteArray) (wrap64 (x5 + 1))) else (none)) else (if x5 ≤ (wrap64 (x5 + 1)) then (if (wrap64 (x5 + 1)) ≤ (x0.size : Int) then (if x4.size + (x0.extract (x5 : Int).toNat ((wrap64 (x5 + 1)) : Int).toNat).size ≤ 9223372036854775807 then (spec_l1Words.l0 k x0 x3 (x4 ++ (x0.extract (x5 : Int).toNat ((wrap64 (x5 + 1)) : Int).toNat)) (wrap64 (x5 + 1))) else (none)) else (none)) else (none))) else (none)) else (if x3.length < 8796093022208 then (some (x3 ++ [x4])) else (none))
def spec_l1Words.f (k : Nat) (a0 : ByteArray) : Option (List ByteArray):=spec_l1Words.l0 k a0 (([] : List ByteArray)) (⟨#[]⟩ : ByteArray) 0
theorem spec_l1Words.mono_l : ∀ k,(∀ y0 y1 y2 y3,LeO (spec_l1Words.l0 k y0 y1 y2 y3) (spec_l1Words.l0 (k + 1) y0 y1 y2 y3))
 | 0=>fun _ _ _ _ r h=>by simp [spec_l1Words.l0] at h
 | k + 1=>by
  have ih0:=spec_l1Words.mono_l k
  ·intro y0 y1 y2 y3
   unfold spec_l1Words.l0
   repeat' first | (with_reducible first | exact ih0 _ _ _ _ | exact LeO.refl _ | exact LeO.none _ | refine LeO.ite ?_ ?_ | refine LeO.bind ?_ (fun _=>?_)) | exact ih0 _ _ _ _ | exact LeO.none _ | refine LeO.ite ?_ ?_ | refine LeO.bind ?_ (fun _=>?_)
theorem spec_l1Words.mono : ∀ a0 k,LeO (spec_l1Words.f k a0) (spec_l1Words.f (k + 1) a0):=by
 intro a0 k
 have ih0:=spec_l1Words.mono_l k
 unfold spec_l1Words.f
 repeat' first | (with_reducible first | exact ih0 _ _ _ _ | exact LeO.refl _ | exact LeO.none _ | refine LeO.ite ?_ ?_ | refine LeO.bind ?_ (fun _=>?_)) | exact ih0 _ _ _ _ | exact LeO.none _ | refine LeO.ite ?_ ?_ | refine LeO.bind ?_ (fun _=>?_)
set_option maxHeartbeats 8000000 in
set_option maxRecDepth 100000 in
theorem spec_l1Words.calls (k : Nat) (a0 : ByteArray) (r : List ByteArray) (w : World) (h : spec_l1Words.f k a0 = some r) :
  Calls Tryz.prog 141 #[.string a0] w fun e w'=>∃ v0_ : Value,e = .returned (v0_) ∧ Kd.R Kd.string 9 w' w.heap.size (fun _=>True) v0_ r ∧ Below w.heap.size w w':=by
 have HB:=am (Below.refl w.heap.size w)
 have H : (spec_l1Words.l0 k a0 (([] : List ByteArray)) (⟨#[]⟩ : ByteArray) 0) = some r:=h
 clear h
 obtain ⟨y139,hy139⟩ : ∃ y_ : List ByteArray,y_ = (([] : List ByteArray)):=⟨_,rfl⟩
 replace H : (spec_l1Words.l0 k a0 y139 (⟨#[]⟩ : ByteArray) 0) = some r:=by first | (rw [hy139];with_reducible exact H) | (have H2_:=(Option.bind_some _ _).symm.trans H;rw [hy139];with_reducible exact H2_) | (have H2_:=(Option.bind_some _ _).symm.trans H;with_reducible exact H2_) | with_reducible exact H | (rw [hy139];exact H) | exact H
 have Ny139:=am hy139
 clear hy139
 have H':=am H
 clear H
 go_enter Tryz.func141,Tryz.ntmps141
 go_wp2_with (first | ((with_reducible refine gD 6 rfl ?_);refine Kd.R_lit Kd.string _ 9 rfl (N:=6) rfl (xs:=([] : List ByteArray)) (inner:=[]) (ok:=fun _=>True) (okp:=fun _=>True) hr_ ?hp (fun _ hk=>hk) trivial (Below.refl _ _) (Nat.le_refl _) (by simp) ?_;(case hp=>exact (Reps.none _ _));intro v140 w2 ho3 hb hg_ hnew_;clear hg_ hnew_;(first | rw [← Ny139.out] at ho3 | (simp only [Int.reduceToNat] at ho3;rw [← Ny139.out] at ho3));have HO141:=am (Kd.R_lower ho3 (below_size (bl HB)));replace HB:=hbS HB hb;clear hb ho3))
 go_loopg [3,4,5] k (fun kq v3 v4 v5 w'=>∃ (x3_1 : List ByteArray) (x4_1 : ByteArray) (x5_1 : Int),v4 = .string x4_1 ∧ v5 = .int .i64 x5_1 ∧ Aside0 (spec_l1Words.l0 kq a0 x3_1 x4_1 x5_1 = some r) ∧ Aside0 (kq ≤ k) ∧ Aside0 (Kd.R Kd.string 9 w' w.heap.size (fun _=>True) v3 x3_1) ∧ Aside0 (Below w.heap.size w w'))
 case atStart=>exact ⟨(y139),((⟨#[]⟩ : ByteArray)),(0),rs_,rs_,H',⟨Nat.le_refl _⟩,⟨by (with_reducible repeat apply ru);exact HO141.out⟩,⟨m0_⟩⟩
 case round=>
  clear H'
  try clear c1
  try clear p2
  obtain ⟨x3_1,x4_1,x5_1,rfl,rfl,HA,HK1,HO_3,HB⟩:=hrel
  cases gk with
  | zero=>exact absurd HA.out (by simp [spec_l1Words.l0])
  | succ k1=>
   have H:=HA.out
   clear HA
   simp only [spec_l1Words.l0] at H
   by_cases c4 : x5_1 < (a0.size : Int)
   ·rw [if_pos c4] at H
    have c4b0 : decide (x5_1 < (a0.size : Int)) = true:=decide_eq_true c4
    clear c4
    by_cases c5 : 0 ≤ x5_1
    ·rw [if_pos c5] at H
     have c5b0 : decide (0 ≤ x5_1) = true:=decide_eq_true c5
     clear c5
     by_cases c7 : (bt a0 x5_1) = 32
     ·rw [if_pos c7] at H
      have c7b0 : ((bt a0 x5_1) == 32) = true:=beq_iff_eq.mpr c7
      have c7b1 : ((bt a0 x5_1) != 32) = false:=bne_eq_false_iff_eq.mpr c7
      clear c7
      by_cases c8 : x3_1.length < 8796093022208
      ·rw [if_pos c8] at H
       have LMc8:=am c8
       clear c8
       obtain ⟨y142,hy142⟩ : ∃ y_ : List ByteArray,y_ = (x3_1 ++ [x4_1]):=⟨_,rfl⟩
       replace H : (spec_l1Words.l0 k1 a0 y142 (⟨#[]⟩ : ByteArray) (wrap64 (x5_1 + 1))) = some r:=by first | (rw [hy142];with_reducible exact H) | (have H2_:=(Option.bind_some _ _).symm.trans H;rw [hy142];with_reducible exact H2_) | (have H2_:=(Option.bind_some _ _).symm.trans H;with_reducible exact H2_) | with_reducible exact H | (rw [hy142];exact H) | exact H
       have Ny142:=am hy142
       clear hy142
       have H':=am H
       clear H
       have p6 : 0 ≤ (x5_1 : Int):=of_decide_eq_true da_
       have q6 : x5_1 < (a0.size : Int):=of_decide_eq_true da_
       have hx6:=bt_at a0 x5_1
       replace p6:=eq_true p6
       replace q6:=eq_true q6
       go_wp2_with (first | ((with_reducible refine gate_builtin (b:=.append) (xs:=#[.tmp 17,.tmp 19]) rfl ?_);at_builtin;refine Kd.R_append Kd.string (w0:=w) w.heap.size rfl (.tmp 17) (.tmp 19) 45 9 (.string ⟨#[]⟩) 16 rfl Tryz.underlying45 info9 rfl (by decide) (by omega) u3 x3_1 x4_1 [.string x4_1] (fun _=>True) (fun _=>False) rfl rfl ?aP (fun _ hk=>hk.elim) ?aF ?aO ?aB ?aS ?aL ?_;(case aP=>exact rfl);(case aB=>exact (bl HB));(case aF=>exact (fun _ _=>trivial));(case aO=>exact (rs HO_3));(case aS=>exact (below_size (bl HB)));(case aL=>have:=LMc8.out;omega);intro v143 w9 ho hb hg hat;rw [← Ny142.out] at ho;replace HB:=am hb;have HO144:=am (ho);clear HO_3;clear ho hb hg hat))
       go_roundg k1
       case measure=>have:=HK1.out;omega
       case rel=>exact ⟨(y142),((⟨#[]⟩ : ByteArray)),(wrap64 (x5_1 + 1)),rs_,rs_,H',⟨by have:=HK1.out;omega⟩,⟨by (with_reducible repeat apply ru);exact HO144.out⟩,⟨m0_⟩⟩
      ·rw [if_neg c8] at H
       exact absurd H (by simp)
     ·rw [if_neg c7] at H
      have c7b0 : ((bt a0 x5_1) == 32) = false:=beq_eq_false_iff_ne.mpr c7
      have c7b1 : ((bt a0 x5_1) != 32) = true:=bne_iff_ne.mpr c7
      have c10b0:=eq_true (of_decide_eq_true da_ : 0 ≤ x5_1)
      by_cases c11 : x5_1 ≤ (wrap64 (x5_1 + 1))
      ·rw [if_pos c11] at H
       have c11b0:=eq_true c11
       have c11b1 : decide (x5_1 ≤ (wrap64 (x5_1 + 1))) = true:=decide_eq_true c11
       by_cases c12 : (wrap64 (x5_1 + 1)) ≤ (a0.size : Int)
       ·rw [if_pos c12] at H
        have c12b0:=eq_true c12
        have c12b1 : decide ((wrap64 (x5_1 + 1)) ≤ (a0.size : Int)) = true:=decide_eq_true c12
        by_cases c13 : x4_1.size + (a0.extract (x5_1 : Int).toNat ((wrap64 (x5_1 + 1)) : Int).toNat).size ≤ 9223372036854775807
        ·rw [if_pos c13] at H
         have c13b0:=eq_true c13
         have c13b1 : decide (x4_1.size + (a0.extract (x5_1 : Int).toNat ((wrap64 (x5_1 + 1)) : Int).toNat).size ≤ 9223372036854775807) = true:=decide_eq_true c13
         try have c13b2 : (9223372036854775807 < x4_1.size + (a0.extract (x5_1 : Int).toNat ((wrap64 (x5_1 + 1)) : Int).toNat).size) = False:=eq_false (Nat.not_lt.2 c13)
         have H':=am H
         clear H
         have p6 : 0 ≤ (x5_1 : Int):=of_decide_eq_true da_
         have q6 : x5_1 < (a0.size : Int):=of_decide_eq_true da_
         have hx6:=bt_at a0 x5_1
         replace p6:=eq_true p6
         replace q6:=eq_true q6
         go_wp2
         go_roundg k1
         case measure=>have:=HK1.out;omega
         case rel=>exact ⟨(x3_1),(x4_1 ++ (a0.extract (x5_1 : Int).toNat ((wrap64 (x5_1 + 1)) : Int).toNat)),(wrap64 (x5_1 + 1)),rs_,rs_,H',⟨by have:=HK1.out;omega⟩,⟨by (with_reducible repeat apply ru);exact HO_3.out⟩,⟨m0_⟩⟩
        ·rw [if_neg c13] at H
         exact absurd H (by simp)
       ·rw [if_neg c12] at H
        exact absurd H (by simp)
      ·rw [if_neg c11] at H
       exact absurd H (by simp)
    ·rw [if_neg c5] at H
     exact absurd H (by simp)
   ·rw [if_neg c4] at H
    have c4b0 : decide (x5_1 < (a0.size : Int)) = false:=decide_eq_false c4
    clear c4
    by_cases c14 : x3_1.length < 8796093022208
    ·rw [if_pos c14] at H
     have LMc14:=am c14
     clear c14
     obtain ⟨y145,hy145⟩ : ∃ y_ : List ByteArray,y_ = (x3_1 ++ [x4_1]):=⟨_,rfl⟩
     replace H : (some y145) = some r:=by first | (rw [hy145];with_reducible exact H) | (have H2_:=(Option.bind_some _ _).symm.trans H;rw [hy145];with_reducible exact H2_) | (have H2_:=(Option.bind_some _ _).symm.trans H;with_reducible exact H2_) | with_reducible exact H | (rw [hy145];exact H) | exact H
     have Ny145:=am hy145
     clear hy145
     obtain rfl:=Option.some.inj H
     go_wp2_with (first | ((with_reducible refine gate_builtin (b:=.append) (xs:=#[.tmp 28,.tmp 30]) rfl ?_);at_builtin;refine Kd.R_append Kd.string (w0:=w) w.heap.size rfl (.tmp 28) (.tmp 30) 45 9 (.string ⟨#[]⟩) 16 rfl Tryz.underlying45 info9 rfl (by decide) (by omega) u3 x3_1 x4_1 [.string x4_1] (fun _=>True) (fun _=>False) rfl rfl ?aP (fun _ hk=>hk.elim) ?aF ?aO ?aB ?aS ?aL ?_;(case aP=>exact rfl);(case aB=>exact (bl HB));(case aF=>exact (fun _ _=>trivial));(case aO=>exact (rs HO_3));(case aS=>exact (below_size (bl HB)));(case aL=>have:=LMc14.out;omega);intro v146 w15 ho hb hg hat;rw [← Ny145.out] at ho;replace HB:=am hb;have HO147:=am (ho);clear HO_3;clear ho hb hg hat))
     go_ret
     exact ⟨_,fi_,by (with_reducible repeat apply ru);exact HO147.out,m0_⟩
    ·rw [if_neg c14] at H
     exact absurd H (by simp)
def spec_l1Plain.l0 : Nat → Int → ByteArray → Option (ByteArray)
 | 0,_,_=>none
 | k + 1,x0,x3=>if x0 > 9 then ((some (([(wrap64 (48 + (Int.tmod x0 10))) % 256] : List Int) : List Int)).bind fun y148=>(if (strOfNums y148).size + x3.size ≤ 9223372036854775807 then (spec_l1Plain.l0 k (wrap64 (Int.tdiv x0 10)) ((strOfNums y148) ++ x3)) else (none))) else ((some (([(wrap64 (48 + x0)) % 256] : List Int) : List Int)).bind fun y151=>(if (strOfNums y151).size + x3.size ≤ 9223372036854775807 then (some ((strOfNums y151) ++ x3)) else (none)))
def spec_l1Plain.f (k : Nat) (a0 : Int) : Option (ByteArray):=spec_l1Plain.l0 k a0 (⟨#[]⟩ : ByteArray)
theorem spec_l1Plain.mono_l : ∀ k,(∀ y0 y1,LeO (spec_l1Plain.l0 k y0 y1) (spec_l1Plain.l0 (k + 1) y0 y1))
 | 0=>fun _ _ r h=>by simp [spec_l1Plain.l0] at h
 | k + 1=>by
  have ih0:=spec_l1Plain.mono_l k
  ·intro y0 y1
   unfold spec_l1Plain.l0
   repeat' first | (with_reducible first | exact ih0 _ _ | exact LeO.refl _ | exact LeO.none _ | refine LeO.ite ?_ ?_ | refine LeO.bind ?_ (fun _=>?_)) | exact ih0 _ _ | exact LeO.none _ | refine LeO.ite ?_ ?_ | refine LeO.bind ?_ (fun _=>?_)
theorem spec_l1Plain.mono : ∀ a0 k,LeO (spec_l1Plain.f k a0) (spec_l1Plain.f (k + 1) a0):=by
 intro a0 k
 have ih0:=spec_l1Plain.mono_l k
 unfold spec_l1Plain.f
 repeat' first | (with_reducible first | exact ih0 _ _ | exact LeO.refl _ | exact LeO.none _ | refine LeO.ite ?_ ?_ | refine LeO.bind ?_ (fun _=>?_)) | exact ih0 _ _ | exact LeO.none _ | refine LeO.ite ?_ ?_ | refine LeO.bind ?_ (fun _=>?_)
set_option maxHeartbeats 8000000 in
set_option maxRecDepth 100000 in
theorem spec_l1Plain.calls (k : Nat) (a0 : Int) (r : ByteArray) (w : World) (h : spec_l1Plain.f k a0 = some r) :
  Calls Tryz.prog 144 #[.int .i64 a0] w fun e w'=>e = .returned (.string r) ∧ Below w.heap.size w w':=by
 have HB:=am (Below.refl w.heap.size w)
 have H : (spec_l1Plain.l0 k a0 (⟨#[]⟩ : ByteArray)) = some r:=h
 clear h
 have H':=am H
 clear H
 go_enter Tryz.func144,Tryz.ntmps144
 go_wp2
 go_loopg [0,3] k (fun kq v0 v3 w'=>∃ (x0_1 : Int) (x3_1 : ByteArray),v0 = .int .i64 x0_1 ∧ v3 = .string x3_1 ∧ Aside0 (spec_l1Plain.l0 kq x0_1 x3_1 = some r) ∧ Aside0 (kq ≤ k) ∧ Aside0 (Below w.heap.size w w'))
 case atStart=>exact ⟨(a0),((⟨#[]⟩ : ByteArray)),rs_,rs_,H',⟨Nat.le_refl _⟩,⟨m0_⟩⟩
 case round=>
  clear H'
  try clear c1
  obtain ⟨x0_1,x3_1,rfl,rfl,HA,HK1,HB⟩:=hrel
  cases gk with
  | zero=>exact absurd HA.out (by simp [spec_l1Plain.l0])
  | succ k1=>
   have H:=HA.out
   clear HA
   simp only [spec_l1Plain.l0] at H
   by_cases c2 : x0_1 > 9
   ·rw [if_pos c2] at H
    have c2b0 : decide (9 < x0_1) = true:=decide_eq_true c2
    clear c2
    obtain ⟨y148,hy148⟩ : ∃ y_ : List Int,y_ = (([(wrap64 (48 + (Int.tmod x0_1 10))) % 256] : List Int)):=⟨_,rfl⟩
    replace H : (if (strOfNums y148).size + x3_1.size ≤ 9223372036854775807 then (spec_l1Plain.l0 k1 (wrap64 (Int.tdiv x0_1 10)) ((strOfNums y148) ++ x3_1)) else (none)) = some r:=by first | (rw [hy148];with_reducible exact H) | (have H2_:=(Option.bind_some _ _).symm.trans H;rw [hy148];with_reducible exact H2_) | (have H2_:=(Option.bind_some _ _).symm.trans H;with_reducible exact H2_) | with_reducible exact H | (rw [hy148];exact H) | exact H
    have Ny148:=am hy148
    clear hy148
    by_cases c3 : (strOfNums y148).size + x3_1.size ≤ 9223372036854775807
    ·rw [if_pos c3] at H
     have c3b0:=eq_true c3
     have c3b1 : decide ((strOfNums y148).size + x3_1.size ≤ 9223372036854775807) = true:=decide_eq_true c3
     try have c3b2 : (9223372036854775807 < (strOfNums y148).size + x3_1.size) = False:=eq_false (Nat.not_lt.2 c3)
     have H':=am H
     clear H
     go_wp2_with (first | ((with_reducible refine gD 10 rfl ?_);refine Kd.R_lit (Kd.int .u8) _ 5 rfl (N:=10) rfl (xs:=([(wrap64 (48 + (Int.tmod x0_1 10))) % 256] : List Int)) (inner:=[.int .u8 ((wrap64 (48 + (Int.tmod x0_1 10))) % 256)]) (ok:=fun _=>True) (okp:=fun _=>True) hr_ ?hp (fun _ hk=>hk) trivial (Below.refl _ _) (Nat.le_refl _) (by simp) ?_;(case hp=>exact (Reps.one (show Kd.M (Kd.int .u8) _ _ _ ((wrap64 (48 + (Int.tmod x0_1 10))) % 256) [.int .u8 ((wrap64 (48 + (Int.tmod x0_1 10))) % 256)] from rfl) (Reps.none _ _)));intro v149 w4 ho5 hb hg_ hnew_;clear hg_ hnew_;(first | rw [← Ny148.out] at ho5 | (simp only [Int.reduceToNat] at ho5;rw [← Ny148.out] at ho5));have HO150:=am (Kd.R_lower ho5 (below_size (bl HB)));replace HB:=hbS HB hb;clear hb ho5;have hcv6:=own_string (P:=Tryz.prog) Tryz.underlying39 Tryz.underlying5 Tryz.underlying9 (Kd.own_of_R HO150.out)))
     go_roundg k1
     case measure=>have:=HK1.out;omega
     case rel=>exact ⟨(wrap64 (Int.tdiv x0_1 10)),((strOfNums y148) ++ x3_1),rs_,rs_,H',⟨by have:=HK1.out;omega⟩,⟨m0_⟩⟩
    ·rw [if_neg c3] at H
     exact absurd H (by simp)
   ·rw [if_neg c2] at H
    have c2b0 : decide (9 < x0_1) = false:=decide_eq_false c2
    clear c2
    obtain ⟨y151,hy151⟩ : ∃ y_ : List Int,y_ = (([(wrap64 (48 + x0_1)) % 256] : List Int)):=⟨_,rfl⟩
    replace H : (if (strOfNums y151).size + x3_1.size ≤ 9223372036854775807 then (some ((strOfNums y151) ++ x3_1)) else (none)) = some r:=by first | (rw [hy151];with_reducible exact H) | (have H2_:=(Option.bind_some _ _).symm.trans H;rw [hy151];with_reducible exact H2_) | (have H2_:=(Option.bind_some _ _).symm.trans H;with_reducible exact H2_) | with_reducible exact H | (rw [hy151];exact H) | exact H
    have Ny151:=am hy151
    clear hy151
    by_cases c7 : (strOfNums y151).size + x3_1.size ≤ 9223372036854775807
    ·rw [if_pos c7] at H
     have c7b0:=eq_true c7
     have c7b1 : decide ((strOfNums y151).size + x3_1.size ≤ 9223372036854775807) = true:=decide_eq_true c7
     try have c7b2 : (9223372036854775807 < (strOfNums y151).size + x3_1.size) = False:=eq_false (Nat.not_lt.2 c7)
     obtain rfl:=Option.some.inj H
     go_wp2_with (first | ((with_reducible refine gD 19 rfl ?_);refine Kd.R_lit (Kd.int .u8) _ 5 rfl (N:=19) rfl (xs:=([(wrap64 (48 + x0_1)) % 256] : List Int)) (inner:=[.int .u8 ((wrap64 (48 + x0_1)) % 256)]) (ok:=fun _=>True) (okp:=fun _=>True) hr_ ?hp (fun _ hk=>hk) trivial (Below.refl _ _) (Nat.le_refl _) (by simp) ?_;(case hp=>exact (Reps.one (show Kd.M (Kd.int .u8) _ _ _ ((wrap64 (48 + x0_1)) % 256) [.int .u8 ((wrap64 (48 + x0_1)) % 256)] from rfl) (Reps.none _ _)));intro v152 w8 ho9 hb hg_ hnew_;clear hg_ hnew_;(first | rw [← Ny151.out] at ho9 | (simp only [Int.reduceToNat] at ho9;rw [← Ny151.out] at ho9));have HO153:=am (Kd.R_lower ho9 (below_size (bl HB)));replace HB:=hbS HB hb;clear hb ho9;have hcv10:=own_string (P:=Tryz.prog) Tryz.underlying39 Tryz.underlying5 Tryz.underlying9 (Kd.own_of_R HO153.out)))
     go_ret
     exact ⟨fi_,m0_⟩
    ·rw [if_neg c7] at H
     exact absurd H (by simp)
mutual
def spec_l1Num.j0 : Nat → ByteArray → Bool → Option (Int)
 | 0,_,_=>none
 | k + 1,x0,x12=>if x12 = true then (some (-1)) else (spec_l1Num.l0 k x0 0 0)
def spec_l1Num.l0 : Nat → ByteArray → Int → Int → Option (Int)
 | 0,_,_,_=>none
 | k + 1,x0,x3,x4=>if x4 < (x0.size : Int) then (if 0 ≤ x4 then (if (bt x0 x4) < 48 then (some (-1)) else (if (bt x0 x4) > 57 then (some (-1)) else (spec_l1Num.l0 k x0 (wrap64 ((wrap64 (x3 * 10)) + (((bt x0 x4) - 48) % 256))) (wrap64 (x4 + 1))))) else (none)) else ((spec_l1Plain.f k x3).bind fun t154=>(if t154.toList = x0.toList then (some x3) else (some (-1))))
end
def spec_l1Num.f (k : Nat) (a0 : ByteArray) : Option (Int):=if (a0.size : Int) = 0 then (spec_l1Num.j0 k a0 true) else (spec_l1Num.j0 k a0 (decide ((a0.size : Int) > 4)))
theorem spec_l1Num.mono_l : ∀ k,(∀ y0 y1,LeO (spec_l1Num.j0 k y0 y1) (spec_l1Num.j0 (k + 1) y0 y1)) ∧ (∀ y0 y1 y2,LeO (spec_l1Num.l0 k y0 y1 y2) (spec_l1Num.l0 (k + 1) y0 y1 y2))
 | 0=>⟨fun _ _ r h=>by simp [spec_l1Num.j0] at h,fun _ _ _ r h=>by simp [spec_l1Num.l0] at h⟩
 | k + 1=>by
  obtain ⟨ih0,ih1⟩:=spec_l1Num.mono_l k
  refine ⟨?_,?_⟩
  ·intro y0 y1
   unfold spec_l1Num.j0
   repeat' first | (with_reducible first | exact ih0 _ _ | exact ih1 _ _ _ | exact spec_l1Plain.mono _ _ | exact LeO.refl _ | exact LeO.none _ | refine LeO.ite ?_ ?_ | refine LeO.bind ?_ (fun _=>?_)) | exact ih0 _ _ | exact ih1 _ _ _ | exact spec_l1Plain.mono _ _ | exact LeO.none _ | refine LeO.ite ?_ ?_ | refine LeO.bind ?_ (fun _=>?_)
  ·intro y0 y1 y2
   unfold spec_l1Num.l0
   repeat' first | (with_reducible first | exact ih0 _ _ | exact ih1 _ _ _ | exact spec_l1Plain.mono _ _ | exact LeO.refl _ | exact LeO.none _ | refine LeO.ite ?_ ?_ | refine LeO.bind ?_ (fun _=>?_)) | exact ih0 _ _ | exact ih1 _ _ _ | exact spec_l1Plain.mono _ _ | exact LeO.none _ | refine LeO.ite ?_ ?_ | refine LeO.bind ?_ (fun _=>?_)
theorem spec_l1Num.mono : ∀ a0 k,LeO (spec_l1Num.f k a0) (spec_l1Num.f (k + 1) a0):=by
 intro a0 k
 obtain ⟨ih0,ih1⟩:=spec_l1Num.mono_l k
 unfold spec_l1Num.f
 repeat' first | (with_reducible first | exact ih0 _ _ | exact ih1 _ _ _ | exact spec_l1Plain.mono _ _ | exact LeO.refl _ | exact LeO.none _ | refine LeO.ite ?_ ?_ | refine LeO.bind ?_ (fun _=>?_)) | exact ih0 _ _ | exact ih1 _ _ _ | exact spec_l1Plain.mono _ _ | exact LeO.none _ | refine LeO.ite ?_ ?_ | refine LeO.bind ?_ (fun _=>?_)
set_option maxHeartbeats 8000000 in
set_option maxRecDepth 100000 in
theorem spec_l1Num.calls (k : Nat) (a0 : ByteArray) (r : Int) (w : World) (h : spec_l1Num.f k a0 = some r) :
  Calls Tryz.prog 142 #[.string a0] w fun e w'=>e = .returned (.int .i64 r) ∧ Below w.heap.size w w':=by
 have HB:=am (Below.refl w.heap.size w)
 have H : (if (a0.size : Int) = 0 then (spec_l1Num.j0 k a0 true) else (spec_l1Num.j0 k a0 (decide ((a0.size : Int) > 4)))) = some r:=h
 clear h
 have HC2:=am H
 clear H
 go_enter Tryz.func142,Tryz.ntmps142
 go_upto_region 1 with (fail)
 go_cut [12] (fun v12 wc=>∃ (kq : Nat) (x12_1 : Bool),v12 = .bool x12_1 ∧ Aside0 (spec_l1Num.j0 kq a0 x12_1 = some r) ∧ Aside0 (kq ≤ k) ∧ Aside0 (Below w.heap.size w wc))
 case first=>
  have H:=HC2.out
  clear HC2
  by_cases c3 : (a0.size : Int) = 0
  ·rw [if_pos c3] at H
   have c3b0 : ((a0.size : Int) == 0) = true:=beq_iff_eq.mpr c3
   have c3b1 : ((a0.size : Int) != 0) = false:=bne_eq_false_iff_eq.mpr c3
   clear c3
   (first | rw [c3b0] | (simp only [i64_w,i32_w];rw [c3b0]) | skip)
   have H':=am H
   clear H
   go_wp2
   go_meet
   case rel=>exact ⟨_,(true),rs_,H',⟨by first | omega | exact Nat.le_refl _⟩,⟨m0_⟩⟩
  ·rw [if_neg c3] at H
   have c3b0 : ((a0.size : Int) == 0) = false:=beq_eq_false_iff_ne.mpr c3
   have c3b1 : ((a0.size : Int) != 0) = true:=bne_iff_ne.mpr c3
   (first | rw [c3b0] | (simp only [i64_w,i32_w];rw [c3b0]) | skip)
   have H':=am H
   clear H
   go_wp2
   go_meet
   case rel=>exact ⟨_,(decide ((a0.size : Int) > 4)),rs_,H',⟨by first | omega | exact Nat.le_refl _⟩,⟨m0_⟩⟩
 case rest=>
  clear HC2
  try clear c1
  try clear p2
  try clear c3
  try clear c3b0
  try clear c3b1
  obtain ⟨kq,x12_1,rfl,HA,HJ1,HB⟩:=hcut
  cases kq with
  | zero=>exact absurd HA.out (by simp [spec_l1Num.j0])
  | succ kj1=>
   have H:=HA.out
   clear HA
   simp only [spec_l1Num.j0] at H
   by_cases c4 : x12_1 = true
   ·subst c4
    have H1 : (some (-1)) = some r:=by rw [if_pos rfl] at H;exact H
    clear H
    have H:=H1
    clear H1
    obtain rfl:=Option.some.inj H
    go_wp2
    go_ret
    exact ⟨fi_,m0_⟩
   ·replace c4:=Bool.eq_false_iff.mpr c4
    subst c4
    have H1 : (spec_l1Num.l0 kj1 a0 0 0) = some r:=by rw [if_neg (show ¬ (false = true) by decide)] at H;exact H
    clear H
    have H:=H1
    clear H1
    have H':=am H
    clear H
    go_wp2
    go_loopg [3,4] kj1 (fun kq v3 v4 w'=>∃ (x3_2 : Int) (x4_2 : Int),v3 = .int .i64 x3_2 ∧ v4 = .int .i64 x4_2 ∧ Aside0 (spec_l1Num.l0 kq a0 x3_2 x4_2 = some r) ∧ Aside0 (kq ≤ kj1) ∧ Aside0 (Below w.heap.size w w'))
    case atStart=>exact ⟨(0),(0),rs_,rs_,H',⟨Nat.le_refl _⟩,⟨m0_⟩⟩
    case round=>
     clear H'
     try clear c1
     try clear p2
     try clear c3
     try clear c3b0
     try clear c3b1
     try clear c4
     try clear p2
     obtain ⟨x3_2,x4_2,rfl,rfl,HA,HK2,HB⟩:=hrel
     cases gk with
     | zero=>exact absurd HA.out (by simp [spec_l1Num.l0])
     | succ k2=>
      have H:=HA.out
      clear HA
      simp only [spec_l1Num.l0] at H
      by_cases c5 : x4_2 < (a0.size : Int)
      ·rw [if_pos c5] at H
       have c5b0 : decide (x4_2 < (a0.size : Int)) = true:=decide_eq_true c5
       clear c5
       by_cases c6 : 0 ≤ x4_2
       ·rw [if_pos c6] at H
        have c6b0 : decide (0 ≤ x4_2) = true:=decide_eq_true c6
        clear c6
        by_cases c8 : (bt a0 x4_2) < 48
        ·rw [if_pos c8] at H
         have c8b0 : decide ((bt a0 x4_2) < 48) = true:=decide_eq_true c8
         clear c8
         obtain rfl:=Option.some.inj H
         have p7 : 0 ≤ (x4_2 : Int):=of_decide_eq_true da_
         have q7 : x4_2 < (a0.size : Int):=of_decide_eq_true da_
         have hx7:=bt_at a0 x4_2
         replace p7:=eq_true p7
         replace q7:=eq_true q7
         go_wp2
         go_ret
         exact ⟨fi_,m0_⟩
        ·rw [if_neg c8] at H
         have c8b0 : decide ((bt a0 x4_2) < 48) = false:=decide_eq_false c8
         clear c8
         by_cases c10 : (bt a0 x4_2) > 57
         ·rw [if_pos c10] at H
          have c10b0 : decide (57 < (bt a0 x4_2)) = true:=decide_eq_true c10
          clear c10
          obtain rfl:=Option.some.inj H
          have p7 : 0 ≤ (x4_2 : Int):=of_decide_eq_true da_
          have q7 : x4_2 < (a0.size : Int):=of_decide_eq_true da_
          have hx7:=bt_at a0 x4_2
          replace p7:=eq_true p7
          replace q7:=eq_true q7
          have p9 : 0 ≤ (x4_2 : Int):=of_decide_eq_true da_
          have q9 : x4_2 < (a0.size : Int):=of_decide_eq_true da_
          have hx9:=bt_at a0 x4_2
          replace p9:=eq_true p9
          replace q9:=eq_true q9
          go_wp2
          go_ret
          exact ⟨fi_,m0_⟩
         ·rw [if_neg c10] at H
          have c10b0 : decide (57 < (bt a0 x4_2)) = false:=decide_eq_false c10
          clear c10
          have H':=am H
          clear H
          have p7 : 0 ≤ (x4_2 : Int):=of_decide_eq_true da_
          have q7 : x4_2 < (a0.size : Int):=of_decide_eq_true da_
          have hx7:=bt_at a0 x4_2
          replace p7:=eq_true p7
          replace q7:=eq_true q7
          have p9 : 0 ≤ (x4_2 : Int):=of_decide_eq_true da_
          have q9 : x4_2 < (a0.size : Int):=of_decide_eq_true da_
          have hx9:=bt_at a0 x4_2
          replace p9:=eq_true p9
          replace q9:=eq_true q9
          have p11 : 0 ≤ (x4_2 : Int):=of_decide_eq_true da_
          have q11 : x4_2 < (a0.size : Int):=of_decide_eq_true da_
          have hx11:=bt_at a0 x4_2
          replace p11:=eq_true p11
          replace q11:=eq_true q11
          go_wp2
          go_roundg k2
          case measure=>have:=HJ1.out;have:=HK2.out;omega
          case rel=>exact ⟨(wrap64 ((wrap64 (x3_2 * 10)) + (((bt a0 x4_2) - 48) % 256))),(wrap64 (x4_2 + 1)),rs_,rs_,H',⟨by have:=HJ1.out;have:=HK2.out;omega⟩,⟨m0_⟩⟩
       ·rw [if_neg c6] at H
        exact absurd H (by simp)
      ·rw [if_neg c5] at H
       have c5b0 : decide (x4_2 < (a0.size : Int)) = false:=decide_eq_false c5
       clear c5
       obtain ⟨t154,A12,H⟩:=bse H
       try dsimp only at H
       by_cases c13 : t154.toList = a0.toList
       ·rw [if_pos c13] at H
        have c13b0 : (t154.toList == a0.toList) = true:=beq_iff_eq.mpr c13
        have c13b1 : (t154.toList != a0.toList) = false:=bne_eq_false_iff_eq.mpr c13
        clear c13
        obtain rfl:=Option.some.inj H
        go_wp2_with (first | ((with_reducible refine gC 144 rfl ?_);refine gL (some 38) Tryz.func144 #[.int .i64 x3_2] ?_;(with_reducible refine (spec_l1Plain.calls k2 x3_2 t154 _ A12.out).mono ?_);rintro e w14 ⟨rfl,hb⟩;refine ⟨_,rfl,?_⟩;replace HB:=hbS HB hb;(try clear hb)))
        go_ret
        exact ⟨fi_,m0_⟩
       ·rw [if_neg c13] at H
        have c13b0 : (t154.toList == a0.toList) = false:=beq_eq_false_iff_ne.mpr c13
        have c13b1 : (t154.toList != a0.toList) = true:=bne_iff_ne.mpr c13
        obtain rfl:=Option.some.inj H
        go_wp2_with (first | ((with_reducible refine gC 144 rfl ?_);refine gL (some 38) Tryz.func144 #[.int .i64 x3_2] ?_;(with_reducible refine (spec_l1Plain.calls k2 x3_2 t154 _ A12.out).mono ?_);rintro e w15 ⟨rfl,hb⟩;refine ⟨_,rfl,?_⟩;replace HB:=hbS HB hb;(try clear hb)))
        go_ret
        exact ⟨fi_,m0_⟩
def spec_EndRead.f (k : Nat) (a0 : ByteArray) : Option (Int × Int × Bool):=(spec_l1Words.f k a0).bind fun t156=>(if (t156.length : Int) = 2 then (if 0 < (t156.length : Int) then ((spec_l1Num.f k (rdOf ByteArray.empty t156 0)).bind fun t160=>(if 1 < (t156.length : Int) then ((spec_l1Num.f k (rdOf ByteArray.empty t156 1)).bind fun t162=>((spec_EndOk.f t160 t162).bind fun t164=>(if t164 = true then (some (t160,t162,true)) else (some (0,0,false))))) else (none))) else (none)) else (some (0,0,false)))
theorem spec_EndRead.mono : ∀ a0 k,LeO (spec_EndRead.f k a0) (spec_EndRead.f (k + 1) a0):=by
 intro a0 k
 unfold spec_EndRead.f
 repeat' first | (with_reducible first | exact spec_l1Num.mono _ _ | exact spec_l1Words.mono _ _ | exact LeO.refl _ | exact LeO.none _ | refine LeO.ite ?_ ?_ | refine LeO.bind ?_ (fun _=>?_)) | exact spec_l1Num.mono _ _ | exact spec_l1Words.mono _ _ | exact LeO.none _ | refine LeO.ite ?_ ?_ | refine LeO.bind ?_ (fun _=>?_)
def spec_EndRead.T4 : Bool × List (List Nat × List Nat):=(true,[([],[]),([0],[0]),([1],[1]),([2],[2]),([],[]),([4],[4]),([5],[5]),([6,3],[6]),([3,7],[3,7]),([],[]),([9,8,7,0,1,2,3,4,5,6,7,8,9],[8,9])])
def spec_EndRead.B4 : List Nat:=[0,1,3,7,0,16,48,127,255,0,1023]
theorem spec_EndRead.tab4 : rtab .any (opsOf Tryz.f127 4) = spec_EndRead.T4:=by kernel_rfl
theorem spec_EndRead.bits4 : waitsOk spec_EndRead.T4.2 spec_EndRead.B4 = true:=by kernel_rfl
set_option maxHeartbeats 8000000 in
set_option maxRecDepth 100000 in
theorem spec_EndRead.calls (k : Nat) (a0 : ByteArray) (r1 : Int) (r2 : Int) (r3 : Bool) (w : World) (h : spec_EndRead.f k a0 = some (r1,r2,r3)) :
  Calls Tryz.prog 127 #[.string a0] w fun e w'=>e = .returned (.tuple #[.agg #[.int .i64 r1,.int .i64 r2],.bool r3]) ∧ Below w.heap.size w w':=by
 have hu55:=Tryz.underlying55
 have HB:=am (Below.refl w.heap.size w)
 have H : ((spec_l1Words.f k a0).bind fun t156=>(if (t156.length : Int) = 2 then (if 0 < (t156.length : Int) then ((spec_l1Num.f k (rdOf ByteArray.empty t156 0)).bind fun t160=>(if 1 < (t156.length : Int) then ((spec_l1Num.f k (rdOf ByteArray.empty t156 1)).bind fun t162=>((spec_EndOk.f t160 t162).bind fun t164=>(if t164 = true then (some (t160,t162,true)) else (some (0,0,false))))) else (none))) else (none)) else (some (0,0,false)))) = some (r1,r2,r3):=h
 clear h
 obtain ⟨t156,A2,H⟩:=bse H
 try dsimp only at H
 by_cases c3 : (t156.length : Int) = 2
 ·rw [if_pos c3] at H
  have c3b0 : ((t156.length : Int) == 2) = true:=beq_iff_eq.mpr c3
  have c3b1 : ((t156.length : Int) != 2) = false:=bne_eq_false_iff_eq.mpr c3
  clear c3
  by_cases c4 : 0 < (t156.length : Int)
  ·rw [if_pos c4] at H
   have c4b0 : decide (0 < (t156.length : Int)) = true:=decide_eq_true c4
   have c4b1 : decide (0 < t156.length) = true:=decide_eq_true (by omega)
   clear c4
   obtain ⟨t160,A5,H⟩:=bse H
   try dsimp only at H
   by_cases c6 : 1 < (t156.length : Int)
   ·rw [if_pos c6] at H
    have c6b0 : decide (1 < (t156.length : Int)) = true:=decide_eq_true c6
    have c6b1 : decide (1 < t156.length) = true:=decide_eq_true (by omega)
    clear c6
    obtain ⟨t162,A7,H⟩:=bse H
    try dsimp only at H
    obtain ⟨t164,A8,H⟩:=bse H
    try dsimp only at H
    by_cases c9 : t164 = true
    ·subst c9
     have H1 : (some (t160,t162,true)) = some (r1,r2,r3):=by rw [if_pos rfl] at H;exact H
     clear H
     have H:=H1
     clear H1
     simp only [Option.some.injEq,Prod.mk.injEq] at H
     obtain ⟨rfl,rfl,rfl⟩:=H
     go_enter Tryz.func127,Tryz.ntmps127
     try go_wp2_with (first | ((with_reducible refine gD 2 rfl ?_);refine box_event rfl (N:=2) rfl (cs:=#[.int .i64 0,.int .i64 0]) (t:=55) hr_ ?_;intro gb155 hg w10 hbox hb;have BK155:=am hbox;have GW155:=gwE HB hg;have GE155:=gwE HB hg;replace HB:=hbS HB hb;clear hb hbox hg) | ((with_reducible refine gC 141 rfl ?_);refine gL (some 7) Tryz.func141 #[.string a0] ?_;(with_reducible refine (spec_l1Words.calls k a0 t156 _ A2.out).mono ?_);rintro e w11 ⟨v157,rfl,ho0,hb⟩;refine ⟨_,rfl,?_⟩;have HO158:=am (Kd.R_lower ho0 (below_size (bl HB)));replace BK155:=bkB BK155 hb;replace HB:=hbS HB hb;(try clear hb);(try clear ho0);obtain ⟨Ao12,co12,eo12⟩:=Kd.R_slice HO158.out;subst eo12))
     replace HO158:=am (Kd.R_drew HO158.out)
     replace BK155:=am (blk_drew BK155.out)
     replace HB:=am (below_drew1 HB.out)
     have p159 : 0 ≤ (0 : Int):=(by omega)
     have q159 : 0 < (t156.length : Int):=of_decide_eq_true da_
     obtain ⟨ad159,e159,hx159_0⟩:=Kd.at_string (Kd.R_reads' HO158.out).2.2 0 p159 q159
     cases e159
     have qi159 : (0 < t156.length) = True:=eq_true (by omega)
     (try rw [show ((0 : Int)).toNat = 0 from rfl] at hx159_0)
     (try rw [Addr.add_zero'] at hx159_0)
     replace p159:=eq_true p159
     replace q159:=eq_true q159
     have p161 : 0 ≤ (1 : Int):=(by omega)
     have q161 : 1 < (t156.length : Int):=of_decide_eq_true da_
     obtain ⟨ad161,e161,hx161_0⟩:=Kd.at_string (Kd.R_reads' HO158.out).2.2 1 p161 q161
     obtain rfl : ad159 = ad161:=(by injection e161)
     (try simp only [show (1 : Int).toNat = 1 from rfl,Nat.reduceMul,Nat.reduceEqDiff,Go.Addr.add,↓reduceIte] at hx161_0)
     have qi161 : (1 < t156.length) = True:=eq_true (by omega)
     (try rw [show ((1 : Int)).toNat = 1 from rfl] at hx161_0)
     replace p161:=eq_true p161
     replace q161:=eq_true q161
     refine start_ (n:=11) (S:=fun w'=>w'.cell? ad159 = some (.string (rdOf ByteArray.empty t156 0)) ∧ w'.cell? ⟨ad159.block,ad159.off + 1,none⟩ = some (.string (rdOf ByteArray.empty t156 1))) (ds:=[]) #[false,false,false,false,false,false,false,false,false,false,false] (by kernel_rfl) rfl rfl ⟨hx159_0,hx161_0⟩ (fun hHeld=>?_);refine with_tabW spec_EndRead.tab4 spec_EndRead.bits4 (fun HT_ HW_=>?_)
     generalize w11.drew = w13 at HO158 BK155 HB hx159_0 hx161_0 hHeld ⊢
     refine pu_ 0 (some 12) (bm 11 1) ?_
     refine pu_ 1 (some 13) (bm 11 3) ?_
     refine pu_ 4 (some 16) (bm 11 19) ?_
     refine pu_ 5 (some 17) (bm 11 51) ?_
     refine tk_ 2 (some 14) (bm 11 55) rfl (.inl ⟨rfl,m4_⟩) ?_
     refine tk_ 6 (some 18) (bm 11 119) rfl (.inl ⟨rfl,m4_⟩) ?_
     refine join_ (σ:=Nat) 1 #[true,true,true,true,true,true,true,true,true,true,false] (fun s_=>[(15,.int .i64 t160),(19,.int .i64 t162),(5,.pointer (some ⟨s_,0,none⟩)),(20,.agg #[.int .i64 t160,.int .i64 t162])]) (fun s_ w'=>(w'.cell? ad159 = some (.string (rdOf ByteArray.empty t156 0)) ∧ w'.cell? ⟨ad159.block,ad159.off + 1,none⟩ = some (.string (rdOf ByteArray.empty t156 1))) ∧ (Kd.R Kd.string 9 w' w.heap.size (fun _=>True) (.slice (some ad159) t156.length co12) t156) ∧ (w'.heap[gb155]? = some (.cells #[.int .i64 0,.int .i64 0] 55 (0,0))) ∧ (w'.heap[s_]? = some (.cells #[.int .i64 0,.int .i64 0] 55 (0,0))) ∧ (w.heap.size ≤ s_) ∧ (w.heap.size ≤ s_) ∧ (gb155 ≠ s_) ∧ (s_ ≠ gb155) ∧ (Below w.heap.size w w')) ?_ ?_
     rotate_left
     ·intro hCont
      refine two_ (i:=3) (j:=9) (Ni:=some 15) (Nj:=some 5) #[true,true,true,true,true,true,true,false,false,false,false] #[true,true,true,false,true,true,true,false,false,true,false] rfl rfl rfl rfl (two_of HT_.out (by kernel_rfl)) (by decide) (by decide) (fun K hK=>?_) (fun K hK=>?_)
      ·skip
       refine gR Tryz.func142 #[.string (rdOf ByteArray.empty t156 0)] ?_
       with_reducible refine (spec_l1Num.calls k (rdOf ByteArray.empty t156 0) t160 _ A5.out).mono ?_
       rintro e w14 ⟨rfl,hb⟩
       have HS0_:=bch hb (hHeld.1)
       have HS1_:=bch hb (hHeld.2)
       refine ⟨_,rfl,?_⟩
       replace HO158:=am (Kd.R_below (rs HO158) hb)
       replace BK155:=bkB BK155 hb
       replace HB:=hbS HB hb
       (try clear hb)
       (try clear hb2)
       (try clear hk)
       (try clear hi)
       refine hK.out _ _ ⟨HS0_,HS1_⟩ (fun hHeld=>?_)
       clear hK K
       refine nm_ ?_
       refine two_ (i:=7) (j:=9) (Ni:=some 19) (Nj:=some 5) #[true,true,true,true,true,true,true,true,false,false,false] #[true,true,true,true,true,true,true,false,false,true,false] rfl rfl rfl rfl (two_of HT_.out (by kernel_rfl)) (by decide) (by decide) (fun K hK=>?_) (fun K hK=>?_)
       ·skip
        refine gR Tryz.func142 #[.string (rdOf ByteArray.empty t156 1)] ?_
        with_reducible refine (spec_l1Num.calls k (rdOf ByteArray.empty t156 1) t162 _ A7.out).mono ?_
        rintro e w15 ⟨rfl,hb⟩
        have HS0_:=bch hb (hHeld.1)
        have HS1_:=bch hb (hHeld.2)
        refine ⟨_,rfl,?_⟩
        replace HO158:=am (Kd.R_below (rs HO158) hb)
        replace BK155:=bkB BK155 hb
        replace HB:=hbS HB hb
        (try clear hb)
        (try clear hb2)
        (try clear hk)
        (try clear hi)
        refine hK.out _ _ ⟨HS0_,HS1_⟩ (fun hHeld=>?_)
        clear hK K
        refine nm_ ?_
        refine pu_ 8 (some 20) (bm 11 511) ?_
        refine on_ 9 (some 5) (bm 11 1023) (fun K hK=>?_)
        refine box_step rfl (N:=5) rfl (cs:=#[.int .i64 0,.int .i64 0]) (t:=55) hr_ ?_
        intro gb163 hg w16 hbox hb
        have HS0_:=bch hb (hHeld.1)
        have HS1_:=bch hb (hHeld.2)
        replace HO158:=am (Kd.R_below (rs HO158) hb)
        have BK163:=am hbox
        have GW163:=gwE HB hg
        have GE163:=gwE HB hg
        replace HB:=hbS HB hb
        have NB155_163:=neL BK155 hg
        have NB163_155:=neG BK155 hg
        replace BK155:=bkB BK155 hb
        clear hb hbox hg
        refine hK.out _ _ ⟨HS0_,HS1_⟩ (fun hHeld=>?_)
        clear hK K
        refine nm_ ?_
        exact norm_ (by simp only [putAll,Act.put,List.setIfInBounds_toArray,List.set_cons_zero,List.set_cons_succ]) (hCont (gb163) _ ⟨hHeld,(rs HO158),(bk BK155),(bk BK163),GW163.out,GE163.out,NB155_163.out,NB163_155.out,(bl HB)⟩)
       ·skip
        refine box_step rfl (N:=5) rfl (cs:=#[.int .i64 0,.int .i64 0]) (t:=55) hr_ ?_
        intro gb163 hg w15 hbox hb
        have HS0_:=bch hb (hHeld.1)
        have HS1_:=bch hb (hHeld.2)
        replace HO158:=am (Kd.R_below (rs HO158) hb)
        have BK163:=am hbox
        have GW163:=gwE HB hg
        have GE163:=gwE HB hg
        replace HB:=hbS HB hb
        have NB155_163:=neL BK155 hg
        have NB163_155:=neG BK155 hg
        replace BK155:=bkB BK155 hb
        clear hb hbox hg
        refine hK.out _ _ ⟨HS0_,HS1_⟩ (fun hHeld=>?_)
        clear hK K
        refine nm_ ?_
        refine on_ 7 (some 19) (bm 11 767) (fun K hK=>?_)
        refine gR Tryz.func142 #[.string (rdOf ByteArray.empty t156 1)] ?_
        with_reducible refine (spec_l1Num.calls k (rdOf ByteArray.empty t156 1) t162 _ A7.out).mono ?_
        rintro e w16 ⟨rfl,hb⟩
        have HS0_:=bch hb (hHeld.1)
        have HS1_:=bch hb (hHeld.2)
        refine ⟨_,rfl,?_⟩
        replace HO158:=am (Kd.R_below (rs HO158) hb)
        replace BK155:=bkB BK155 hb
        replace BK163:=bkB BK163 hb
        replace HB:=hbS HB hb
        (try clear hb)
        (try clear hb2)
        (try clear hk)
        (try clear hi)
        refine hK.out _ _ ⟨HS0_,HS1_⟩ (fun hHeld=>?_)
        clear hK K
        refine nm_ ?_
        refine pu_ 8 (some 20) (bm 11 1023) ?_
        exact norm_ (by simp only [putAll,Act.put,List.setIfInBounds_toArray,List.set_cons_zero,List.set_cons_succ]) (hCont (gb163) _ ⟨hHeld,(rs HO158),(bk BK155),(bk BK163),GW163.out,GE163.out,NB155_163.out,NB163_155.out,(bl HB)⟩)
      ·skip
       refine box_step rfl (N:=5) rfl (cs:=#[.int .i64 0,.int .i64 0]) (t:=55) hr_ ?_
       intro gb163 hg w14 hbox hb
       have HS0_:=bch hb (hHeld.1)
       have HS1_:=bch hb (hHeld.2)
       replace HO158:=am (Kd.R_below (rs HO158) hb)
       have BK163:=am hbox
       have GW163:=gwE HB hg
       have GE163:=gwE HB hg
       replace HB:=hbS HB hb
       have NB155_163:=neL BK155 hg
       have NB163_155:=neG BK155 hg
       replace BK155:=bkB BK155 hb
       clear hb hbox hg
       refine hK.out _ _ ⟨HS0_,HS1_⟩ (fun hHeld=>?_)
       clear hK K
       refine nm_ ?_
       refine on_ 3 (some 15) (bm 11 639) (fun K hK=>?_)
       refine gR Tryz.func142 #[.string (rdOf ByteArray.empty t156 0)] ?_
       with_reducible refine (spec_l1Num.calls k (rdOf ByteArray.empty t156 0) t160 _ A5.out).mono ?_
       rintro e w15 ⟨rfl,hb⟩
       have HS0_:=bch hb (hHeld.1)
       have HS1_:=bch hb (hHeld.2)
       refine ⟨_,rfl,?_⟩
       replace HO158:=am (Kd.R_below (rs HO158) hb)
       replace BK155:=bkB BK155 hb
       replace BK163:=bkB BK163 hb
       replace HB:=hbS HB hb
       (try clear hb)
       (try clear hb2)
       (try clear hk)
       (try clear hi)
       refine hK.out _ _ ⟨HS0_,HS1_⟩ (fun hHeld=>?_)
       clear hK K
       refine nm_ ?_
       refine on_ 7 (some 19) (bm 11 767) (fun K hK=>?_)
       refine gR Tryz.func142 #[.string (rdOf ByteArray.empty t156 1)] ?_
       with_reducible refine (spec_l1Num.calls k (rdOf ByteArray.empty t156 1) t162 _ A7.out).mono ?_
       rintro e w16 ⟨rfl,hb⟩
       have HS0_:=bch hb (hHeld.1)
       have HS1_:=bch hb (hHeld.2)
       refine ⟨_,rfl,?_⟩
       replace HO158:=am (Kd.R_below (rs HO158) hb)
       replace BK155:=bkB BK155 hb
       replace BK163:=bkB BK163 hb
       replace HB:=hbS HB hb
       (try clear hb)
       (try clear hb2)
       (try clear hk)
       (try clear hi)
       refine hK.out _ _ ⟨HS0_,HS1_⟩ (fun hHeld=>?_)
       clear hK K
       refine nm_ ?_
       refine pu_ 8 (some 20) (bm 11 1023) ?_
       exact norm_ (by simp only [putAll,Act.put,List.setIfInBounds_toArray,List.set_cons_zero,List.set_cons_succ]) (hCont (gb163) _ ⟨hHeld,(rs HO158),(bk BK155),(bk BK163),GW163.out,GE163.out,NB155_163.out,NB163_155.out,(bl HB)⟩)
     rintro gb163 w17 ⟨hS_,h0_,h1_,h2_,h3_,h4_,h5_,h6_,h7_⟩
     have n0_ : Aside0 (Kd.R Kd.string 9 w17 w.heap.size (fun _=>True) (.slice (some ad159) t156.length co12) t156):=⟨h0_⟩
     have n1_ : Aside0 (w17.heap[gb155]? = some (.cells #[.int .i64 0,.int .i64 0] 55 (0,0))):=⟨h1_⟩
     have n2_ : Aside0 (w17.heap[gb163]? = some (.cells #[.int .i64 0,.int .i64 0] 55 (0,0))):=⟨h2_⟩
     have n3_ : Aside0 (w.heap.size ≤ gb163):=⟨h3_⟩
     have n4_ : Aside0 (w.heap.size ≤ gb163):=⟨h4_⟩
     have n5_ : Aside0 (gb155 ≠ gb163):=⟨h5_⟩
     have n6_ : Aside0 (gb163 ≠ gb155):=⟨h6_⟩
     have n7_ : Aside0 (Below w.heap.size w w17):=⟨h7_⟩
     clear HO158
     clear BK155
     clear HB
     clear h0_ h1_ h2_ h3_ h4_ h5_ h6_ h7_
     have HO158:=n0_
     have BK155:=n1_
     have BK163:=n2_
     have GW163:=n3_
     have GE163:=n4_
     have NB155_163:=n5_
     have NB163_155:=n6_
     have HB:=n7_
     clear n0_ n1_ n2_ n3_ n4_ n5_ n6_ n7_
     have hHeld : w17.cell? ad159 = some (.string (rdOf ByteArray.empty t156 0)) ∧ w17.cell? ⟨ad159.block,ad159.off + 1,none⟩ = some (.string (rdOf ByteArray.empty t156 1)):=hS_
     refine norm_ (a':=?_) ?_ ?_
     rotate_left
     ·simp only [putAll,Act.put,List.setIfInBounds_toArray,List.set_cons_zero,List.set_cons_succ]
      rfl
     refine on_ 10 none (bm 11 2047) (fun K hK=>?_)
     have : w17.cell? ⟨gb163,0,none⟩ = some (.int .i64 0):=bcell BK163 0
     have:=bfz BK163 0
     have:=NB155_163.out
     have:=NB163_155.out
     have : w17.cell? ⟨gb163,1,none⟩ = some (.int .i64 0):=bcell BK163 1
     have:=bfz BK163 1
     have:=NB155_163.out
     have:=NB163_155.out
     refine skip_ (w1:=?_) (by rfl) rfl ?_ ?_
     rotate_left
     ·go_simp
      rfl
     refine hK.out _ _ ⟨((cell_far (p:=⟨gb163,_,none⟩) (by first | exact Kd.own_blk (Kd.R_ne HO158.out BK163.out (by decide)) | (rw [add_block];exact Kd.own_blk (Kd.R_ne HO158.out BK163.out (by decide))) | (show (Addr.add _ _).block ≠ _;rw [add_block];exact Kd.own_blk (Kd.R_ne HO158.out BK163.out (by decide))) | (dsimp only;exact Kd.own_blk (Kd.R_ne HO158.out BK163.out (by decide)))) _).trans (((cell_far (p:=⟨gb163,_,none⟩) (by first | exact Kd.own_blk (Kd.R_ne HO158.out BK163.out (by decide)) | (rw [add_block];exact Kd.own_blk (Kd.R_ne HO158.out BK163.out (by decide))) | (show (Addr.add _ _).block ≠ _;rw [add_block];exact Kd.own_blk (Kd.R_ne HO158.out BK163.out (by decide))) | (dsimp only;exact Kd.own_blk (Kd.R_ne HO158.out BK163.out (by decide)))) _).trans (hHeld.1)))),((cell_far (p:=⟨gb163,_,none⟩) (by first | exact Kd.own_blk (Kd.R_ne HO158.out BK163.out (by decide)) | (rw [add_block];exact Kd.own_blk (Kd.R_ne HO158.out BK163.out (by decide))) | (show (Addr.add _ _).block ≠ _;rw [add_block];exact Kd.own_blk (Kd.R_ne HO158.out BK163.out (by decide))) | (dsimp only;exact Kd.own_blk (Kd.R_ne HO158.out BK163.out (by decide)))) _).trans (((cell_far (p:=⟨gb163,_,none⟩) (by first | exact Kd.own_blk (Kd.R_ne HO158.out BK163.out (by decide)) | (rw [add_block];exact Kd.own_blk (Kd.R_ne HO158.out BK163.out (by decide))) | (show (Addr.add _ _).block ≠ _;rw [add_block];exact Kd.own_blk (Kd.R_ne HO158.out BK163.out (by decide))) | (dsimp only;exact Kd.own_blk (Kd.R_ne HO158.out BK163.out (by decide)))) _).trans (hHeld.2))))⟩ (fun hHeld=>?_)
     clear hK K
     refine done_ (done_of HT_.out (by kernel_rfl)) ?_
     have:=NB163_155.out
     have:=NB155_163.out
     have:=bcell BK163 0
     have:=bcell BK163 1
     have:=bfz BK163 0
     have:=bfz BK163 1
     try go_wp2_with (first | ((with_reducible refine gC 129 rfl ?_);refine gL (some 22) Tryz.func129 #[.agg #[.int .i64 t160,.int .i64 t162]] ?_;(with_reducible refine (spec_EndOk.calls t160 t162 true _ A8.out).mono ?_);rintro e w22 ⟨rfl,hb⟩;refine ⟨_,rfl,?_⟩;replace HO158:=am (Kd.R_below (by (with_reducible repeat apply ru);exact (Kd.R_mono (Kd.R_far (p:=⟨gb163,1,none⟩) (Kd.R_far (p:=⟨gb163,0,none⟩) (Kd.R_types HO158.out BK163.out (by decide)) (fun _ hk=>hk.2) (.int .i64 t160)) (fun _ hk=>hk.2) (.int .i64 t162)) (fun _ h_=>h_.1))) hb);replace BK155:=am (blk_below (g:=gb155) (o:=.cells #[.int .i64 0,.int .i64 0] 55 (0,0)) (by (with_reducible repeat refine bu ?_);refine blk_far ?_ NB155_163.out _;(with_reducible repeat refine bu ?_);refine blk_far ?_ NB155_163.out _;(with_reducible repeat refine bu ?_);exact BK155.out) hb);replace BK163:=am (blk_below (g:=gb163) (o:=.cells #[.int .i64 t160,.int .i64 t162] 55 (0,0)) (by (with_reducible repeat refine bu ?_);refine blk_put (cs:=#[.int .i64 t160,.int .i64 0]) ?_ 1 _ rfl;(with_reducible repeat refine bu ?_);refine blk_put (cs:=#[.int .i64 0,.int .i64 0]) ?_ 0 _ rfl;(with_reducible repeat refine bu ?_);exact BK163.out) hb);replace HB:=hbS HB hb;(try clear hb);(try clear hk);have:=bcell BK163 0;have:=bcell BK163 1;have:=bfz BK163 0;have:=bfz BK163 1;have:=bcell BK155 0;have:=bcell BK155 1;have:=bfz BK155 0;have:=bfz BK155 1))
     refine bodyPost_ret (results_ct rfl _ _ gb155 55 #[.int .i64 t160,.int .i64 t162] (0,0) _ rfl (by (with_reducible repeat refine bu ?_);refine blk_put (cs:=#[.int .i64 t160,.int .i64 0]) ?_ 1 _ rfl;(with_reducible repeat refine bu ?_);refine blk_put (cs:=#[.int .i64 0,.int .i64 0]) ?_ 0 _ rfl;(with_reducible repeat refine bu ?_);exact BK155.out) Tryz.underlying55 rfl (by kernel_rfl)) rfl ?_
     exact ⟨fi_,m2_⟩
    ·replace c9:=Bool.eq_false_iff.mpr c9
     subst c9
     have H1 : (some (0,0,false)) = some (r1,r2,r3):=by rw [if_neg (show ¬ (false = true) by decide)] at H;exact H
     clear H
     have H:=H1
     clear H1
     simp only [Option.some.injEq,Prod.mk.injEq] at H
     obtain ⟨rfl,rfl,rfl⟩:=H
     go_enter Tryz.func127,Tryz.ntmps127
     try go_wp2_with (first | ((with_reducible refine gD 2 rfl ?_);refine box_event rfl (N:=2) rfl (cs:=#[.int .i64 0,.int .i64 0]) (t:=55) hr_ ?_;intro gb155 hg w25 hbox hb;have BK155:=am hbox;have GW155:=gwE HB hg;have GE155:=gwE HB hg;replace HB:=hbS HB hb;clear hb hbox hg) | ((with_reducible refine gC 141 rfl ?_);refine gL (some 7) Tryz.func141 #[.string a0] ?_;(with_reducible refine (spec_l1Words.calls k a0 t156 _ A2.out).mono ?_);rintro e w26 ⟨v157,rfl,ho0,hb⟩;refine ⟨_,rfl,?_⟩;have HO158:=am (Kd.R_lower ho0 (below_size (bl HB)));replace BK155:=bkB BK155 hb;replace HB:=hbS HB hb;(try clear hb);(try clear ho0);obtain ⟨Ao27,co27,eo27⟩:=Kd.R_slice HO158.out;subst eo27))
     replace HO158:=am (Kd.R_drew HO158.out)
     replace BK155:=am (blk_drew BK155.out)
     replace HB:=am (below_drew1 HB.out)
     have p159 : 0 ≤ (0 : Int):=(by omega)
     have q159 : 0 < (t156.length : Int):=of_decide_eq_true da_
     obtain ⟨ad159,e159,hx159_0⟩:=Kd.at_string (Kd.R_reads' HO158.out).2.2 0 p159 q159
     cases e159
     have qi159 : (0 < t156.length) = True:=eq_true (by omega)
     (try rw [show ((0 : Int)).toNat = 0 from rfl] at hx159_0)
     (try rw [Addr.add_zero'] at hx159_0)
     replace p159:=eq_true p159
     replace q159:=eq_true q159
     have p161 : 0 ≤ (1 : Int):=(by omega)
     have q161 : 1 < (t156.length : Int):=of_decide_eq_true da_
     obtain ⟨ad161,e161,hx161_0⟩:=Kd.at_string (Kd.R_reads' HO158.out).2.2 1 p161 q161
     obtain rfl : ad159 = ad161:=(by injection e161)
     (try simp only [show (1 : Int).toNat = 1 from rfl,Nat.reduceMul,Nat.reduceEqDiff,Go.Addr.add,↓reduceIte] at hx161_0)
     have qi161 : (1 < t156.length) = True:=eq_true (by omega)
     (try rw [show ((1 : Int)).toNat = 1 from rfl] at hx161_0)
     replace p161:=eq_true p161
     replace q161:=eq_true q161
     refine start_ (n:=11) (S:=fun w'=>w'.cell? ad159 = some (.string (rdOf ByteArray.empty t156 0)) ∧ w'.cell? ⟨ad159.block,ad159.off + 1,none⟩ = some (.string (rdOf ByteArray.empty t156 1))) (ds:=[]) #[false,false,false,false,false,false,false,false,false,false,false] (by kernel_rfl) rfl rfl ⟨hx159_0,hx161_0⟩ (fun hHeld=>?_);refine with_tabW spec_EndRead.tab4 spec_EndRead.bits4 (fun HT_ HW_=>?_)
     generalize w26.drew = w28 at HO158 BK155 HB hx159_0 hx161_0 hHeld ⊢
     refine pu_ 0 (some 12) (bm 11 1) ?_
     refine pu_ 1 (some 13) (bm 11 3) ?_
     refine pu_ 4 (some 16) (bm 11 19) ?_
     refine pu_ 5 (some 17) (bm 11 51) ?_
     refine tk_ 2 (some 14) (bm 11 55) rfl (.inl ⟨rfl,m4_⟩) ?_
     refine tk_ 6 (some 18) (bm 11 119) rfl (.inl ⟨rfl,m4_⟩) ?_
     refine join_ (σ:=Nat) 1 #[true,true,true,true,true,true,true,true,true,true,false] (fun s_=>[(15,.int .i64 t160),(19,.int .i64 t162),(5,.pointer (some ⟨s_,0,none⟩)),(20,.agg #[.int .i64 t160,.int .i64 t162])]) (fun s_ w'=>(w'.cell? ad159 = some (.string (rdOf ByteArray.empty t156 0)) ∧ w'.cell? ⟨ad159.block,ad159.off + 1,none⟩ = some (.string (rdOf ByteArray.empty t156 1))) ∧ (Kd.R Kd.string 9 w' w.heap.size (fun _=>True) (.slice (some ad159) t156.length co27) t156) ∧ (w'.heap[gb155]? = some (.cells #[.int .i64 0,.int .i64 0] 55 (0,0))) ∧ (w'.heap[s_]? = some (.cells #[.int .i64 0,.int .i64 0] 55 (0,0))) ∧ (w.heap.size ≤ s_) ∧ (w.heap.size ≤ s_) ∧ (gb155 ≠ s_) ∧ (s_ ≠ gb155) ∧ (Below w.heap.size w w')) ?_ ?_
     rotate_left
     ·intro hCont
      refine two_ (i:=3) (j:=9) (Ni:=some 15) (Nj:=some 5) #[true,true,true,true,true,true,true,false,false,false,false] #[true,true,true,false,true,true,true,false,false,true,false] rfl rfl rfl rfl (two_of HT_.out (by kernel_rfl)) (by decide) (by decide) (fun K hK=>?_) (fun K hK=>?_)
      ·skip
       refine gR Tryz.func142 #[.string (rdOf ByteArray.empty t156 0)] ?_
       with_reducible refine (spec_l1Num.calls k (rdOf ByteArray.empty t156 0) t160 _ A5.out).mono ?_
       rintro e w29 ⟨rfl,hb⟩
       have HS0_:=bch hb (hHeld.1)
       have HS1_:=bch hb (hHeld.2)
       refine ⟨_,rfl,?_⟩
       replace HO158:=am (Kd.R_below (rs HO158) hb)
       replace BK155:=bkB BK155 hb
       replace HB:=hbS HB hb
       (try clear hb)
       (try clear hb2)
       (try clear hk)
       (try clear hi)
       refine hK.out _ _ ⟨HS0_,HS1_⟩ (fun hHeld=>?_)
       clear hK K
       refine nm_ ?_
       refine two_ (i:=7) (j:=9) (Ni:=some 19) (Nj:=some 5) #[true,true,true,true,true,true,true,true,false,false,false] #[true,true,true,true,true,true,true,false,false,true,false] rfl rfl rfl rfl (two_of HT_.out (by kernel_rfl)) (by decide) (by decide) (fun K hK=>?_) (fun K hK=>?_)
       ·skip
        refine gR Tryz.func142 #[.string (rdOf ByteArray.empty t156 1)] ?_
        with_reducible refine (spec_l1Num.calls k (rdOf ByteArray.empty t156 1) t162 _ A7.out).mono ?_
        rintro e w30 ⟨rfl,hb⟩
        have HS0_:=bch hb (hHeld.1)
        have HS1_:=bch hb (hHeld.2)
        refine ⟨_,rfl,?_⟩
        replace HO158:=am (Kd.R_below (rs HO158) hb)
        replace BK155:=bkB BK155 hb
        replace HB:=hbS HB hb
        (try clear hb)
        (try clear hb2)
        (try clear hk)
        (try clear hi)
        refine hK.out _ _ ⟨HS0_,HS1_⟩ (fun hHeld=>?_)
        clear hK K
        refine nm_ ?_
        refine pu_ 8 (some 20) (bm 11 511) ?_
        refine on_ 9 (some 5) (bm 11 1023) (fun K hK=>?_)
        refine box_step rfl (N:=5) rfl (cs:=#[.int .i64 0,.int .i64 0]) (t:=55) hr_ ?_
        intro gb163 hg w31 hbox hb
        have HS0_:=bch hb (hHeld.1)
        have HS1_:=bch hb (hHeld.2)
        replace HO158:=am (Kd.R_below (rs HO158) hb)
        have BK163:=am hbox
        have GW163:=gwE HB hg
        have GE163:=gwE HB hg
        replace HB:=hbS HB hb
        have NB155_163:=neL BK155 hg
        have NB163_155:=neG BK155 hg
        replace BK155:=bkB BK155 hb
        clear hb hbox hg
        refine hK.out _ _ ⟨HS0_,HS1_⟩ (fun hHeld=>?_)
        clear hK K
        refine nm_ ?_
        exact norm_ (by simp only [putAll,Act.put,List.setIfInBounds_toArray,List.set_cons_zero,List.set_cons_succ]) (hCont (gb163) _ ⟨hHeld,(rs HO158),(bk BK155),(bk BK163),GW163.out,GE163.out,NB155_163.out,NB163_155.out,(bl HB)⟩)
       ·skip
        refine box_step rfl (N:=5) rfl (cs:=#[.int .i64 0,.int .i64 0]) (t:=55) hr_ ?_
        intro gb163 hg w30 hbox hb
        have HS0_:=bch hb (hHeld.1)
        have HS1_:=bch hb (hHeld.2)
        replace HO158:=am (Kd.R_below (rs HO158) hb)
        have BK163:=am hbox
        have GW163:=gwE HB hg
        have GE163:=gwE HB hg
        replace HB:=hbS HB hb
        have NB155_163:=neL BK155 hg
        have NB163_155:=neG BK155 hg
        replace BK155:=bkB BK155 hb
        clear hb hbox hg
        refine hK.out _ _ ⟨HS0_,HS1_⟩ (fun hHeld=>?_)
        clear hK K
        refine nm_ ?_
        refine on_ 7 (some 19) (bm 11 767) (fun K hK=>?_)
        refine gR Tryz.func142 #[.string (rdOf ByteArray.empty t156 1)] ?_
        with_reducible refine (spec_l1Num.calls k (rdOf ByteArray.empty t156 1) t162 _ A7.out).mono ?_
        rintro e w31 ⟨rfl,hb⟩
        have HS0_:=bch hb (hHeld.1)
        have HS1_:=bch hb (hHeld.2)
        refine ⟨_,rfl,?_⟩
        replace HO158:=am (Kd.R_below (rs HO158) hb)
        replace BK155:=bkB BK155 hb
        replace BK163:=bkB BK163 hb
        replace HB:=hbS HB hb
        (try clear hb)
        (try clear hb2)
        (try clear hk)
        (try clear hi)
        refine hK.out _ _ ⟨HS0_,HS1_⟩ (fun hHeld=>?_)
        clear hK K
        refine nm_ ?_
        refine pu_ 8 (some 20) (bm 11 1023) ?_
        exact norm_ (by simp only [putAll,Act.put,List.setIfInBounds_toArray,List.set_cons_zero,List.set_cons_succ]) (hCont (gb163) _ ⟨hHeld,(rs HO158),(bk BK155),(bk BK163),GW163.out,GE163.out,NB155_163.out,NB163_155.out,(bl HB)⟩)
      ·skip
       refine box_step rfl (N:=5) rfl (cs:=#[.int .i64 0,.int .i64 0]) (t:=55) hr_ ?_
       intro gb163 hg w29 hbox hb
       have HS0_:=bch hb (hHeld.1)
       have HS1_:=bch hb (hHeld.2)
       replace HO158:=am (Kd.R_below (rs HO158) hb)
       have BK163:=am hbox
       have GW163:=gwE HB hg
       have GE163:=gwE HB hg
       replace HB:=hbS HB hb
       have NB155_163:=neL BK155 hg
       have NB163_155:=neG BK155 hg
       replace BK155:=bkB BK155 hb
       clear hb hbox hg
       refine hK.out _ _ ⟨HS0_,HS1_⟩ (fun hHeld=>?_)
       clear hK K
       refine nm_ ?_
       refine on_ 3 (some 15) (bm 11 639) (fun K hK=>?_)
       refine gR Tryz.func142 #[.string (rdOf ByteArray.empty t156 0)] ?_
       with_reducible refine (spec_l1Num.calls k (rdOf ByteArray.empty t156 0) t160 _ A5.out).mono ?_
       rintro e w30 ⟨rfl,hb⟩
       have HS0_:=bch hb (hHeld.1)
       have HS1_:=bch hb (hHeld.2)
       refine ⟨_,rfl,?_⟩
       replace HO158:=am (Kd.R_below (rs HO158) hb)
       replace BK155:=bkB BK155 hb
       replace BK163:=bkB BK163 hb
       replace HB:=hbS HB hb
       (try clear hb)
       (try clear hb2)
       (try clear hk)
       (try clear hi)
       refine hK.out _ _ ⟨HS0_,HS1_⟩ (fun hHeld=>?_)
       clear hK K
       refine nm_ ?_
       refine on_ 7 (some 19) (bm 11 767) (fun K hK=>?_)
       refine gR Tryz.func142 #[.string (rdOf ByteArray.empty t156 1)] ?_
       with_reducible refine (spec_l1Num.calls k (rdOf ByteArray.empty t156 1) t162 _ A7.out).mono ?_
       rintro e w31 ⟨rfl,hb⟩
       have HS0_:=bch hb (hHeld.1)
       have HS1_:=bch hb (hHeld.2)
       refine ⟨_,rfl,?_⟩
       replace HO158:=am (Kd.R_below (rs HO158) hb)
       replace BK155:=bkB BK155 hb
       replace BK163:=bkB BK163 hb
       replace HB:=hbS HB hb
       (try clear hb)
       (try clear hb2)
       (try clear hk)
       (try clear hi)
       refine hK.out _ _ ⟨HS0_,HS1_⟩ (fun hHeld=>?_)
       clear hK K
       refine nm_ ?_
       refine pu_ 8 (some 20) (bm 11 1023) ?_
       exact norm_ (by simp only [putAll,Act.put,List.setIfInBounds_toArray,List.set_cons_zero,List.set_cons_succ]) (hCont (gb163) _ ⟨hHeld,(rs HO158),(bk BK155),(bk BK163),GW163.out,GE163.out,NB155_163.out,NB163_155.out,(bl HB)⟩)
     rintro gb163 w32 ⟨hS_,h0_,h1_,h2_,h3_,h4_,h5_,h6_,h7_⟩
     have n0_ : Aside0 (Kd.R Kd.string 9 w32 w.heap.size (fun _=>True) (.slice (some ad159) t156.length co27) t156):=⟨h0_⟩
     have n1_ : Aside0 (w32.heap[gb155]? = some (.cells #[.int .i64 0,.int .i64 0] 55 (0,0))):=⟨h1_⟩
     have n2_ : Aside0 (w32.heap[gb163]? = some (.cells #[.int .i64 0,.int .i64 0] 55 (0,0))):=⟨h2_⟩
     have n3_ : Aside0 (w.heap.size ≤ gb163):=⟨h3_⟩
     have n4_ : Aside0 (w.heap.size ≤ gb163):=⟨h4_⟩
     have n5_ : Aside0 (gb155 ≠ gb163):=⟨h5_⟩
     have n6_ : Aside0 (gb163 ≠ gb155):=⟨h6_⟩
     have n7_ : Aside0 (Below w.heap.size w w32):=⟨h7_⟩
     clear HO158
     clear BK155
     clear HB
     clear h0_ h1_ h2_ h3_ h4_ h5_ h6_ h7_
     have HO158:=n0_
     have BK155:=n1_
     have BK163:=n2_
     have GW163:=n3_
     have GE163:=n4_
     have NB155_163:=n5_
     have NB163_155:=n6_
     have HB:=n7_
     clear n0_ n1_ n2_ n3_ n4_ n5_ n6_ n7_
     have hHeld : w32.cell? ad159 = some (.string (rdOf ByteArray.empty t156 0)) ∧ w32.cell? ⟨ad159.block,ad159.off + 1,none⟩ = some (.string (rdOf ByteArray.empty t156 1)):=hS_
     refine norm_ (a':=?_) ?_ ?_
     rotate_left
     ·simp only [putAll,Act.put,List.setIfInBounds_toArray,List.set_cons_zero,List.set_cons_succ]
      rfl
     refine on_ 10 none (bm 11 2047) (fun K hK=>?_)
     have : w32.cell? ⟨gb163,0,none⟩ = some (.int .i64 0):=bcell BK163 0
     have:=bfz BK163 0
     have:=NB155_163.out
     have:=NB163_155.out
     have : w32.cell? ⟨gb163,1,none⟩ = some (.int .i64 0):=bcell BK163 1
     have:=bfz BK163 1
     have:=NB155_163.out
     have:=NB163_155.out
     refine skip_ (w1:=?_) (by rfl) rfl ?_ ?_
     rotate_left
     ·go_simp
      rfl
     refine hK.out _ _ ⟨((cell_far (p:=⟨gb163,_,none⟩) (by first | exact Kd.own_blk (Kd.R_ne HO158.out BK163.out (by decide)) | (rw [add_block];exact Kd.own_blk (Kd.R_ne HO158.out BK163.out (by decide))) | (show (Addr.add _ _).block ≠ _;rw [add_block];exact Kd.own_blk (Kd.R_ne HO158.out BK163.out (by decide))) | (dsimp only;exact Kd.own_blk (Kd.R_ne HO158.out BK163.out (by decide)))) _).trans (((cell_far (p:=⟨gb163,_,none⟩) (by first | exact Kd.own_blk (Kd.R_ne HO158.out BK163.out (by decide)) | (rw [add_block];exact Kd.own_blk (Kd.R_ne HO158.out BK163.out (by decide))) | (show (Addr.add _ _).block ≠ _;rw [add_block];exact Kd.own_blk (Kd.R_ne HO158.out BK163.out (by decide))) | (dsimp only;exact Kd.own_blk (Kd.R_ne HO158.out BK163.out (by decide)))) _).trans (hHeld.1)))),((cell_far (p:=⟨gb163,_,none⟩) (by first | exact Kd.own_blk (Kd.R_ne HO158.out BK163.out (by decide)) | (rw [add_block];exact Kd.own_blk (Kd.R_ne HO158.out BK163.out (by decide))) | (show (Addr.add _ _).block ≠ _;rw [add_block];exact Kd.own_blk (Kd.R_ne HO158.out BK163.out (by decide))) | (dsimp only;exact Kd.own_blk (Kd.R_ne HO158.out BK163.out (by decide)))) _).trans (((cell_far (p:=⟨gb163,_,none⟩) (by first | exact Kd.own_blk (Kd.R_ne HO158.out BK163.out (by decide)) | (rw [add_block];exact Kd.own_blk (Kd.R_ne HO158.out BK163.out (by decide))) | (show (Addr.add _ _).block ≠ _;rw [add_block];exact Kd.own_blk (Kd.R_ne HO158.out BK163.out (by decide))) | (dsimp only;exact Kd.own_blk (Kd.R_ne HO158.out BK163.out (by decide)))) _).trans (hHeld.2))))⟩ (fun hHeld=>?_)
     clear hK K
     refine done_ (done_of HT_.out (by kernel_rfl)) ?_
     have:=NB163_155.out
     have:=NB155_163.out
     have:=bcell BK163 0
     have:=bcell BK163 1
     have:=bfz BK163 0
     have:=bfz BK163 1
     try go_wp2_with (first | ((with_reducible refine gC 129 rfl ?_);refine gL (some 22) Tryz.func129 #[.agg #[.int .i64 t160,.int .i64 t162]] ?_;(with_reducible refine (spec_EndOk.calls t160 t162 false _ A8.out).mono ?_);rintro e w37 ⟨rfl,hb⟩;refine ⟨_,rfl,?_⟩;replace HO158:=am (Kd.R_below (by (with_reducible repeat apply ru);exact (Kd.R_mono (Kd.R_far (p:=⟨gb163,1,none⟩) (Kd.R_far (p:=⟨gb163,0,none⟩) (Kd.R_types HO158.out BK163.out (by decide)) (fun _ hk=>hk.2) (.int .i64 t160)) (fun _ hk=>hk.2) (.int .i64 t162)) (fun _ h_=>h_.1))) hb);replace BK155:=am (blk_below (g:=gb155) (o:=.cells #[.int .i64 0,.int .i64 0] 55 (0,0)) (by (with_reducible repeat refine bu ?_);refine blk_far ?_ NB155_163.out _;(with_reducible repeat refine bu ?_);refine blk_far ?_ NB155_163.out _;(with_reducible repeat refine bu ?_);exact BK155.out) hb);replace BK163:=am (blk_below (g:=gb163) (o:=.cells #[.int .i64 t160,.int .i64 t162] 55 (0,0)) (by (with_reducible repeat refine bu ?_);refine blk_put (cs:=#[.int .i64 t160,.int .i64 0]) ?_ 1 _ rfl;(with_reducible repeat refine bu ?_);refine blk_put (cs:=#[.int .i64 0,.int .i64 0]) ?_ 0 _ rfl;(with_reducible repeat refine bu ?_);exact BK163.out) hb);replace HB:=hbS HB hb;(try clear hb);(try clear hk);have:=bcell BK155 0;have:=bcell BK155 1;have:=bfz BK155 0;have:=bfz BK155 1))
     refine bodyPost_ret (results_ct rfl _ _ gb155 55 #[.int .i64 0,.int .i64 0] (0,0) _ rfl (by (with_reducible repeat refine bu ?_);refine blk_put (cs:=#[.int .i64 0,.int .i64 0]) ?_ 1 _ rfl;(with_reducible repeat refine bu ?_);refine blk_put (cs:=#[.int .i64 0,.int .i64 0]) ?_ 0 _ rfl;(with_reducible repeat refine bu ?_);exact BK155.out) Tryz.underlying55 rfl (by kernel_rfl)) rfl ?_
     exact ⟨fi_,m2_⟩
   ·rw [if_neg c6] at H
    exact absurd H (by simp)
  ·rw [if_neg c4] at H
   exact absurd H (by simp)
 ·rw [if_neg c3] at H
  have c3b0 : ((t156.length : Int) == 2) = false:=beq_eq_false_iff_ne.mpr c3
  have c3b1 : ((t156.length : Int) != 2) = true:=bne_iff_ne.mpr c3
  simp only [Option.some.injEq,Prod.mk.injEq] at H
  obtain ⟨rfl,rfl,rfl⟩:=H
  go_enter Tryz.func127,Tryz.ntmps127
  go_wp2_with (first | ((with_reducible refine gD 2 rfl ?_);refine box_event rfl (N:=2) rfl (cs:=#[.int .i64 0,.int .i64 0]) (t:=55) hr_ ?_;intro gb155 hg w39 hbox hb;have BK155:=am hbox;have GW155:=gwE HB hg;have GE155:=gwE HB hg;replace HB:=hbS HB hb;clear hb hbox hg) | ((with_reducible refine gC 141 rfl ?_);refine gL (some 7) Tryz.func141 #[.string a0] ?_;(with_reducible refine (spec_l1Words.calls k a0 t156 _ A2.out).mono ?_);rintro e w40 ⟨v157,rfl,ho0,hb⟩;refine ⟨_,rfl,?_⟩;have HO158:=am (Kd.R_lower ho0 (below_size (bl HB)));replace BK155:=bkB BK155 hb;replace HB:=hbS HB hb;(try clear hb);(try clear ho0);obtain ⟨Ao41,co41,eo41⟩:=Kd.R_slice HO158.out;subst eo41;have:=bcell BK155 0;have:=bcell BK155 1;have:=bfz BK155 0;have:=bfz BK155 1))
  refine bodyPost_ret (results_ct rfl _ _ gb155 55 #[.int .i64 0,.int .i64 0] (0,0) _ rfl (by (with_reducible repeat refine bu ?_);refine blk_put (cs:=#[.int .i64 0,.int .i64 0]) ?_ 1 _ rfl;(with_reducible repeat refine bu ?_);refine blk_put (cs:=#[.int .i64 0,.int .i64 0]) ?_ 0 _ rfl;(with_reducible repeat refine bu ?_);exact BK155.out) Tryz.underlying55 rfl (by kernel_rfl)) rfl ?_
  exact ⟨fi_,m2_⟩
end
end Go.Proofs.YtakfmcpjnkagmaaGreatDoor.P
