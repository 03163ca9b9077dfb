import Derived.Test.YtakfmcpjnkagmaaGreatDoorProg
import Derived.Below
import Derived.Deep.Draws
import Derived.Deep.AppendLies
import Derived.Maps.AppendAt
import Derived.OwnWalk
import Derived.Laws.BytesArg
import Derived.Laws.MakeOwn
import Derived.Laws.OwnMore
import Derived.Deep.OwnRows
import Derived.Tactics
import Derived.Lib.ConvBytes
import Derived.Laws.Slices
import Derived.WalkKit
import Derived.KernelRfl
import Derived.RowKit3
import Derived.Deep.LoopGhost
import Derived.Deep.QuietTactic
import Derived.BigQuiet
import Derived.WideLaws
import Derived.Deep.DeepCutAuto
import Derived.Deep.CutBlock
import Derived.Deep.RegionHeld3
import Derived.Laws.Rows
import Derived.Lib.AppendStr
import Derived.ArgAppend
import Derived.Laws.IdiomCopy
import Derived.OrdersHeld
import Derived.Laws.BitsLemmas
import Derived.RowKit
import Derived.Test.YtakfmcpjnkagmaaGreatDoorUFnExactPosOutWords
import Derived.Test.YtakfmcpjnkagmaaGreatDoorUFnExactPosOutLast
import Derived.Test.YtakfmcpjnkagmaaGreatDoorUFnExactPosOutTab
import Derived.Test.YtakfmcpjnkagmaaGreatDoorUFnExactPosOutFour
import Derived.Test.YtakfmcpjnkagmaaGreatDoorUFnExactPosOutQPut
import Derived.Test.YtakfmcpjnkagmaaGreatDoorUFnExactPosOutApart
import Derived.Test.YtakfmcpjnkagmaaGreatDoorUFnExactPosOutArr
import Derived.Test.YtakfmcpjnkagmaaGreatDoorUFnExactPosOutZeros
import Derived.Test.YtakfmcpjnkagmaaGreatDoorUFnExactPosOutFoot
import Derived.Test.YtakfmcpjnkagmaaGreatDoorUFnExactPosOutKept
import Derived.Test.YtakfmcpjnkagmaaGreatDoorUFnExactPosOutShare
import Derived.Test.YtakfmcpjnkagmaaGreatDoorUFnExactPosOutN
import Derived.Test.YtakfmcpjnkagmaaGreatDoorUFnExactPosOutFootNe
import Derived.Test.YtakfmcpjnkagmaaGreatDoorUFnExactPosOutAt
import Derived.Test.YtakfmcpjnkagmaaGreatDoorUFnExactPosOutEqStruct
import Derived.Test.YtakfmcpjnkagmaaGreatDoorUFnExactPosOutRepsOne
import Derived.Test.YtakfmcpjnkagmaaGreatDoorUFnExactPosOutInv
import Derived.Test.YtakfmcpjnkagmaaGreatDoorUFnExactPosOutInvWords
import Derived.Test.YtakfmcpjnkagmaaGreatDoorUFnExactPosOutGuard
import Derived.Test.YtakfmcpjnkagmaaGreatDoorUFnExactPosOutNEv
import Derived.Test.YtakfmcpjnkagmaaGreatDoorUFnExactPosOutMore
import Derived.Shelf.Small.Wraps
import Derived.Shelf.LaysM
import Derived.Shelf.Strconv.Itoa3
import Derived.Shelf.LaysC
import Derived.Shelf.Strconv.AtoiAll
import Derived.Shelf.Strings.Cut
import Derived.Shelf.Vars
import Derived.Shelf.Lays
import Derived.Lib.Hide
import Derived.WalkSmall
import Derived.Test.YtakfmcpjnkagmaaGreatDoorRows
import Derived.Lay
import Derived.LaidSub
import Derived.MakeChecks
import Derived.Stop.Joined
import Derived.Deep.DeepHandedRow
import Derived.Lib.LaidTab
namespace Go.Proofs.YtakfmcpjnkagmaaGreatDoor.P
open Go.Proofs.YtakfmcpjnkagmaaGreatDoorUFnExactPosOut.PrintLast Go.Proofs.YtakfmcpjnkagmaaGreatDoorUFnExactPosOut.PrintMore Go.Proofs.YtakfmcpjnkagmaaGreatDoorUFnExactPosOut.PrintWords Go.RowKit
set_option linter.unusedVariables false
set_option linter.unusedSimpArgs false
section
attribute [local go_sem] max2_int min2_int max_two min_two max_three min_three max_four min_four
def errW : Option Int → Value
 | none=>.nilIface
 | some c=>.iface 133 (.int .i64 c)
theorem errW_none : errW none = .nilIface:=rfl
theorem errW_some (c : Int) : errW (some c) = .iface 133 (.int .i64 c):=rfl
theorem info9 : (Tryz.prog.info? 9).map (fun i=>(i.zero,i.size,i.bytes)) = some (some (.string ⟨#[]⟩),1,16):=by kernel_rfl
theorem info50 : (Tryz.prog.info? 50).map (fun i=>(i.zero,i.size,i.bytes)) = some (some (.agg #[(.int .i64 0),(.int .i64 0),(.int .i64 0),(.int .i64 0),(.bool false)]),5,40):=by kernel_rfl
theorem info55 : (Tryz.prog.info? 55).map (fun i=>(i.zero,i.size,i.bytes)) = some (some (.agg #[(.int .i64 0),(.int .i64 0)]),2,16):=by kernel_rfl
structure S77 where
 f0 : Int
 f1 : Int
def z77 : S77:=⟨(0 : Int),(0 : Int)⟩
def k77 : Kd S77:=Kd.iso (Kd.pair (Kd.int .i64) (Kd.int .i64)) (fun x : S77=>(x.f0,x.f1))
theorem k77_open {w : World} {x : S77} {cs : List Value} (h : k77.K w x cs) : cs = [.int .i64 x.f0,.int .i64 x.f1]:=by
 obtain ⟨_,_,rfl,rfl,rfl⟩:=h
 exact rfl
theorem k77_mk (w : World) (x : S77)  : k77.K w x [.int .i64 x.f0,.int .i64 x.f1]:=⟨[.int .i64 x.f0],[.int .i64 x.f1],rfl,rfl,rfl⟩
def rd_T77 (xs : List S77) (i : Int) : S77:=xs.getD i.toNat z77
theorem at_T77 {w : World} {A : Option Addr} {n : Nat} {xs : List S77} (h : Kd.C k77 w A n xs) (i : Int) (h0 : 0 ≤ i) (h1 : i < n) : ∃ ad ,A = some ad ∧ w.cell? (ad.add (i.toNat * 2)) = some (.int .i64 (rd_T77 xs i).f0) ∧ w.cell? ⟨(ad.add (i.toNat * 2)).block,(ad.add (i.toNat * 2)).off + 1,none⟩ = some (.int .i64 (rd_T77 xs i).f1):=by
 obtain ⟨ad,c,e,_,hK,hc0⟩:=Kd.C_get h z77 i h0 h1
 have hc : ∀ j u,c[j]? = some u → w.cell? (ad.add (i.toNat * 2 + j)) = some u:=hc0
 obtain rfl:=k77_open hK
 exact ⟨ad,e,hc 0 _ rfl,by rw [← add_field _ _ 1 (by omega)];exact hc 1 _ rfl⟩
structure S55 where
 f0 : Int
 f1 : Int
def z55 : S55:=⟨(0 : Int),(0 : Int)⟩
def k55 : Kd S55:=Kd.iso (Kd.pair (Kd.int .i64) (Kd.int .i64)) (fun x : S55=>(x.f0,x.f1))
theorem k55_heap : Kd.Heap k55:=Kd.heap_iso _ (Kd.heap_pair (Kd.heap_int .i64) (Kd.heap_int .i64))
theorem k55_open {w : World} {x : S55} {cs : List Value} (h : k55.K w x cs) : cs = [.int .i64 x.f0,.int .i64 x.f1]:=by
 obtain ⟨_,_,rfl,rfl,rfl⟩:=h
 exact rfl
theorem k55_openM {w : World} {base : Nat} {ok : Nat → Prop} {x : S55} {cs : List Value} (h : k55.M w base ok x cs) : cs = [.int .i64 x.f0,.int .i64 x.f1]:=by
 obtain ⟨_,_,rfl,rfl,rfl⟩:=h
 exact rfl
theorem k55_mkM (w : World) (base : Nat) (ok : Nat → Prop) (x : S55)  : k55.M w base ok x [.int .i64 x.f0,.int .i64 x.f1]:=⟨[.int .i64 x.f0],[.int .i64 x.f1],rfl,rfl,rfl⟩
def rd_T55 (xs : List S55) (i : Int) : S55:=xs.getD i.toNat z55
theorem at_T55 {w : World} {A : Option Addr} {n : Nat} {xs : List S55} (h : Kd.C k55 w A n xs) (i : Int) (h0 : 0 ≤ i) (h1 : i < n) : ∃ ad ,A = some ad ∧ w.cell? (ad.add (i.toNat * 2)) = some (.int .i64 (rd_T55 xs i).f0) ∧ w.cell? ⟨(ad.add (i.toNat * 2)).block,(ad.add (i.toNat * 2)).off + 1,none⟩ = some (.int .i64 (rd_T55 xs i).f1):=by
 obtain ⟨ad,c,e,_,hK,hc0⟩:=Kd.C_get h z55 i h0 h1
 have hc : ∀ j u,c[j]? = some u → w.cell? (ad.add (i.toNat * 2 + j)) = some u:=hc0
 obtain rfl:=k55_open hK
 exact ⟨ad,e,hc 0 _ rfl,by rw [← add_field _ _ 1 (by omega)];exact hc 1 _ rfl⟩
structure S50 where
 f0 : Int
 f1 : Int
 f2 : Int
 f3 : Int
 f4 : Bool
def z50 : S50:=⟨(0 : Int),(0 : Int),(0 : Int),(0 : Int),false⟩
def k50 : Kd S50:=Kd.iso (Kd.pair (Kd.int .i64) (Kd.pair (Kd.int .i64) (Kd.pair (Kd.int .i64) (Kd.pair (Kd.int .i64) Kd.bool)))) (fun x : S50=>(x.f0,x.f1,x.f2,x.f3,x.f4))
theorem k50_open {w : World} {x : S50} {cs : List Value} (h : k50.K w x cs) : cs = [.int .i64 x.f0,.int .i64 x.f1,.int .i64 x.f2,.int .i64 x.f3,.bool x.f4]:=by
 obtain ⟨_,_,rfl,rfl,⟨_,_,rfl,rfl,⟨_,_,rfl,rfl,⟨_,_,rfl,rfl,rfl⟩⟩⟩⟩:=h
 exact rfl
theorem k50_mkM (w : World) (base : Nat) (ok : Nat → Prop) (x : S50)  : k50.M w base ok x [.int .i64 x.f0,.int .i64 x.f1,.int .i64 x.f2,.int .i64 x.f3,.bool x.f4]:=⟨[.int .i64 x.f0],[.int .i64 x.f1,.int .i64 x.f2,.int .i64 x.f3,.bool x.f4],rfl,rfl,⟨[.int .i64 x.f1],[.int .i64 x.f2,.int .i64 x.f3,.bool x.f4],rfl,rfl,⟨[.int .i64 x.f2],[.int .i64 x.f3,.bool x.f4],rfl,rfl,⟨[.int .i64 x.f3],[.bool x.f4],rfl,rfl,rfl⟩⟩⟩⟩
def rd_T50 (xs : List S50) (i : Int) : S50:=xs.getD i.toNat z50
theorem at_T50 {w : World} {A : Option Addr} {n : Nat} {xs : List S50} (h : Kd.C k50 w A n xs) (i : Int) (h0 : 0 ≤ i) (h1 : i < n) : ∃ ad ,A = some ad ∧ w.cell? (ad.add (i.toNat * 5)) = some (.int .i64 (rd_T50 xs i).f0) ∧ w.cell? ⟨(ad.add (i.toNat * 5)).block,(ad.add (i.toNat * 5)).off + 1,none⟩ = some (.int .i64 (rd_T50 xs i).f1) ∧ w.cell? ⟨(ad.add (i.toNat * 5)).block,(ad.add (i.toNat * 5)).off + 2,none⟩ = some (.int .i64 (rd_T50 xs i).f2) ∧ w.cell? ⟨(ad.add (i.toNat * 5)).block,(ad.add (i.toNat * 5)).off + 3,none⟩ = some (.int .i64 (rd_T50 xs i).f3) ∧ w.cell? ⟨(ad.add (i.toNat * 5)).block,(ad.add (i.toNat * 5)).off + 4,none⟩ = some (.bool (rd_T50 xs i).f4):=by
 obtain ⟨ad,c,e,_,hK,hc0⟩:=Kd.C_get h z50 i h0 h1
 have hc : ∀ j u,c[j]? = some u → w.cell? (ad.add (i.toNat * 5 + j)) = some u:=hc0
 obtain rfl:=k50_open hK
 exact ⟨ad,e,hc 0 _ rfl,by rw [← add_field _ _ 1 (by omega)];exact hc 1 _ rfl,by rw [← add_field _ _ 2 (by omega)];exact hc 2 _ rfl,by rw [← add_field _ _ 3 (by omega)];exact hc 3 _ rfl,by rw [← add_field _ _ 4 (by omega)];exact hc 4 _ rfl⟩
end
end Go.Proofs.YtakfmcpjnkagmaaGreatDoor.P
namespace Go.Proofs
open Go.Shelf
def Tryz.lays103_ren : Go.Shelf.Ren := ⟨fun | 103 => 86 | 210 => 107 | 206 => 123 | n => n, fun | 9 => 9 | 4 => 4 | 24 => 103 | 3 => 3 | n => n, fun | n => n⟩
theorem Tryz.lays103 : Go.Proofs.Lays.n103 Tryz.prog Tryz.lays103_ren := {
  mixed := by kernel_rfl
  f103 := Tryz.func86.trans (congrArg some (by kernel_rfl))
  f206 := Tryz.func123.trans (congrArg some (by kernel_rfl))
  f210 := Tryz.func107.trans (congrArg some (by kernel_rfl))
  t3 := Tryz.underlying3
  a3 := Tryz.isAgg3
  z3 := Tryz.sizeOf3
  v3 := Tryz.zeroValue3
  t4 := Tryz.underlying4
  a4 := Tryz.isAgg4
  z4 := Tryz.sizeOf4
  v4 := Tryz.zeroValue4
  t9 := Tryz.underlying9
  a9 := Tryz.isAgg9
  z9 := Tryz.sizeOf9
  v9 := Tryz.zeroValue9
  t24 := Tryz.underlying103
  a24 := Tryz.isAgg103
  z24 := Tryz.sizeOf103
  v24 := Tryz.zeroValue103 }
open Go.RowKit in
theorem Tryz.strings_CutPrefix (s p : ByteArray) (w : World) :
    Calls Tryz.prog 86 #[.string s, .string p] w fun e w' => e = .returned (.tuple #[.string ⟨(Lib.trimPrefix s.data.toList p.data.toList).toArray⟩, .bool (Lib.hasPrefix s.data.toList p.data.toList)]) ∧ w' = w := Any.strings_CutPrefix Tryz.lays103 s p w
def Tryz.laysM171_ren : Go.Shelf.Ren := ⟨fun | 171 => 126 | 243 => 140 | 246 => 149 | 283 => 152 | 284 => 153 | 285 => 154 | 286 => 155 | 129 => 157 | 317 => 156 | 318 => 158 | 319 => 159 | 320 => 160 | 337 => 161 | 338 => 162 | n => n, fun | 3 => 3 | 9 => 9 | 2 => 2 | 4 => 4 | 171 => 154 | 0 => 0 | 53 => 141 | 37 => 39 | 5 => 5 | 173 => 157 | 212 => 160 | 51 => 114 | 20 => 20 | 213 => 161 | 46 => 107 | 232 => 164 | 233 => 165 | n => n, fun | 17 => 4 | 18 => 5 | 19 => 6 | n => n⟩
theorem Tryz.laysM171 : Go.Proofs.LaysM.n171 Tryz.prog Tryz.laysM171_ren := {
  mixed := by kernel_rfl
  f129 := Tryz.func157.trans (congrArg some (by kernel_rfl))
  f171 := Tryz.func126.trans (congrArg some (by kernel_rfl))
  f243 := Tryz.func140.trans (congrArg some (by kernel_rfl))
  f246 := Tryz.func149.trans (congrArg some (by kernel_rfl))
  f283 := Tryz.func152.trans (congrArg some (by kernel_rfl))
  f284 := Tryz.func153.trans (congrArg some (by kernel_rfl))
  f285 := Tryz.func154.trans (congrArg some (by kernel_rfl))
  f286 := Tryz.func155.trans (congrArg some (by kernel_rfl))
  f317 := Tryz.func156.trans (congrArg some (by kernel_rfl))
  f318 := Tryz.func158.trans (congrArg some (by kernel_rfl))
  f319 := Tryz.func159.trans (congrArg some (by kernel_rfl))
  f320 := Tryz.func160.trans (congrArg some (by kernel_rfl))
  f337 := Tryz.func161.trans (congrArg some (by kernel_rfl))
  f338 := Tryz.func162.trans (congrArg some (by kernel_rfl))
  t0 := Tryz.underlying0
  a0 := Tryz.isAgg0
  z0 := Tryz.sizeOf0
  v0 := Tryz.zeroValue0
  t2 := Tryz.underlying2
  a2 := Tryz.isAgg2
  z2 := Tryz.sizeOf2
  v2 := Tryz.zeroValue2
  t3 := Tryz.underlying3
  a3 := Tryz.isAgg3
  z3 := Tryz.sizeOf3
  v3 := Tryz.zeroValue3
  t4 := Tryz.underlying4
  a4 := Tryz.isAgg4
  z4 := Tryz.sizeOf4
  v4 := Tryz.zeroValue4
  t5 := Tryz.underlying5
  a5 := Tryz.isAgg5
  z5 := Tryz.sizeOf5
  v5 := Tryz.zeroValue5
  t9 := Tryz.underlying9
  a9 := Tryz.isAgg9
  z9 := Tryz.sizeOf9
  v9 := Tryz.zeroValue9
  t20 := Tryz.underlying20
  a20 := Tryz.isAgg20
  z20 := Tryz.sizeOf20
  v20 := Tryz.zeroValue20
  t37 := Tryz.underlying39
  a37 := Tryz.isAgg39
  z37 := Tryz.sizeOf39
  v37 := Tryz.zeroValue39
  t46 := Tryz.underlying107
  a46 := Tryz.isAgg107
  z46 := Tryz.sizeOf107
  v46 := Tryz.zeroValue107
  t51 := Tryz.underlying114
  a51 := Tryz.isAgg114
  z51 := Tryz.sizeOf114
  v51 := Tryz.zeroValue114
  t53 := Tryz.underlying141
  a53 := Tryz.isAgg141
  z53 := Tryz.sizeOf141
  v53 := Tryz.zeroValue141
  t171 := Tryz.underlying154
  a171 := Tryz.isAgg154
  z171 := Tryz.sizeOf154
  v171 := Tryz.zeroValue154
  t173 := Tryz.underlying157
  a173 := Tryz.isAgg157
  z173 := Tryz.sizeOf157
  v173 := Tryz.zeroValue157
  t212 := Tryz.underlying160
  a212 := Tryz.isAgg160
  z212 := Tryz.sizeOf160
  v212 := Tryz.zeroValue160
  t213 := Tryz.underlying161
  a213 := Tryz.isAgg161
  z213 := Tryz.sizeOf161
  t232 := Tryz.underlying164
  a232 := Tryz.isAgg164
  z232 := Tryz.sizeOf164
  v232 := Tryz.zeroValue164
  t233 := Tryz.underlying165
  a233 := Tryz.isAgg165
  z233 := Tryz.sizeOf165
  v233 := Tryz.zeroValue165
  g17 := by kernel_rfl
  g18 := by kernel_rfl
  g19 := by kernel_rfl
  i0 := by kernel_rfl
  i2 := by kernel_rfl
  i3 := by kernel_rfl
  i4 := by kernel_rfl
  i5 := by kernel_rfl
  i9 := by kernel_rfl
  i20 := by kernel_rfl
  i37 := by kernel_rfl
  i46 := by kernel_rfl
  i51 := by kernel_rfl
  i53 := by kernel_rfl
  i171 := by kernel_rfl
  i173 := by kernel_rfl
  i212 := by kernel_rfl
  i232 := by kernel_rfl
  i233 := by kernel_rfl
  m17 := by kernel_rfl
  m18 := by kernel_rfl
  m19 := by kernel_rfl }
open Go.RowKit Go.Sort Go.Lib in
theorem Tryz.strconv_Itoa (n : Int) (h0 : -9223372036854775808 ≤ n) (h1 : n ≤ 9223372036854775807) (w : World) (htab : Lib.TabIs Tryz.prog w "internal/strconv.uint64pow10" .u64 Lib.pow10Tab) :
    Calls Tryz.prog 126 #[.int .i64 n] w fun e w' => e = .returned (.string ⟨(Lib.itoa n).toArray⟩) ∧ ∃ k os, w' = grow (w.drewN k) os := Any.strconv_Itoa Tryz.laysM171 n h0 h1 w htab
def Tryz.laysC172_ren : Go.Shelf.Ren := ⟨fun | 172 => 108 | 244 => 124 | 245 => 125 | 247 => 135 | 279 => 136 | 280 => 137 | 281 => 138 | 282 => 139 | 287 => 146 | 316 => 147 | 171 => 126 | 205 => 148 | 321 => 150 | 322 => 151 | 243 => 140 | 246 => 149 | 283 => 152 | 284 => 153 | 285 => 154 | 286 => 155 | 129 => 157 | 317 => 156 | 318 => 158 | 319 => 159 | 320 => 160 | 337 => 161 | 338 => 162 | n => n, fun | 9 => 9 | 3 => 3 | 75 => 97 | 76 => 98 | 4 => 4 | 5 => 5 | 167 => 133 | 37 => 39 | 0 => 0 | 85 => 134 | 2 => 2 | 168 => 136 | 53 => 141 | 175 => 142 | 46 => 107 | 210 => 146 | 127 => 121 | 145 => 153 | 143 => 151 | 21 => 21 | 171 => 154 | 173 => 157 | 212 => 160 | 51 => 114 | 20 => 20 | 213 => 161 | 232 => 164 | 233 => 165 | 80 => 100 | n => n, fun | 15 => 2 | 16 => 3 | 17 => 4 | 18 => 5 | 19 => 6 | n => n⟩
theorem Tryz.laysC172 : Go.Proofs.LaysC.n172 Tryz.prog Tryz.laysC172_ren := {
  mixed := by kernel_rfl
  f129 := Tryz.func157.trans (congrArg some (by kernel_rfl))
  f171 := Tryz.func126.trans (congrArg some (by kernel_rfl))
  f172 := Tryz.func108.trans (congrArg some (by kernel_rfl))
  f205 := Tryz.func148.trans (congrArg some (by kernel_rfl))
  f243 := Tryz.func140.trans (congrArg some (by kernel_rfl))
  f244 := Tryz.func124.trans (congrArg some (by kernel_rfl))
  f245 := Tryz.func125.trans (congrArg some (by kernel_rfl))
  f246 := Tryz.func149.trans (congrArg some (by kernel_rfl))
  f247 := Tryz.func135.trans (congrArg some (by kernel_rfl))
  f279 := Tryz.func136.trans (congrArg some (by kernel_rfl))
  f280 := Tryz.func137.trans (congrArg some (by kernel_rfl))
  f281 := Tryz.func138.trans (congrArg some (by kernel_rfl))
  f282 := Tryz.func139.trans (congrArg some (by kernel_rfl))
  f283 := Tryz.func152.trans (congrArg some (by kernel_rfl))
  f284 := Tryz.func153.trans (congrArg some (by kernel_rfl))
  f285 := Tryz.func154.trans (congrArg some (by kernel_rfl))
  f286 := Tryz.func155.trans (congrArg some (by kernel_rfl))
  f287 := Tryz.func146.trans (congrArg some (by kernel_rfl))
  f316 := Tryz.func147.trans (congrArg some (by kernel_rfl))
  f317 := Tryz.func156.trans (congrArg some (by kernel_rfl))
  f318 := Tryz.func158.trans (congrArg some (by kernel_rfl))
  f319 := Tryz.func159.trans (congrArg some (by kernel_rfl))
  f320 := Tryz.func160.trans (congrArg some (by kernel_rfl))
  f321 := Tryz.func150.trans (congrArg some (by kernel_rfl))
  f322 := Tryz.func151.trans (congrArg some (by kernel_rfl))
  f337 := Tryz.func161.trans (congrArg some (by kernel_rfl))
  f338 := Tryz.func162.trans (congrArg some (by kernel_rfl))
  t0 := Tryz.underlying0
  a0 := Tryz.isAgg0
  z0 := Tryz.sizeOf0
  v0 := Tryz.zeroValue0
  t2 := Tryz.underlying2
  a2 := Tryz.isAgg2
  z2 := Tryz.sizeOf2
  v2 := Tryz.zeroValue2
  t3 := Tryz.underlying3
  a3 := Tryz.isAgg3
  z3 := Tryz.sizeOf3
  v3 := Tryz.zeroValue3
  t4 := Tryz.underlying4
  a4 := Tryz.isAgg4
  z4 := Tryz.sizeOf4
  v4 := Tryz.zeroValue4
  t5 := Tryz.underlying5
  a5 := Tryz.isAgg5
  z5 := Tryz.sizeOf5
  v5 := Tryz.zeroValue5
  t9 := Tryz.underlying9
  a9 := Tryz.isAgg9
  z9 := Tryz.sizeOf9
  v9 := Tryz.zeroValue9
  t20 := Tryz.underlying20
  a20 := Tryz.isAgg20
  z20 := Tryz.sizeOf20
  v20 := Tryz.zeroValue20
  t21 := Tryz.underlying21
  a21 := Tryz.isAgg21
  z21 := Tryz.sizeOf21
  v21 := Tryz.zeroValue21
  t37 := Tryz.underlying39
  a37 := Tryz.isAgg39
  z37 := Tryz.sizeOf39
  v37 := Tryz.zeroValue39
  t46 := Tryz.underlying107
  a46 := Tryz.isAgg107
  z46 := Tryz.sizeOf107
  v46 := Tryz.zeroValue107
  t51 := Tryz.underlying114
  a51 := Tryz.isAgg114
  z51 := Tryz.sizeOf114
  v51 := Tryz.zeroValue114
  t53 := Tryz.underlying141
  a53 := Tryz.isAgg141
  z53 := Tryz.sizeOf141
  v53 := Tryz.zeroValue141
  t75 := Tryz.underlying97
  a75 := Tryz.isAgg97
  z75 := Tryz.sizeOf97
  v75 := Tryz.zeroValue97
  t76 := Tryz.underlying98
  a76 := Tryz.isAgg98
  z76 := Tryz.sizeOf98
  v76 := Tryz.zeroValue98
  t85 := Tryz.underlying134
  a85 := Tryz.isAgg134
  z85 := Tryz.sizeOf134
  v85 := Tryz.zeroValue134
  t127 := Tryz.underlying121
  a127 := Tryz.isAgg121
  z127 := Tryz.sizeOf121
  v127 := Tryz.zeroValue121
  t143 := Tryz.underlying151
  a143 := Tryz.isAgg151
  z143 := Tryz.sizeOf151
  v143 := Tryz.zeroValue151
  t145 := Tryz.underlying153
  a145 := Tryz.isAgg153
  z145 := Tryz.sizeOf153
  v145 := Tryz.zeroValue153
  t167 := Tryz.underlying133
  a167 := Tryz.isAgg133
  z167 := Tryz.sizeOf133
  v167 := Tryz.zeroValue133
  t168 := Tryz.underlying136
  a168 := Tryz.isAgg136
  z168 := Tryz.sizeOf136
  v168 := Tryz.zeroValue136
  t171 := Tryz.underlying154
  a171 := Tryz.isAgg154
  z171 := Tryz.sizeOf154
  v171 := Tryz.zeroValue154
  t173 := Tryz.underlying157
  a173 := Tryz.isAgg157
  z173 := Tryz.sizeOf157
  v173 := Tryz.zeroValue157
  t175 := Tryz.underlying142
  a175 := Tryz.isAgg142
  z175 := Tryz.sizeOf142
  v175 := Tryz.zeroValue142
  t210 := Tryz.underlying146
  a210 := Tryz.isAgg146
  z210 := Tryz.sizeOf146
  v210 := Tryz.zeroValue146
  t212 := Tryz.underlying160
  a212 := Tryz.isAgg160
  z212 := Tryz.sizeOf160
  v212 := Tryz.zeroValue160
  t213 := Tryz.underlying161
  a213 := Tryz.isAgg161
  z213 := Tryz.sizeOf161
  t232 := Tryz.underlying164
  a232 := Tryz.isAgg164
  z232 := Tryz.sizeOf164
  v232 := Tryz.zeroValue164
  t233 := Tryz.underlying165
  a233 := Tryz.isAgg165
  z233 := Tryz.sizeOf165
  v233 := Tryz.zeroValue165
  g15 := by kernel_rfl
  g16 := by kernel_rfl
  g17 := by kernel_rfl
  g18 := by kernel_rfl
  g19 := by kernel_rfl
  t80 := Tryz.underlying100
  a80 := Tryz.isAgg100
  z80 := Tryz.sizeOf100
  v80 := Tryz.zeroValue100
  i0 := by kernel_rfl
  i2 := by kernel_rfl
  i3 := by kernel_rfl
  i4 := by kernel_rfl
  i5 := by kernel_rfl
  i9 := by kernel_rfl
  i20 := by kernel_rfl
  i21 := by kernel_rfl
  i37 := by kernel_rfl
  i46 := by kernel_rfl
  i51 := by kernel_rfl
  i53 := by kernel_rfl
  i75 := by kernel_rfl
  i76 := by kernel_rfl
  i80 := by kernel_rfl
  i85 := by kernel_rfl
  i127 := by kernel_rfl
  i143 := by kernel_rfl
  i145 := by kernel_rfl
  i167 := by kernel_rfl
  i168 := by kernel_rfl
  i171 := by kernel_rfl
  i173 := by kernel_rfl
  i175 := by kernel_rfl
  i210 := by kernel_rfl
  i212 := by kernel_rfl
  i232 := by kernel_rfl
  i233 := by kernel_rfl
  m15 := by kernel_rfl
  m16 := by kernel_rfl
  m17 := by kernel_rfl
  m18 := by kernel_rfl
  m19 := by kernel_rfl
  c0 := by kernel_rfl
  c2 := by kernel_rfl
  c3 := by kernel_rfl
  c4 := by kernel_rfl
  c5 := by kernel_rfl
  c9 := by kernel_rfl
  c20 := by kernel_rfl
  c21 := by kernel_rfl
  c37 := by kernel_rfl
  c46 := by kernel_rfl
  c51 := by kernel_rfl
  c53 := by kernel_rfl
  c75 := by kernel_rfl
  c76 := by kernel_rfl
  c80 := by kernel_rfl
  c85 := by kernel_rfl
  c127 := by kernel_rfl
  c143 := by kernel_rfl
  c145 := by kernel_rfl
  c167 := by kernel_rfl
  c168 := by kernel_rfl
  c171 := by kernel_rfl
  c173 := by kernel_rfl
  c175 := by kernel_rfl
  c210 := by kernel_rfl
  c212 := by kernel_rfl
  c213 := by kernel_rfl
  c232 := by kernel_rfl
  c233 := by kernel_rfl }
open Go.RowKit in
theorem Tryz.strconv_Atoi_ok (s : ByteArray) (hmax : s.size ≤ 9223372036854775806) (v : Int) (h : Lib.atoiAll s.data.toList = .ok v) (w : World) :
    Calls Tryz.prog 108 #[.string s] w fun e w' => e = .returned (.tuple #[.int .i64 v, .nilIface]) ∧ (w' = w ∨ ∃ t, w' = Lib.bytesWorld w 5 t) := Any.strconv_Atoi_ok Tryz.laysC172 s hmax v h w
open Go.RowKit in
theorem Tryz.strconv_Atoi_syntax (s : ByteArray) (hlim : s.size ≤ 281474976710656) (h : Lib.atoiAll s.data.toList = Lib.atoiAll []) (ev : Value) (w : World) (hv : w.cell? ⟨2, 0, none⟩ = some ev) (hev : ev = .nilIface ∨ ∃ te pe, ev = .iface te pe) :
    Calls Tryz.prog 108 #[.string s] w fun e w' => ∃ N, e = .returned (.tuple #[.int .i64 (0), .iface 136 (.pointer (some ⟨N, 0, none⟩))]) ∧ w.heap.size ≤ N ∧ w'.heap[N]? = some (.cells #[.string ⟨#[65, 116, 111, 105]⟩, .string s, ev] 146 (0, 0)) ∧ Below w.heap.size w w' := Any.strconv_Atoi_syntax Tryz.laysC172 s hlim h ev w hv hev
open Go.RowKit in
theorem Tryz.strconv_Atoi_range (s : ByteArray) (hlim : s.size ≤ 281474976710656) (h : Lib.atoiAll s.data.toList = .range) (ev : Value) (w : World) (hv : w.cell? ⟨3, 0, none⟩ = some ev) (hev : ev = .nilIface ∨ ∃ te pe, ev = .iface te pe) :
    Calls Tryz.prog 108 #[.string s] w fun e w' => ∃ N, e = .returned (.tuple #[.int .i64 (Lib.atoiSat s.data.toList), .iface 136 (.pointer (some ⟨N, 0, none⟩))]) ∧ w.heap.size ≤ N ∧ w'.heap[N]? = some (.cells #[.string ⟨#[65, 116, 111, 105]⟩, .string s, ev] 146 (0, 0)) ∧ Below w.heap.size w w' := Any.strconv_Atoi_range Tryz.laysC172 s hlim h ev w hv hev
def Tryz.lays145_ren : Go.Shelf.Ren := ⟨fun | 145 => 78 | 220 => 99 | 219 => 98 | 217 => 116 | 225 => 117 | 224 => 118 | 267 => 119 | 266 => 131 | 314 => 132 | n => n, fun | 9 => 9 | 4 => 4 | 59 => 89 | 3 => 3 | 5 => 5 | 46 => 107 | 146 => 115 | 51 => 114 | n => n, fun | 1 => 0 | n => n⟩
theorem Tryz.lays145 : Go.Proofs.Lays.n145 Tryz.prog Tryz.lays145_ren := {
  mixed := by kernel_rfl
  f145 := Tryz.func78.trans (congrArg some (by kernel_rfl))
  f217 := Tryz.func116.trans (congrArg some (by kernel_rfl))
  f219 := Tryz.func98.trans (congrArg some (by kernel_rfl))
  f220 := Tryz.func99.trans (congrArg some (by kernel_rfl))
  f224 := Tryz.func118.trans (congrArg some (by kernel_rfl))
  f225 := Tryz.func117.trans (congrArg some (by kernel_rfl))
  f266 := Tryz.func131.trans (congrArg some (by kernel_rfl))
  f267 := Tryz.func119.trans (congrArg some (by kernel_rfl))
  f314 := Tryz.func132.trans (congrArg some (by kernel_rfl))
  t3 := Tryz.underlying3
  a3 := Tryz.isAgg3
  z3 := Tryz.sizeOf3
  v3 := Tryz.zeroValue3
  t4 := Tryz.underlying4
  a4 := Tryz.isAgg4
  z4 := Tryz.sizeOf4
  v4 := Tryz.zeroValue4
  t5 := Tryz.underlying5
  a5 := Tryz.isAgg5
  z5 := Tryz.sizeOf5
  v5 := Tryz.zeroValue5
  t9 := Tryz.underlying9
  a9 := Tryz.isAgg9
  z9 := Tryz.sizeOf9
  v9 := Tryz.zeroValue9
  t46 := Tryz.underlying107
  a46 := Tryz.isAgg107
  z46 := Tryz.sizeOf107
  v46 := Tryz.zeroValue107
  t51 := Tryz.underlying114
  a51 := Tryz.isAgg114
  z51 := Tryz.sizeOf114
  v51 := Tryz.zeroValue114
  t59 := Tryz.underlying89
  a59 := Tryz.isAgg89
  z59 := Tryz.sizeOf89
  v59 := Tryz.zeroValue89
  t146 := Tryz.underlying115
  a146 := Tryz.isAgg115
  z146 := Tryz.sizeOf115
  v146 := Tryz.zeroValue115
  g1 := by kernel_rfl }
open Go.RowKit Go.Lib in
theorem Tryz.strings_Cut (s sep : ByteArray) (m : Int) (w : World) (hs : s.size < 4294967281) (hm : w.cell? ⟨0, 0, none⟩ = some (.int .i64 m)) :
    Calls Tryz.prog 78 #[.string s, .string sep] w fun e w' => e = .returned (.tuple #[.string ⟨(Lib.cut s.data.toList sep.data.toList).1.toArray⟩, .string ⟨(Lib.cut s.data.toList sep.data.toList).2.1.toArray⟩, .bool (Lib.cut s.data.toList sep.data.toList).2.2]) ∧ ∃ n, w' = w.drewN n := Any.strings_Cut Tryz.lays145 s sep m w hs hm
end Go.Proofs
namespace Go.Proofs.YtakfmcpjnkagmaaGreatDoor.P
open Go Go.Proofs.YtakfmcpjnkagmaaGreatDoorUFnExactPosOut.PrintLast Go.Proofs.YtakfmcpjnkagmaaGreatDoorUFnExactPosOut.PrintMore Go.Proofs.YtakfmcpjnkagmaaGreatDoorUFnExactPosOut.PrintWords Go.RowKit Go.Sort
set_option linter.unusedVariables false
theorem var_below {P : Program} {n : String} {cs : Array Value} {w w' : World} (h : w.var? P n = some cs) (b : Below w.heap.size w w') : w'.var? P n = some cs := by
  simp only [World.var?] at h ⊢
  cases hg : P.globalNamed n with
  | none => rw [hg] at h; exact h
  | some g =>
    rw [hg] at h
    simp only [Option.bind_some] at h ⊢
    cases hk : w.heap[g]? with
    | none => rw [hk] at h; simp at h
    | some o => rw [b.block g (Array.getElem?_eq_some_iff.1 hk).1, hk]; rw [hk] at h; exact h
theorem cell_below {g : Nat} {v : Value} {w w' : World} (h : w.cell? ⟨g, 0, none⟩ = some v) (b : Below w.heap.size w w') : w'.cell? ⟨g, 0, none⟩ = some v := by
  simp only [World.cell?] at h ⊢
  cases hk : w.heap[g]? with
  | none => rw [hk] at h; simp at h
  | some o => rw [b.block g (Array.getElem?_eq_some_iff.1 hk).1, hk]; rw [hk] at h; exact h
structure EnvT (w : World) : Prop where
  pow : Lib.TabIs Tryz.prog w "internal/strconv.uint64pow10" .u64 Lib.pow10Tab
theorem EnvT.below {w w' : World} (h : EnvT w) (b : Below w.heap.size w w') : EnvT w' := ⟨var_below h.pow b⟩
theorem below_grow {B : Nat} {a w : World} (h : Below B a w) (hB : B ≤ w.heap.size) (os : Array Obj) : Below B a (grow w os) :=
  h.trans ⟨rfl, rfl, rfl, by simp [grow], fun k hk => by simp only [grow]; rw [Array.getElem?_append_left (by omega)]⟩
theorem itoa_calls (n : Int) (h0 : 0 ≤ n) (h1 : n ≤ 1000000) (w : World) (hE : EnvT w) :
    Calls Tryz.prog 126 #[.int .i64 n] w fun e w' => e = .returned (.string ⟨(Lib.itoa n).toArray⟩) ∧ Below w.heap.size w w' := by
  refine (Tryz.strconv_Itoa n (by omega) (by omega) w hE.pow).mono ?_
  rintro e w' ⟨rfl, k, os, rfl⟩
  exact ⟨rfl, below_grow (below_drewN (Below.refl _ _) k) (Nat.le_refl _) os⟩
theorem toList_inj {a b : ByteArray} (h : a.toList = b.toList) : a = b := by
  rw [ByteArray.toList_eq, ByteArray.toList_eq] at h
  cases a; cases b; simp at h; rw [h]
def numB (n : Int) : ByteArray := ⟨(Lib.itoa n).toArray⟩
theorem numB_size {n : Int} (h0 : 0 ≤ n) (h1 : n ≤ 999) : (numB n).size ≤ 3 := by
  obtain ⟨k, rfl⟩ : ∃ k : Nat, n = k := ⟨n.toNat, by omega⟩
  have hk : k < 1000 := by omega
  have h3 : Lib.nDigits k ≤ 3 := by
    by_cases a : k < 10
    · rw [Lib.nDigits_small a]; omega
    · rw [Lib.nDigits_big a]
      by_cases b : k / 10 < 10
      · rw [Lib.nDigits_small b]; omega
      · rw [Lib.nDigits_big b, Lib.nDigits_small (by omega)]; omega
  have : (Lib.itoa (k : Int)).length ≤ 3 := by
    unfold Lib.itoa
    rw [if_neg (by omega), Lib.decDigits_length]
    simpa using h3
  simpa [numB, ByteArray.size] using this
theorem num_calls (n : Int) (h0 : 0 ≤ n) (h1 : n ≤ 999) (w : World) (hE : EnvT w) :
    Calls Tryz.prog 126 #[.int .i64 n] w fun e w' => ∃ b : ByteArray, e = .returned (.string b) ∧ b = numB n ∧ b.size ≤ 3 ∧ Below w.heap.size w w' := by
  refine (itoa_calls n h0 (by omega) w hE).mono ?_
  rintro e w' ⟨rfl, hb⟩
  exact ⟨_, rfl, rfl, numB_size h0 h1, hb⟩
structure Env (w : World) : Prop where
  t : EnvT w
  max : ∃ m, w.cell? ⟨0, 0, none⟩ = some (.int .i64 m)
  syn : ∃ te pe, w.cell? ⟨2, 0, none⟩ = some (.iface te pe)
  rng : ∃ te pe, w.cell? ⟨3, 0, none⟩ = some (.iface te pe)
theorem Env.below {w w' : World} (h : Env w) (b : Below w.heap.size w w') : Env w' :=
  ⟨h.t.below b, h.max.elim fun m hm => ⟨m, cell_below hm b⟩, h.syn.elim fun a ha => ha.elim fun c hc => ⟨a, c, cell_below hc b⟩, h.rng.elim fun a ha => ha.elim fun c hc => ⟨a, c, cell_below hc b⟩⟩
theorem below_bytesE (w : World) (e : TypeId) (s : ByteArray) : Below w.heap.size w (Lib.bytesWorld w e s) := by
  refine ⟨?_, ?_, ?_, ?_, fun k hk => Lib.bytesWorld_at_old w e s k hk⟩ <;> unfold Lib.bytesWorld World.freeze <;> simp [World.alloc, World.drew, -World.alloc_eq, -World.drew_eq]
theorem end_cases (x : Lib.NumEnd Int) : (∃ n, x = .ok n) ∨ x = .range ∨ x = Lib.atoiAll [] := by
  cases x <;> first | exact .inl ⟨_, rfl⟩ | exact .inr (.inl rfl) | exact .inr (.inr rfl)
def atoiP (s : ByteArray) (v : Int) (ev : Value) : Prop := (Lib.atoiAll s.data.toList = .ok v ∧ ev = .nilIface) ∨ ((∀ n, Lib.atoiAll s.data.toList ≠ .ok n) ∧ ∃ t p, ev = .iface t p)
theorem atoi_calls (s : ByteArray) (hs : s.size ≤ 281474976710656) (w : World) (hE : Env w) :
    Calls Tryz.prog 108 #[.string s] w fun e w' => ∃ (v : Int) (ev : Value), e = .returned (.tuple #[.int .i64 v, ev]) ∧ atoiP s v ev ∧ Below w.heap.size w w' := by
  rcases end_cases (Lib.atoiAll s.data.toList) with ⟨n, h⟩ | h | h
  · refine (Tryz.strconv_Atoi_ok s (by omega) n h w).mono ?_
    rintro e w' ⟨rfl, hw⟩
    refine ⟨n, .nilIface, rfl, .inl ⟨h, rfl⟩, ?_⟩
    rcases hw with rfl | ⟨t, rfl⟩
    · exact Below.refl _ _
    · exact below_bytesE _ _ _
  · obtain ⟨te, pe, hv⟩ := hE.rng
    refine (Tryz.strconv_Atoi_range s hs h _ w hv (.inr ⟨te, pe, rfl⟩)).mono ?_
    rintro e w' ⟨N, rfl, _, _, hb⟩
    exact ⟨_, _, rfl, .inr ⟨fun n hn => (by rw [h] at hn; cases hn), _, _, rfl⟩, hb⟩
  · obtain ⟨te, pe, hv⟩ := hE.syn
    refine (Tryz.strconv_Atoi_syntax s hs h _ w hv (.inr ⟨te, pe, rfl⟩)).mono ?_
    rintro e w' ⟨N, rfl, _, _, hb⟩
    exact ⟨_, _, rfl, .inr ⟨fun n hn => (by rw [h] at hn; cases hn), _, _, rfl⟩, hb⟩
def atoiO (s : ByteArray) : Option Int := match Lib.atoiAll s.data.toList with | .ok n => some n | _ => none
theorem atoi_ok (s : ByteArray) (hs : s.size ≤ 281474976710656) (v : Int) (h : atoiO s = some v) (w : World) (hE : Env w) :
    Calls Tryz.prog 108 #[.string s] w fun e w' => e = .returned (.tuple #[.int .i64 v, .nilIface]) ∧ Below w.heap.size w w' := by
  refine (atoi_calls s hs w hE).mono ?_
  rintro e w' ⟨v', ev, rfl, hp, hb⟩
  rcases hp with ⟨h1, rfl⟩ | ⟨h1, _⟩
  · unfold atoiO at h; rw [h1] at h; cases h; exact ⟨rfl, hb⟩
  · unfold atoiO at h
    rcases end_cases (Lib.atoiAll s.data.toList) with ⟨n, h2⟩ | h2 | h2
    · exact absurd h2 (h1 n)
    · rw [h2] at h; cases h
    · rw [h2] at h; cases h
theorem atoi_no (s : ByteArray) (hs : s.size ≤ 281474976710656) (h : atoiO s = none) (w : World) (hE : Env w) :
    Calls Tryz.prog 108 #[.string s] w fun e w' => ∃ v t p, e = .returned (.tuple #[.int .i64 v, .iface t p]) ∧ Below w.heap.size w w' := by
  refine (atoi_calls s hs w hE).mono ?_
  rintro e w' ⟨v', ev, rfl, hp, hb⟩
  rcases hp with ⟨h1, rfl⟩ | ⟨h1, t, p, rfl⟩
  · unfold atoiO at h; rw [h1] at h; cases h
  · exact ⟨_, _, _, rfl, hb⟩
structure EnvE (w : World) : Prop where
  e : Env w
  err : ∃ te pe, w.cell? ⟨1, 0, none⟩ = some (.iface te pe)
theorem EnvE.below {w w' : World} (h : EnvE w) (b : Below w.heap.size w w') : EnvE w' :=
  ⟨h.e.below b, h.err.elim fun a ha => ha.elim fun c hc => ⟨a, c, cell_below hc b⟩⟩
end Go.Proofs.YtakfmcpjnkagmaaGreatDoor.P
namespace Go.Proofs.YtakfmcpjnkagmaaGreatDoor.P
open Go Go.RowKit
set_option linter.unusedVariables false
theorem laid_iface {P : Program} {n nm : String} {d : DataW Unit} {r : List (String × DataW Unit)} {W : World} {g : Nat} {ti : TypeId} {ms : Array (String × TypeId)}
    (h : laidMet P ((n, .iface nm d) :: r) W) (hg : P.globalNamed n = some g) (ht : (P.globals[g]?).map (·.type) = some ti) (hi : P.underlying ti = some (.interface ms)) :
    ∃ u v, W.cell? ⟨g, 0, none⟩ = some (.iface u v) := by
  obtain ⟨ps, ⟨g0, t0, cs0, f0, p0, q0, hg0, ht0, hv0, hd0, _, e0⟩, _, hrows⟩ := h
  obtain rfl := Option.some.inj (hg.symm.trans hg0)
  obtain rfl := Option.some.inj (ht.symm.trans ht0)
  obtain ⟨f1, u, v, hc, _⟩ := iface_of_trod hi hd0
  refine ⟨u, v, ?_⟩
  have := World.var?_cell hg0 hv0 0
  rw [Array.eq_one_of_toList hc] at this
  simpa using this
theorem laid_one {P : Program} {L : List (String × DataW Unit)} {W : World} (h : laidMetH P L W) (n : String) {x : String × DataW Unit} (e : (L.filter fun x => x.1 == n) = [x]) (hx : x.2.handleName?.isNone = true) : laidMet P [x] W := by
  have h1 := h.filter (fun x => x.1 == n)
  rw [e, MakeChecks.laidMetH_plain _ _ _ (by simp [hx])] at h1
  exact h1
theorem envT_of {L : List (String × DataW Unit)} {W : World} (h : laidMetH Tryz.prog L W)
    (e : (L.filter fun x => x.1 == "internal/strconv.uint64pow10") = [("internal/strconv.uint64pow10", Lib.tabData .u64 Lib.pow10Tab)]) : EnvT W :=
  ⟨Lib.tabIs_of_head (g := 4) (by kernel_rfl) (by kernel_rfl) Tryz.underlying160 Tryz.underlying141 (by kernel_rfl) (by kernel_rfl) (laid_one h _ e rfl)⟩
theorem env_of {L : List (String × DataW Unit)} {W : World} (h : laidMetH Tryz.prog L W) (hs : W.ShapedOpen Tryz.prog)
    (e : (L.filter fun x => x.1 == "internal/strconv.uint64pow10") = [("internal/strconv.uint64pow10", Lib.tabData .u64 Lib.pow10Tab)])
    (e1 : (L.filter fun x => x.1 == "strconv.ErrSyntax") = [("strconv.ErrSyntax", Rows.laid_strconv_ErrSyntax)])
    (e2 : (L.filter fun x => x.1 == "strconv.ErrRange") = [("strconv.ErrRange", Rows.laid_strconv_ErrRange)]) : Env W :=
  ⟨envT_of h e, cell_of_shapedOpen_int (zero := #[.int .i64 0]) (t := 3) hs (of_decide_eq_true (by kernel_rfl)) (by kernel_rfl) rfl (by kernel_rfl) (by kernel_rfl) Tryz.underlying3,
   laid_iface (laid_one h _ e1 rfl) (by kernel_rfl) (by kernel_rfl) Tryz.underlying97, laid_iface (laid_one h _ e2 rfl) (by kernel_rfl) (by kernel_rfl) Tryz.underlying97⟩
theorem envE_of {L : List (String × DataW Unit)} {W : World} (h : laidMetH Tryz.prog L W) (hs : W.ShapedOpen Tryz.prog)
    (e : (L.filter fun x => x.1 == "internal/strconv.uint64pow10") = [("internal/strconv.uint64pow10", Lib.tabData .u64 Lib.pow10Tab)])
    (e1 : (L.filter fun x => x.1 == "strconv.ErrSyntax") = [("strconv.ErrSyntax", Rows.laid_strconv_ErrSyntax)])
    (e2 : (L.filter fun x => x.1 == "strconv.ErrRange") = [("strconv.ErrRange", Rows.laid_strconv_ErrRange)])
    (e3 : (L.filter fun x => x.1 == "loop.example/hatchway/impl.errEnd") = [("loop.example/hatchway/impl.errEnd", Rows.laid_loop_example_hatchway_impl_errEnd)]) : EnvE W :=
  ⟨env_of h hs e e1 e2, laid_iface (laid_one h _ e3 rfl) (by kernel_rfl) (by kernel_rfl) Tryz.underlying97⟩
theorem witness_laid {H : Type} {enc : TypeId × Value → H} {os : Os} {f : FuncId} {fn : Func} {s : OpenSpec} {conds : List PathCond} {apart : Bool} {laid : List (String × DataW Unit)} (args : Array Value)
    (hsh : ((World.laidAll Tryz.prog os laid).forCall (fun _ _ => 0) ⟨#[], args, []⟩).Shaped Tryz.prog)
    (hok : Input.okWideB Tryz.prog ((World.laidAll Tryz.prog os laid).forCall (fun _ _ => 0) ⟨#[], args, []⟩) f ⟨#[], args, []⟩ = true)
    (hrow : s.preRow enc Tryz.prog fn conds apart laid ((World.laidAll Tryz.prog os laid).forCall (fun _ _ => 0) ⟨#[], args, []⟩).memory args) :
    ∃ (w : World) (tape : Tape) (i : Input), w.os = os ∧ (w.forCall tape i).Shaped Tryz.prog ∧ i.vars = [] ∧ Input.okWide Tryz.prog (w.forCall tape i) .any w.heap.size f i ∧
      s.preRow enc Tryz.prog fn conds apart laid (w.forCall tape i).memory i.args ∧ ({} : Assume).holds Tryz.prog (lone (Frame.enter Tryz.prog f i.args .normal) [] (w.forCall tape i)) :=
  ⟨World.laidAll Tryz.prog os laid, fun _ _ => 0, ⟨#[], args, []⟩, World.laidAll_os _ _ _, hsh, (Input.okWide_of_okWideB (base := 0) hok).1, (Input.okWide_of_okWideB hok).2, hrow, by simp [Assume.holds]⟩
end Go.Proofs.YtakfmcpjnkagmaaGreatDoor.P
namespace Go.Proofs.YtakfmcpjnkagmaaGreatDoor.P
open Go.Proofs.YtakfmcpjnkagmaaGreatDoorUFnExactPosOut.PrintLast Go.Proofs.YtakfmcpjnkagmaaGreatDoorUFnExactPosOut.PrintMore Go.Proofs.YtakfmcpjnkagmaaGreatDoorUFnExactPosOut.PrintWords Go.RowKit
set_option linter.unusedVariables false
set_option linter.unusedSimpArgs false
section
attribute [local go_sem] max2_int min2_int max_two min_two max_three min_three max_four min_four
def impl_within.f (a0 : Int) (a1 : Int) (a2 : Int) : Option (Bool):=if a0 ≥ a1 then (some (decide (a0 ≤ a2))) else (some false)
set_option maxHeartbeats 8000000 in
set_option maxRecDepth 100000 in
theorem impl_within.calls (a0 : Int) (a1 : Int) (a2 : Int) (r : Bool) (w : World) (h : impl_within.f a0 a1 a2 = some r) :
  Calls Tryz.prog 110 #[.int .i64 a0,.int .i64 a1,.int .i64 a2] w fun e w'=>e = .returned (.bool r) ∧ Drawn0 w w':=by
 have H : (if a0 ≥ a1 then (some (decide (a0 ≤ a2))) else (some false)) = some r:=h
 clear h
 by_cases c4 : a0 ≥ a1
 ·rw [if_pos c4] at H
  have c4b0 : decide (a1 ≤ a0) = true:=decide_eq_true c4
  clear c4
  obtain rfl:=Option.some.inj H
  go_enter Tryz.func110,Tryz.ntmps110
  go_wp2
  go_ret
  exact ⟨by first | rfl | (simp;done) | (simp [*];done),by repeat (first | exact Drawn0.refl _ | apply Drawn0.step)⟩
 ·rw [if_neg c4] at H
  have c4b0 : decide (a1 ≤ a0) = false:=decide_eq_false c4
  clear c4
  obtain rfl:=Option.some.inj H
  go_enter Tryz.func110,Tryz.ntmps110
  go_wp2
  go_ret
  exact ⟨by first | rfl | (simp;done) | (simp [*];done),by repeat (first | exact Drawn0.refl _ | apply Drawn0.step)⟩
end
theorem bk {w W : World} {g : Nat} {o : Obj} (b : Aside0 (w.heap[g]? = some o)) (s : w.heap[g]? = some o → W.heap[g]? = some o := by intro h; (with_reducible repeat (first | refine blk_drewN ?_ _ | refine blk_drew ?_ | refine blk_alloc ?_ _)); exact h) : W.heap[g]? = some o := s b.out
theorem bkL {w W : World} {g : Nat} {o : Obj} (b : Aside0 (w.heap[g]? = some o)) (s : w.heap[g]? = some o → W.heap[g]? = some o := by intro h; (with_reducible repeat (first | refine blk_drewN ?_ _ | refine blk_drew ?_ | refine blk_alloc ?_ _)); exact h) : g < W.heap.size := blk_lt (s b.out)
theorem bkB {w W W' : World} {g : Nat} {o : Obj} (b : Aside0 (w.heap[g]? = some o)) (hb : Below W.heap.size W W') (s : w.heap[g]? = some o → W.heap[g]? = some o := by intro h; (with_reducible repeat (first | refine blk_drewN ?_ _ | refine blk_drew ?_ | refine blk_alloc ?_ _)); exact h) : Aside0 (W'.heap[g]? = some o) := ⟨blk_below (s b.out) hb⟩
theorem bl {w W W' : World} {n : Nat} (b : Aside0 (Below n w W)) (s : Below n w W → Below n w W' := by intro h; repeat (first | (with_reducible first | exact h | apply below_alloc | apply pw_below_drewN | apply below_drew1 | refine below_set ?_ (Aside0.out (by with_reducible assumption))) | exact h)) : Below n w W' := s b.out
theorem rs {α : Type} {d : Kd α} {e : Nat} {w W : World} {base : Nat} {ok : Nat → Prop} {v : Value} {xs : List α} (b : Aside0 (Kd.R d e w base ok v xs)) (s : Kd.R d e w base ok v xs → Kd.R d e W base ok v xs := by intro h; (with_reducible repeat (first | apply Kd.R_alloc | apply Kd.R_drewN | apply Kd.R_drew)); exact h) : Kd.R d e W base ok v xs := s b.out
class Up (w : outParam World) (W : World) : Prop where
  up : ∀ {g : Nat} {o : Obj}, w.heap[g]? = some o → W.heap[g]? = some o
instance up_drew (w : World) : Up w w.drew := ⟨fun h => blk_drew h⟩
instance up_drewN (w : World) (n : Nat) : Up w (w.drewN n) := ⟨fun h => blk_drewN h n⟩
instance up_alloc (w : World) (o : Obj) : Up w (w.alloc o) := ⟨fun h => blk_alloc h o⟩
theorem bu {w W : World} [u : Up w W] {g : Nat} {o : Obj} (h : w.heap[g]? = some o) : W.heap[g]? = some o := u.up h
class UpR (w : outParam World) (W : World) : Prop where
  up : ∀ {α : Type} {d : Kd α} {e base : Nat} {ok : Nat → Prop} {v : Value} {xs : List α}, Kd.R d e w base ok v xs → Kd.R d e W base ok v xs
instance upR_drew (w : World) : UpR w w.drew := ⟨fun h => Kd.R_drew h⟩
instance upR_drewN (w : World) (n : Nat) : UpR w (w.drewN n) := ⟨fun h => Kd.R_drewN h n⟩
instance upR_alloc (w : World) (o : Obj) : UpR w (w.alloc o) := ⟨fun h => Kd.R_alloc h o⟩
theorem ru {w W : World} [u : UpR w W] {α : Type} {d : Kd α} {e base : Nat} {ok : Nat → Prop} {v : Value} {xs : List α} (h : Kd.R d e w base ok v xs) : Kd.R d e W base ok v xs := u.up h
theorem farN {g b : Nat} {w W : World} {p : Addr} {v : Option Value} (h : b ≠ g) (e : w.cell? p = v) (hb : p.block = b := by first | rfl | exact add_block _ _ | (simp [add_block]; done))
    (s : ∀ x : Addr, x.block ≠ g → W.cell? x = w.cell? x := by intro x hx; (with_reducible repeat refine (cell_far hx _).trans ?_); with_reducible rfl) : W.cell? p = v := (s p (by rw [hb]; exact h)).trans e
end Go.Proofs.YtakfmcpjnkagmaaGreatDoor.P
namespace Go.Proofs.YtakfmcpjnkagmaaGreatDoor.P
open Go.Proofs.YtakfmcpjnkagmaaGreatDoorUFnExactPosOut.PrintWords Go.Proofs.YtakfmcpjnkagmaaGreatDoorUFnExactPosOut.PrintLast Go.Proofs.YtakfmcpjnkagmaaGreatDoorUFnExactPosOut.PrintMore
set_option linter.unusedVariables false
open Go.RowKit
theorem am {p : Prop} (h : p) : Aside0 p := ⟨h⟩
theorem bse {α β : Type} {o : Option α} {f : α → Option β} {r : β} (h : o.bind f = some r) : ∃ t, Aside0 (o = some t) ∧ f t = some r := by obtain ⟨t, a, b⟩ := Option.bind_eq_some_iff.mp h; exact ⟨t, ⟨a⟩, b⟩
theorem bfz {w : World} {g : Nat} {t : TypeId} {cs : Array Value} (b : Aside0 (w.heap[g]? = some (.cells cs t (0, 0)))) (i : Nat) : w.frozen? ⟨g, i, none⟩ = false := blk_frozen b.out i
theorem bf_ {w W : World} {g : Nat} {o : Obj} (b : Aside0 (w.heap[g]? = some o)) (s : w.heap[g]? = some o → W.heap[g]? = some o := by intro h; repeat (first | (with_reducible refine bu ?_) | (refine blk_far ?_ (Aside0.out (by with_reducible assumption)) _) | exact h)) : Aside0 (W.heap[g]? = some o) := ⟨s b.out⟩
theorem rcx {α : Type} {d : Kd α} {e base c n : Nat} {ok : Nat → Prop} {w W : World} {A : Option Addr} {xs : List α} (b : Aside0 (d.R e w base ok (.slice A n c) xs)) (s : d.C w A xs.length xs → d.C W A xs.length xs := by intro h; repeat (first | exact h | (with_reducible refine Kd.C_alloc ?_ _) | (with_reducible refine Kd.C_drewN ?_ _) | (with_reducible refine Kd.C_drew ?_))) : d.C W A xs.length xs := s (Kd.R_reads' b.out).2.2
def bm (n k : Nat) : Array Bool := ((List.range n).map fun i => k.testBit i).toArray
theorem fi_ {p : Prop} (h : p := by first | rfl | (simp [errW_none, errW_some] <;> rfl) | (simp [*, errW_none, errW_some] <;> rfl)) : p := h
theorem hr_ {p : Prop} (h : p := by first | (go_simp; done) | (go_simp; rfl)) : p := h
theorem gwE {w W W' : World} {g : Nat} (b : Aside0 (Below w.heap.size w W)) (hg : g = W'.heap.size) (s : Below w.heap.size w W → Below w.heap.size w W' := by intro h; repeat (first | (with_reducible first | exact h | apply below_alloc | apply pw_below_drewN | apply below_drew1 | refine below_set ?_ (Aside0.out (by with_reducible assumption))) | exact h)) : Aside0 (w.heap.size ≤ g) := ⟨hg ▸ below_size (s b.out)⟩
theorem hbS {w W W' W2 : World} (b : Aside0 (Below w.heap.size w W)) (hb : Below W'.heap.size W' W2) (s : Below w.heap.size w W → Below w.heap.size w W' := by intro h; repeat (first | (with_reducible first | exact h | apply below_alloc | apply pw_below_drewN | apply below_drew1 | refine below_set ?_ (Aside0.out (by with_reducible assumption))) | exact h)) : Aside0 (Below w.heap.size w W2) := ⟨below_step (s b.out) hb⟩
theorem neL {w W : World} {g g' : Nat} {o : Obj} (b : Aside0 (w.heap[g]? = some o)) (hg : g' = W.heap.size) (s : w.heap[g]? = some o → W.heap[g]? = some o := by intro h; (with_reducible repeat (first | refine blk_drewN ?_ _ | refine blk_drew ?_ | refine blk_alloc ?_ _)); exact h) : Aside0 (g ≠ g') := ⟨hg ▸ Nat.ne_of_lt (blk_lt (s b.out))⟩
theorem neG {w W : World} {g g' : Nat} {o : Obj} (b : Aside0 (w.heap[g]? = some o)) (hg : g' = W.heap.size) (s : w.heap[g]? = some o → W.heap[g]? = some o := by intro h; (with_reducible repeat (first | refine blk_drewN ?_ _ | refine blk_drew ?_ | refine blk_alloc ?_ _)); exact h) : Aside0 (g' ≠ g) := ⟨hg ▸ Nat.ne_of_gt (blk_lt (s b.out))⟩
theorem bcell {w : World} {g : Nat} {cs : Array Value} {t : TypeId} (b : Aside0 (w.heap[g]? = some (.cells cs t (0, 0)))) (i : Nat) {v : Value} (h : cs.toList[i]? = some v := by exact rfl) : w.cell? ⟨g, i, none⟩ = some v := (blk_cell b.out i).trans (by rw [← Array.getElem?_toList]; exact h)
theorem gL {P : Program} {ops : Array Oper} {rest : List Oper} {Q : Exit → Act → World → Prop} {oi : Oper} {a : Act} {w : World} (N : Option Tmp) {f : FuncId} {fn : Func} {ar : Array Operand} {ts : Array TypeId} (hf : P.funcs[f]? = some fn) (args : Array Value)
    (h : Calls P f args w fun e w' => ∃ v, e = .returned v ∧ wpList P ops Q rest (a.put N v) w')
    (hd : oi.dst = N := by exact rfl) (hg : oi.guard = none := by exact rfl) (hname : (fn.name == "runtime.NumGoroutine") = false := by kernel_rfl) (hb : fn.body.isSome = true := by exact rfl)
    (hop : oi.op = .call { callee := .value (.func f), args := ar, argTypes := ts } := by exact rfl) (hargs : ar.map a.eval = args := by (try simp only [List.map_toArray, List.map_cons, List.map_nil]); first | done | rfl | (simp only [List.length_drop, List.length_take]; rfl)) :
    wpList P ops Q (oi :: rest) a w := goesL_ N hd hg hf hname hb args hop hargs h
theorem gR {P : Program} {ops : Array Oper} {Q : Exit → Act → World → Prop} {oi : Oper} {N : Option Tmp} {a : Act} {w : World} {K : Act → World → Prop} {f : FuncId} {fn : Func} {ar : Array Operand} {ts : Array TypeId} (hf : P.funcs[f]? = some fn) (args : Array Value)
    (h : Calls P f args w fun e w' => ∃ v, e = .returned v ∧ K (a.put N v) w')
    (hname : (fn.name == "runtime.NumGoroutine") = false := by kernel_rfl) (hb : fn.body.isSome = true := by exact rfl) (hw : Region.wanted oi (yielded ops a.tmps) = true := by rfl) (hN : oi.dst = N := by exact rfl)
    (hop : oi.op = .call { callee := .value (.func f), args := ar, argTypes := ts } := by exact rfl) (hargs : ar.map a.eval = args := by (try simp only [List.map_toArray, List.map_cons, List.map_nil]); first | done | rfl | (simp only [List.length_drop, List.length_take]; rfl)) :
    if Region.wanted oi (yielded ops a.tmps) = true then Oper.wp P oi a w K Q else K (a.put N undef) w := goes_ hf hname hb args hw hN hop hargs h
theorem bcl {w W : World} (b : Aside0 (Below w.heap.size w W)) {a : Addr} {v : Value} (h : w.cell? a = some v) : W.cell? a = some v := (b.out.cell (World.block_lt_of_cell? w _ h)).trans h
theorem bch {w W : World} (b : Below w.heap.size w W) {a : Addr} {v : Value} (h : w.cell? a = some v) : W.cell? a = some v := (b.cell (World.block_lt_of_cell? w _ h)).trans h
theorem da_ {p : Prop} (h : p := by first | (with_reducible assumption) | assumption) : p := h
theorem isE_ne (l : List UInt8) : l.isEmpty = !(l != []) := by cases l <;> rfl
theorem rs_ {p : Prop} (h : p := by first | rfl | (simp; done) | (simp [*]; done) | (simp; exact isE_ne _)) : p := h
theorem ok_ {p q : Nat → Prop} (h : ∀ k, p k → q k := by intro k hk; first | exact hk | trivial | (simp only [hk, ne_eq, not_false_eq_true, and_self])) : ∀ k, p k → q k := h
section
variable {P : Program} {ops : Array Oper} {Q : Exit → Act → World → Prop} {md : Region.Mode} {S : World → Prop} {ds : List Nat} {oi : Oper} {v : Value} {fuel : Nat} {l : Array Bool} {a a' : Act} {w : World}
theorem pu_ (i : Nat) (N : Option Tmp) (l' : Array Bool) (h : wpAnyLast P md ops Q S ds fuel l' a' w) (hi : ops[i]? = some oi := by exact rfl) (hN : oi.dst = N := by exact rfl)
    (hc : anyB md ops l l' i = true := by first | exact any_of HT_.out (by kernel_rfl) | kernel_rfl) (hQ : ∀ c a w, Q (.panic c) (a.put oi.dst v) w → Q (.panic c) a w := by exact fun _ _ _ h => h)
    (hy : Yields P ops oi v a := by (refine Or.inl ⟨by rfl, ?_⟩; intro w'; go_simp; with_reducible rfl)) (ha : a.put N v = a' := by (simp only [Act.put, List.setIfInBounds_toArray, List.set_cons_zero, List.set_cons_succ, i64_w, i32_w]; rfl)) :
    wpAnyLast P md ops Q S ds (fuel + 1) l a w := pure_ l' hi hN hc hQ hy ha h
theorem pv_ (i : Nat) (N : Option Tmp) (l' : Array Bool) (h : wpAnyLast P md ops Q S ds fuel l' a' w) (hi : ops[i]? = some oi := by exact rfl) (hN : oi.dst = N := by exact rfl)
    (hc : anyB md ops l l' i = true := by first | exact any_of HT_.out (by kernel_rfl) | kernel_rfl) (hQ : ∀ c a w, Q (.panic c) (a.put oi.dst undef) w → Q (.panic c) a w := by exact fun _ _ _ h => h)
    (hy : Yields P ops oi undef a := by exact Or.inr ⟨by rfl, rfl⟩) (ha : a.put N undef = a' := by (simp only [Act.put, List.setIfInBounds_toArray, List.set_cons_zero, List.set_cons_succ, i64_w, i32_w]; rfl)) :
    wpAnyLast P md ops Q S ds (fuel + 1) l a w := pure_ l' hi hN hc hQ hy ha h
theorem tk_ (i : Nat) (N : Option Tmp) (l' : Array Bool) (hi : ops[i]? = some oi) (hy : YieldsIf P ops S oi v a) (h : wpAnyLast P md ops Q S ds fuel l' a' w) (hN : oi.dst = N := by exact rfl)
    (hc : takeB md ops ds l l' i = true := by first | exact take_ofW HT_.out HW_.out (by kernel_rfl) | kernel_rfl) (hQ : ∀ c a w, Q (.panic c) (a.put oi.dst v) w → Q (.panic c) a w := by exact fun _ _ _ h => h)
    (hS : S w := by exact hHeld) (ha : a.put N v = a' := by (simp only [Act.put, List.setIfInBounds_toArray, List.set_cons_zero, List.set_cons_succ, i64_w, i32_w]; rfl)) :
    wpAnyLast P md ops Q S ds (fuel + 1) l a w := take_ l' hi hN hc hQ hy hS ha h
theorem nm_ (h : wpAnyLast P md ops Q S ds fuel l a' w) (ha : a = a' := by (show Act.put _ (some _) _ = _; simp only [Act.put, List.setIfInBounds_toArray, List.set_cons_zero, List.set_cons_succ, i64_w, i32_w]; rfl)) : wpAnyLast P md ops Q S ds fuel l a w := norm_ ha h
theorem on_ (i : Nat) (N : Option Tmp) (l' : Array Bool)
    (h : ∀ K : Act → World → Prop, Shut (∀ a' w', S w' → (S w' → wpAnyLast P md ops Q S ds fuel l' a' w') → K a' w') → if Region.wanted oi (yielded ops a.tmps) = true then Oper.wp P oi a w K Q else K (a.put N undef) w)
    (hi : ops[i]? = some oi := by exact rfl) (hN : oi.dst = N := by exact rfl) (hc : readyB md ops l l' i = true := by exact one_of HT_.out (by kernel_rfl)) (hd : i ∉ ds := by decide) :
    wpAnyLast P md ops Q S ds (fuel + 1) l a w := one_ l' hi hN hc hd h
end
theorem m0_ {p : Prop} (h : p := by repeat (first | (with_reducible first | exact HB.out | apply below_alloc | apply pw_below_drewN | apply below_drew1) | exact HB.out)) : p := h
theorem m1_ {p : Prop} (h : p := by repeat (first | exact HR0.out | (with_reducible refine Kd.C_alloc ?_ _) | (with_reducible refine Kd.C_drewN ?_ _) | (with_reducible refine Kd.C_drew ?_))) : p := h
theorem m2_ {p : Prop} (h : p := by repeat (first | (with_reducible first | exact HB.out | apply below_alloc | apply pw_below_drewN | apply below_drew1 | refine below_set ?_ (Aside0.out (by with_reducible assumption))) | exact HB.out)) : p := h
theorem m3_ {p : Prop} (h : p := by repeat (first | exact (Kd.C_below HR0_0.out HB.out) | (with_reducible refine Kd.C_alloc ?_ _) | (with_reducible refine Kd.C_drewN ?_ _) | (with_reducible refine Kd.C_drew ?_))) : p := h
theorem m4_ {p : Prop} (h : p := by (rintro w' ⟨s0, s1⟩; go_simp; with_reducible rfl)) : p := h
theorem m5_ {p : Prop} (h : p := by repeat (first | (with_reducible first | exact HK.out | apply Kept.alloc | apply Kept.drewN | apply Kept.drew) | exact HK.out)) : p := h
theorem m6_ {p : Prop} (h : p := by repeat (first | (with_reducible first | exact HK.out | apply Kept.alloc | apply Kept.drewN | apply Kept.drew | refine Kept.setCell (w := w) ?_ (.inr (Aside0.out (by with_reducible assumption))) _) | exact HK.out)) : p := h
theorem m7_ {p : Prop} (h : p := by (rintro w' ⟨s0, s1, s2⟩; go_simp; with_reducible rfl)) : p := h
theorem m8_ {p : Prop} (h : p := by repeat (first | (with_reducible first | exact HI0.out | apply IsS102.alloc | apply IsS102.drewN | apply IsS102.drew | apply IsS102.set_1) | exact HI0.out)) : p := h
theorem m9_ {p : Prop} (h : p := by repeat (first | (with_reducible first | exact HB.out | apply below_alloc | apply pw_below_drewN | apply below_drew1 | refine below_set ?_ (IsS102.ge HI0.out)) | exact HB.out)) : p := h
theorem m10_ {p : Prop} (h : p := by repeat (first | (with_reducible first | exact HK.out | apply KeepBut.set_ | apply keep_drewN | apply keep_drew | apply keep_alloc) | exact HK.out)) : p := h
theorem m11_ {p : Prop} (h : p := by repeat (first | exact (Kd.C_below HR1_0.out HB.out) | (with_reducible refine Kd.C_alloc ?_ _) | (with_reducible refine Kd.C_drewN ?_ _) | (with_reducible refine Kd.C_drew ?_))) : p := h
theorem m13_ {p : Prop} (h : p := by repeat (first | exact (Kd.C_below HR0.out HB.out) | (with_reducible refine Kd.C_alloc ?_ _) | (with_reducible refine Kd.C_drewN ?_ _) | (with_reducible refine Kd.C_drew ?_))) : p := h
theorem m14_ {p : Prop} (h : p := by repeat (first | exact (Kd.C_below HR115.out HB.out) | (with_reducible refine Kd.C_alloc ?_ _) | (with_reducible refine Kd.C_drewN ?_ _) | (with_reducible refine Kd.C_drew ?_))) : p := h
theorem m15_ {p : Prop} (h : p := by (rintro w' ⟨s0, s1, s2, s3, s4⟩; go_simp; with_reducible rfl)) : p := h
theorem m18_ {p : Prop} (h : p := by (rintro w' ⟨s0, s1, s2, s3⟩; go_simp; with_reducible rfl)) : p := h
theorem m22_ {p : Prop} (h : p := by repeat (first | exact (Kd.C_below HR294.out HB.out) | (with_reducible refine Kd.C_alloc ?_ _) | (with_reducible refine Kd.C_drewN ?_ _) | (with_reducible refine Kd.C_drew ?_))) : p := h
theorem m25_ {p : Prop} (h : p := by repeat (first | (with_reducible first | exact HB.out | apply below_alloc | apply pw_below_drewN | apply below_drew1 | refine below_set ?_ (IsS102.ge HI0.out) | refine below_set ?_ (Aside0.out (by with_reducible assumption))) | exact HB.out)) : p := h
theorem m26_ {p : Prop} (h : p := by repeat (first | (with_reducible first | exact HK.out | apply KeepBut.set_ | apply keep_drewN | apply keep_drew | apply keep_alloc | refine keep_far (w := w) ?_ (Aside0.out (by with_reducible assumption)) _) | exact HK.out)) : p := h
theorem m27_ {p : Prop} (h : p := by repeat (first | (with_reducible first | exact HI0.out | apply IsS102.alloc | apply IsS102.drewN | apply IsS102.drew | apply IsS102.set_1 | refine IsS102.far ?_ (Aside0.out (by with_reducible assumption)) _) | exact HI0.out)) : p := h
theorem gC {P : Program} {ops : Array Oper} {Q : Exit → Act → World → Prop} {o : Oper} {rest : List Oper} {a : Act} {W : World} (f : FuncId) {aa : Array Operand} {ts : Array TypeId} (_ho : o.op = .call { callee := .value (.func f), args := aa, argTypes := ts }) (h : wpList P ops Q (o :: rest) a W) : wpList P ops Q (o :: rest) a W := h
theorem gD {P : Program} {ops : Array Oper} {Q : Exit → Act → World → Prop} {o : Oper} {rest : List Oper} {a : Act} {W : World} (N : Tmp) (_hN : o.dst = some N) (h : wpList P ops Q (o :: rest) a W) : wpList P ops Q (o :: rest) a W := h
theorem fr_ {p : Prop} (h : p := by first | rfl | (simp; done) | (simp [*]; done)) : p := h
theorem dn_ {v w : World} (h : Drawn0 v w := by repeat (first | exact Drawn0.refl _ | apply Drawn0.step)) : Drawn0 v w := h
end Go.Proofs.YtakfmcpjnkagmaaGreatDoor.P
namespace Go.Proofs.YtakfmcpjnkagmaaGreatDoor.P
open Go.Proofs.YtakfmcpjnkagmaaGreatDoorUFnExactPosOut.PrintLast Go.Proofs.YtakfmcpjnkagmaaGreatDoorUFnExactPosOut.PrintMore Go.Proofs.YtakfmcpjnkagmaaGreatDoorUFnExactPosOut.PrintWords Go.RowKit
set_option linter.unusedVariables false
set_option linter.unusedSimpArgs false
section
attribute [local go_sem] max2_int min2_int max_two min_two max_three min_three max_four min_four
def impl_inside.f (a0 : Int) : Option (Bool):=(impl_within.f a0 1 9).bind fun t278=>(some t278)
set_option maxHeartbeats 8000000 in
set_option maxRecDepth 100000 in
theorem impl_inside.calls (a0 : Int) (r : Bool) (w : World) (h : impl_inside.f a0 = some r) :
  Calls Tryz.prog 88 #[.int .i64 a0] w fun e w'=>e = .returned (.bool r) ∧ Drawn0 w w':=by
 have H : ((impl_within.f a0 1 9).bind fun t278=>(some t278)) = some r:=h
 clear h
 obtain ⟨t278,A2,H⟩:=bse H
 try dsimp only at H
 obtain rfl:=Option.some.inj H
 go_enter Tryz.func88,Tryz.ntmps88
 go_wp2_with (first | ((with_reducible refine gC 110 rfl ?_);refine gL (some 4) Tryz.func110 #[.int .i64 a0,.int .i64 1,.int .i64 9] ?_;(with_reducible refine (impl_within.calls a0 1 9 t278 _ A2.out).mono ?_);rintro e w' ⟨rfl,⟨nd,rfl⟩⟩;refine ⟨_,rfl,?_⟩))
 go_ret
 exact ⟨fr_,dn_⟩
def impl_portOk.f (a0 : Int) : Option (Bool):=(impl_within.f a0 1 999).bind fun t279=>(some t279)
set_option maxHeartbeats 8000000 in
set_option maxRecDepth 100000 in
theorem impl_portOk.calls (a0 : Int) (r : Bool) (w : World) (h : impl_portOk.f a0 = some r) :
  Calls Tryz.prog 89 #[.int .i64 a0] w fun e w'=>e = .returned (.bool r) ∧ Drawn0 w w':=by
 have H : ((impl_within.f a0 1 999).bind fun t279=>(some t279)) = some r:=h
 clear h
 obtain ⟨t279,A2,H⟩:=bse H
 try dsimp only at H
 obtain rfl:=Option.some.inj H
 go_enter Tryz.func89,Tryz.ntmps89
 go_wp2_with (first | ((with_reducible refine gC 110 rfl ?_);refine gL (some 4) Tryz.func110 #[.int .i64 a0,.int .i64 1,.int .i64 999] ?_;(with_reducible refine (impl_within.calls a0 1 999 t279 _ A2.out).mono ?_);rintro e w' ⟨rfl,⟨nd,rfl⟩⟩;refine ⟨_,rfl,?_⟩))
 go_ret
 exact ⟨fr_,dn_⟩
def impl_EndInside.f (a0_0 : Int) (a0_1 : Int) : Option (Bool):=(impl_inside.f a0_0).bind fun t281=>(if t281 = true then ((impl_portOk.f a0_1).bind fun t282=>(some t282)) else (some false))
set_option maxHeartbeats 8000000 in
set_option maxRecDepth 100000 in
theorem impl_EndInside.calls (a0_0 : Int) (a0_1 : Int) (r : Bool) (w : World) (h : impl_EndInside.f a0_0 a0_1 = some r) :
  Calls Tryz.prog 60 #[.agg #[.int .i64 a0_0,.int .i64 a0_1]] w fun e w'=>e = .returned (.bool r) ∧ Below w.heap.size w w':=by
 have hu55:=Tryz.underlying55
 have HB:=am (Below.refl w.heap.size w)
 have H : ((impl_inside.f a0_0).bind fun t281=>(if t281 = true then ((impl_portOk.f a0_1).bind fun t282=>(some t282)) else (some false))) = some r:=h
 clear h
 obtain ⟨t281,A2,H⟩:=bse H
 try dsimp only at H
 by_cases c3 : t281 = true
 ·subst c3
  have H1 : ((impl_portOk.f a0_1).bind fun t282=>(some t282)) = some r:=by rw [if_pos rfl] at H;exact H
  clear H
  have H:=H1
  clear H1
  obtain ⟨t282,A4,H⟩:=bse H
  try dsimp only at H
  obtain rfl:=Option.some.inj H
  go_enter Tryz.func60,Tryz.ntmps60
  go_wp2_with (first | ((with_reducible refine gD 1 rfl ?_);refine box_event rfl (N:=1) rfl (cs:=#[.int .i64 a0_0,.int .i64 a0_1]) (t:=55) hr_ ?_;intro gb280 hg w5 hbox hb;have BK280:=am hbox;have GW280:=gwE HB hg;have GE280:=gwE HB hg;replace HB:=hbS HB hb;clear hb hbox hg;have:=bcell BK280 0;have:=bcell BK280 1;have:=bfz BK280 0;have:=bfz BK280 1) | ((with_reducible refine gC 88 rfl ?_);refine gL (some 5) Tryz.func88 #[.int .i64 a0_0] ?_;(with_reducible refine (impl_inside.calls a0_0 true _ A2.out).mono ?_);rintro e w' ⟨rfl,⟨nd,rfl⟩⟩;refine ⟨_,rfl,?_⟩) | (go_at_call 89;(with_reducible refine (impl_portOk.calls a0_1 t282 _ A4.out).mono ?_);rintro e w' ⟨rfl,⟨nd,rfl⟩⟩))
  go_ret
  exact ⟨fi_,m2_⟩
 ·replace c3:=Bool.eq_false_iff.mpr c3
  subst c3
  have H1 : (some false) = some r:=by rw [if_neg (show ¬ (false = true) by decide)] at H;exact H
  clear H
  have H:=H1
  clear H1
  obtain rfl:=Option.some.inj H
  go_enter Tryz.func60,Tryz.ntmps60
  go_wp2_with (first | ((with_reducible refine gD 1 rfl ?_);refine box_event rfl (N:=1) rfl (cs:=#[.int .i64 a0_0,.int .i64 a0_1]) (t:=55) hr_ ?_;intro gb280 hg w7 hbox hb;have BK280:=am hbox;have GW280:=gwE HB hg;have GE280:=gwE HB hg;replace HB:=hbS HB hb;clear hb hbox hg;have:=bcell BK280 0;have:=bcell BK280 1;have:=bfz BK280 0;have:=bfz BK280 1) | ((with_reducible refine gC 88 rfl ?_);refine gL (some 5) Tryz.func88 #[.int .i64 a0_0] ?_;(with_reducible refine (impl_inside.calls a0_0 false _ A2.out).mono ?_);rintro e w' ⟨rfl,⟨nd,rfl⟩⟩;refine ⟨_,rfl,?_⟩))
  go_ret
  exact ⟨fi_,m2_⟩
def impl_outside.f (a0 : Int) : Option (Bool):=(impl_within.f a0 100 109).bind fun t357=>(some t357)
set_option maxHeartbeats 8000000 in
set_option maxRecDepth 100000 in
theorem impl_outside.calls (a0 : Int) (r : Bool) (w : World) (h : impl_outside.f a0 = some r) :
  Calls Tryz.prog 134 #[.int .i64 a0] w fun e w'=>e = .returned (.bool r) ∧ Drawn0 w w':=by
 have H : ((impl_within.f a0 100 109).bind fun t357=>(some t357)) = some r:=h
 clear h
 obtain ⟨t357,A2,H⟩:=bse H
 try dsimp only at H
 obtain rfl:=Option.some.inj H
 go_enter Tryz.func134,Tryz.ntmps134
 go_wp2_with (first | ((with_reducible refine gC 110 rfl ?_);refine gL (some 4) Tryz.func110 #[.int .i64 a0,.int .i64 100,.int .i64 109] ?_;(with_reducible refine (impl_within.calls a0 100 109 t357 _ A2.out).mono ?_);rintro e w' ⟨rfl,⟨nd,rfl⟩⟩;refine ⟨_,rfl,?_⟩))
 go_ret
 exact ⟨fr_,dn_⟩
end
def inB (n lo hi : Int) : Bool := decide (lo ≤ n) && decide (n ≤ hi)
theorem within_f (n lo hi : Int) : impl_within.f n lo hi = some (inB n lo hi) := by
  unfold impl_within.f inB
  by_cases h : lo ≤ n <;> simp [h]
theorem inside_f (n : Int) : impl_inside.f n = some (inB n 1 9) := by unfold impl_inside.f; rw [within_f]; rfl
theorem outside_f (n : Int) : impl_outside.f n = some (inB n 100 109) := by unfold impl_outside.f; rw [within_f]; rfl
theorem portOk_f (n : Int) : impl_portOk.f n = some (inB n 1 999) := by unfold impl_portOk.f; rw [within_f]; rfl
def endIn (a p : Int) : Bool := inB a 1 9 && inB p 1 999
def endOut (a p : Int) : Bool := inB a 100 109 && inB p 1 999
theorem EndInside_f (a p : Int) : impl_EndInside.f a p = some (endIn a p) := by
  unfold impl_EndInside.f endIn
  rw [inside_f, Option.bind_some]
  cases h : inB a 1 9 <;> simp [portOk_f]
section
attribute [local go_sem] max2_int min2_int max_two min_two max_three min_three max_four min_four
def IsS102 (w0 W : World) (g : Nat) (f0 : List Int) (f1 : Int) : Prop:=∃ A0 c0,W.heap[g]? = some (.cells #[.slice A0 f0.length c0,.int .i64 f1] 102 (0,0)) ∧ w0.heap.size ≤ g ∧ Kd.C (Kd.int .u8) w0 A0 f0.length f0
theorem IsS102.grown {w0 W : World} {g : Nat} {f0 : List Int} {f1 : Int} {W1 : World} {row : Option Nat} (h : IsS102 w0 W g f0 f1) (hw : W.grownBy W1 row) (hne : some g ≠ row) : IsS102 w0 W1 g f0 f1:=by
 obtain ⟨A0,c0,hb,hg,hr0⟩:=h
 exact ⟨A0,c0,blk_grown hb hw hne,hg,hr0⟩
theorem IsS102.below {w0 W : World} {g : Nat} {f0 : List Int} {f1 : Int} {W1 : World} (h : IsS102 w0 W g f0 f1) (hw : Below W.heap.size W W1) : IsS102 w0 W1 g f0 f1:=h.grown (grown_of_below hw none) (by simp)
theorem IsS102.alloc {w0 W : World} {g : Nat} {f0 : List Int} {f1 : Int} (h : IsS102 w0 W g f0 f1) (o : Obj) : IsS102 w0 (W.alloc o) g f0 f1:=h.below (below_alloc (Below.refl _ _) o)
theorem IsS102.drewN {w0 W : World} {g : Nat} {f0 : List Int} {f1 : Int} (h : IsS102 w0 W g f0 f1) (m : Nat) : IsS102 w0 (W.drewN m) g f0 f1:=h
theorem IsS102.drew {w0 W : World} {g : Nat} {f0 : List Int} {f1 : Int} (h : IsS102 w0 W g f0 f1) : IsS102 w0 W.drew g f0 f1:=h
theorem IsS102.apart {w0 W : World} {g : Nat} {f0 : List Int} {f1 : Int} {α : Type} {d : Kd α} {e : Nat} {base : Nat} {ok : Nat → Prop} {v : Value} {xs : List α} (h : IsS102 w0 W g f0 f1) (ho : d.R e W base ok v xs) (ht : ∀ q,q ∈ e :: d.E → q ≠ 102) : d.R e W base (fun k=>ok k ∧ k ≠ g) v xs:=by
 obtain ⟨A0,c0,hb,hg,hr0⟩:=h
 exact Kd.R_types ho hb ht
theorem IsS102.own_ne {w0 W : World} {g : Nat} {f0 : List Int} {f1 : Int} {α : Type} {d : Kd α} {e : Nat} {base : Nat} {ok : Nat → Prop} {v : Value} {xs : List α} (h : IsS102 w0 W g f0 f1) (ho : d.R e W base ok v xs) (ht : e ≠ 102) : some g ≠ v.ownBlock:=by
 obtain ⟨A0,c0,hb,hg,hr0⟩:=h
 exact Kd.R_ne ho hb ht
theorem IsS102.lt {w0 W : World} {g : Nat} {f0 : List Int} {f1 : Int} (h : IsS102 w0 W g f0 f1) : g < W.heap.size:=by
 obtain ⟨A0,c0,hb,hg,hr0⟩:=h
 exact blk_lt hb
theorem IsS102.ge {w0 W : World} {g : Nat} {f0 : List Int} {f1 : Int} (h : IsS102 w0 W g f0 f1) : w0.heap.size ≤ g:=by
 obtain ⟨A0,c0,hb,hg,hr0⟩:=h
 exact hg
theorem IsS102.far {w0 W : World} {g : Nat} {f0 : List Int} {f1 : Int} {p : Addr} (h : IsS102 w0 W g f0 f1) (hne : g ≠ p.block) (u : Value) : IsS102 w0 (W.setCell p u) g f0 f1:=by
 obtain ⟨A0,c0,hb,hg,hr0⟩:=h
 exact ⟨A0,c0,blk_far hb hne u,hg,hr0⟩
theorem cellS102_0 {W : World} {g : Nat} {A0 : Option Addr} {c0 : Nat} {f0 : List Int} {f1 : Int} (h : W.heap[g]? = some (.cells #[.slice A0 f0.length c0,.int .i64 f1] 102 (0,0))) : W.cell? ⟨g,0,none⟩ = some (.slice A0 f0.length c0):=(blk_cell h 0).trans rfl
theorem cellS102_1 {W : World} {g : Nat} {A0 : Option Addr} {c0 : Nat} {f0 : List Int} {f1 : Int} (h : W.heap[g]? = some (.cells #[.slice A0 f0.length c0,.int .i64 f1] 102 (0,0))) : W.cell? ⟨g,1,none⟩ = some (.int .i64 f1):=(blk_cell h 1).trans rfl
theorem IsS102.set_1 {w0 W : World} {g : Nat} {f0 : List Int} {f1 : Int} (h : IsS102 w0 W g f0 f1) (x : Int) : IsS102 w0 (W.setCell ⟨g,1,none⟩ (.int .i64 x)) g f0 x:=by
 obtain ⟨A0,c0,hb,hg,hr0⟩:=h
 exact ⟨A0,c0,by simpa using blk_set hb 1 (.int .i64 x),hg,hr0⟩
def spec_l20Rd_pick.j0 : Nat → Int → Bool → List Int → Int → Option (Int × Int)
 | 0,_,_,_,_=>none
 | k + 1,x1,x24,x1000,x1001=>if x24 = true then (some (0,x1001)) else (if (wrap64 (x1001 - 1)) < (x1000.length : Int) then (if 0 ≤ (wrap64 (x1001 - 1)) then (if x1 = 0 then (none) else (some (Int.tmod (wrap64 (rd x1000 (wrap64 (x1001 - 1)))) x1,x1001))) else (none)) else (if (x1000.length : Int) = 0 then (none) else (if 0 ≤ (Int.tmod (wrap64 (x1001 - 1)) (x1000.length : Int)) then (if (Int.tmod (wrap64 (x1001 - 1)) (x1000.length : Int)) < (x1000.length : Int) then (if 0 ≤ (Int.tmod (wrap64 ((wrap64 ((wrap64 (x1001 - 1)) * 7)) + 3)) (x1000.length : Int)) then (if (Int.tmod (wrap64 ((wrap64 ((wrap64 (x1001 - 1)) * 7)) + 3)) (x1000.length : Int)) < (x1000.length : Int) then (if x1 = 0 then (none) else (some (Int.tmod (Go.bits .xor .i64 (wrap64 ((wrap64 ((wrap64 ((wrap64 ((wrap64 (rd x1000 (Int.tmod (wrap64 (x1001 - 1)) (x1000.length : Int)))) * 131)) + (wrap64 ((wrap64 (rd x1000 (Int.tmod (wrap64 ((wrap64 ((wrap64 (x1001 - 1)) * 7)) + 3)) (x1000.length : Int)))) * 1117)))) + (wrap64 ((wrap64 (x1001 - 1)) * 29)))) + (wrap64 ((wrap64 (Int.tdiv (wrap64 (x1001 - 1)) (x1000.length : Int))) * 53)))) (wrap64 (Int.tdiv (wrap64 ((wrap64 ((wrap64 ((wrap64 ((wrap64 (rd x1000 (Int.tmod (wrap64 (x1001 - 1)) (x1000.length : Int)))) * 131)) + (wrap64 ((wrap64 (rd x1000 (Int.tmod (wrap64 ((wrap64 ((wrap64 (x1001 - 1)) * 7)) + 3)) (x1000.length : Int)))) * 1117)))) + (wrap64 ((wrap64 (x1001 - 1)) * 29)))) + (wrap64 ((wrap64 (Int.tdiv (wrap64 (x1001 - 1)) (x1000.length : Int))) * 53)))) 64))) x1,x1001))) else (none)) else (none)) else (none)) else (none))))
def spec_l20Rd_pick.f (k : Nat) (s0_0 : List Int) (s0_1 : Int) (a1 : Int) : Option (Int × Int):=if a1 < 1 then (spec_l20Rd_pick.j0 k a1 true s0_0 (wrap64 (s0_1 + 1))) else (spec_l20Rd_pick.j0 k a1 ((s0_0.length : Int) == 0) s0_0 (wrap64 (s0_1 + 1)))
theorem spec_l20Rd_pick.mono_l : ∀ k,(∀ y0 y1 y2 y3,LeO (spec_l20Rd_pick.j0 k y0 y1 y2 y3) (spec_l20Rd_pick.j0 (k + 1) y0 y1 y2 y3))
 | 0=>fun _ _ _ _ r h=>by simp [spec_l20Rd_pick.j0] at h
 | k + 1=>by
  have ih0:=spec_l20Rd_pick.mono_l k
  ·intro y0 y1 y2 y3
   unfold spec_l20Rd_pick.j0
   repeat' first | (with_reducible first | exact ih0 _ _ _ _ | exact LeO.refl _ | exact LeO.none _ | refine LeO.ite ?_ ?_ | refine LeO.bind ?_ (fun _=>?_)) | exact ih0 _ _ _ _ | exact LeO.none _ | refine LeO.ite ?_ ?_ | refine LeO.bind ?_ (fun _=>?_)
theorem spec_l20Rd_pick.mono : ∀ a0 a1 a2 k,LeO (spec_l20Rd_pick.f k a0 a1 a2) (spec_l20Rd_pick.f (k + 1) a0 a1 a2):=by
 intro a0 a1 a2 k
 have ih0:=spec_l20Rd_pick.mono_l k
 unfold spec_l20Rd_pick.f
 repeat' first | (with_reducible first | exact ih0 _ _ _ _ | exact LeO.refl _ | exact LeO.none _ | refine LeO.ite ?_ ?_ | refine LeO.bind ?_ (fun _=>?_)) | exact ih0 _ _ _ _ | exact LeO.none _ | refine LeO.ite ?_ ?_ | refine LeO.bind ?_ (fun _=>?_)
set_option maxHeartbeats 8000000 in
set_option maxRecDepth 100000 in
theorem spec_l20Rd_pick.calls (k : Nat) (g : Nat) (s0_0 : List Int) (s0_1 : Int) (a1 : Int) (r1 : Int) (r2 : Int) (w0 w : World) (hI : IsS102 w0 w g s0_0 s0_1) (hB : Below w0.heap.size w0 w) (h : spec_l20Rd_pick.f k s0_0 s0_1 a1 = some (r1,r2)) :
  Calls Tryz.prog 58 #[.pointer (some ⟨g,0,none⟩),.int .i64 a1] w fun e w'=>e = .returned (.int .i64 r1) ∧ IsS102 w0 w' g s0_0 r2 ∧ Below w0.heap.size w0 w' ∧ KeepBut w w' g none:=by
 have HI0:=am hI
 have HK:=am (KeepBut.refl w g none)
 have HL:=am hB.size
 clear hI
 have HW0:=am hB.size
 have HB:=am hB
 clear hB
 have H : (if a1 < 1 then (spec_l20Rd_pick.j0 k a1 true s0_0 (wrap64 (s0_1 + 1))) else (spec_l20Rd_pick.j0 k a1 ((s0_0.length : Int) == 0) s0_0 (wrap64 (s0_1 + 1)))) = some (r1,r2):=h
 clear h
 have HC3:=am H
 clear H
 obtain ⟨ASz4_0,cSz4_0,HGz4,hgz4,HSz4_0⟩:=HI0.out
 have hcz4_0:=cellS102_0 HGz4
 have hcz4_1:=cellS102_1 HGz4
 have hfz4_1:=blk_frozen HGz4 1
 clear HGz4 hgz4
 go_enter Tryz.func58,Tryz.ntmps58
 go_upto_region 2 with (fail)
 repeat (go_quiet (fail);go_upto_region 2 with (fail))
 go_cut [24] (fun v24 wc=>∃ (kq : Nat) (x24_2 : Bool),v24 = .bool x24_2 ∧ Aside0 (spec_l20Rd_pick.j0 kq a1 x24_2 s0_0 (wrap64 (s0_1 + 1)) = some (r1,r2)) ∧ Aside0 (kq ≤ k) ∧ Aside0 (IsS102 w0 wc g s0_0 (wrap64 (s0_1 + 1))) ∧ Aside0 (KeepBut w wc g none) ∧ Aside0 (Below w0.heap.size w0 wc))
 case first=>
  have H:=HC3.out
  clear HC3
  by_cases c5 : a1 < 1
  ·rw [if_pos c5] at H
   have c5b0 : decide (a1 < 1) = true:=decide_eq_true c5
   clear c5
   (first | rw [c5b0] | (simp only [i64_w,i32_w];rw [c5b0]) | skip)
   have H':=am H
   clear H
   go_wp2
   repeat (go_quiet (fail);try go_wp2)
   go_meet
   case rel=>exact ⟨_,(true),rs_,H',⟨by first | omega | exact Nat.le_refl _⟩,⟨m8_⟩,⟨m10_⟩,⟨m9_⟩⟩
  ·rw [if_neg c5] at H
   have c5b0 : decide (a1 < 1) = false:=decide_eq_false c5
   clear c5
   (first | rw [c5b0] | (simp only [i64_w,i32_w];rw [c5b0]) | skip)
   have H':=am H
   clear H
   obtain ⟨ASz6_0,cSz6_0,HGz6,hgz6,HSz6_0⟩:=HI0.out
   have hcz6_0:=cellS102_0 HGz6
   have hcz6_1:=cellS102_1 HGz6
   have hfz6_1:=blk_frozen HGz6 1
   clear HGz6 hgz6
   go_wp2
   repeat (go_quiet (fail);try go_wp2)
   go_meet
   case rel=>exact ⟨_,(((s0_0.length : Int) == 0)),rs_,H',⟨by first | omega | exact Nat.le_refl _⟩,⟨m8_⟩,⟨m10_⟩,⟨m9_⟩⟩
 case rest=>
  clear HC3
  try clear p2
  try clear c5
  try clear c5b0
  try clear p6
  try clear hcz4_0
  try clear hcz4_1
  try clear hcz6_0
  try clear hcz6_1
  try clear hfz4_1
  try clear hfz6_1
  obtain ⟨kq,x24_2,rfl,HA,HJ2,HI0,HK,HB⟩:=hcut
  cases kq with
  | zero=>exact absurd HA.out (by simp [spec_l20Rd_pick.j0])
  | succ kj2=>
   have H:=HA.out
   clear HA
   simp only [spec_l20Rd_pick.j0] at H
   by_cases c7 : x24_2 = true
   ·subst c7
    have H1 : (some (0,(wrap64 (s0_1 + 1)))) = some (r1,r2):=by rw [if_pos rfl] at H;exact H
    clear H
    have H:=H1
    clear H1
    simp only [Option.some.injEq,Prod.mk.injEq] at H
    obtain ⟨rfl,rfl⟩:=H
    go_wp2
    repeat (go_quiet (fail);try go_wp2)
    go_ret
    exact ⟨fi_,m8_,m9_,m10_⟩
   ·replace c7:=Bool.eq_false_iff.mpr c7
    subst c7
    have H1 : (if (wrap64 ((wrap64 (s0_1 + 1)) - 1)) < (s0_0.length : Int) then (if 0 ≤ (wrap64 ((wrap64 (s0_1 + 1)) - 1)) then (if a1 = 0 then (none) else (some (Int.tmod (wrap64 (rd s0_0 (wrap64 ((wrap64 (s0_1 + 1)) - 1)))) a1,(wrap64 (s0_1 + 1))))) else (none)) else (if (s0_0.length : Int) = 0 then (none) else (if 0 ≤ (Int.tmod (wrap64 ((wrap64 (s0_1 + 1)) - 1)) (s0_0.length : Int)) then (if (Int.tmod (wrap64 ((wrap64 (s0_1 + 1)) - 1)) (s0_0.length : Int)) < (s0_0.length : Int) then (if 0 ≤ (Int.tmod (wrap64 ((wrap64 ((wrap64 ((wrap64 (s0_1 + 1)) - 1)) * 7)) + 3)) (s0_0.length : Int)) then (if (Int.tmod (wrap64 ((wrap64 ((wrap64 ((wrap64 (s0_1 + 1)) - 1)) * 7)) + 3)) (s0_0.length : Int)) < (s0_0.length : Int) then (if a1 = 0 then (none) else (some (Int.tmod (Go.bits .xor .i64 (wrap64 ((wrap64 ((wrap64 ((wrap64 ((wrap64 (rd s0_0 (Int.tmod (wrap64 ((wrap64 (s0_1 + 1)) - 1)) (s0_0.length : Int)))) * 131)) + (wrap64 ((wrap64 (rd s0_0 (Int.tmod (wrap64 ((wrap64 ((wrap64 ((wrap64 (s0_1 + 1)) - 1)) * 7)) + 3)) (s0_0.length : Int)))) * 1117)))) + (wrap64 ((wrap64 ((wrap64 (s0_1 + 1)) - 1)) * 29)))) + (wrap64 ((wrap64 (Int.tdiv (wrap64 ((wrap64 (s0_1 + 1)) - 1)) (s0_0.length : Int))) * 53)))) (wrap64 (Int.tdiv (wrap64 ((wrap64 ((wrap64 ((wrap64 ((wrap64 (rd s0_0 (Int.tmod (wrap64 ((wrap64 (s0_1 + 1)) - 1)) (s0_0.length : Int)))) * 131)) + (wrap64 ((wrap64 (rd s0_0 (Int.tmod (wrap64 ((wrap64 ((wrap64 ((wrap64 (s0_1 + 1)) - 1)) * 7)) + 3)) (s0_0.length : Int)))) * 1117)))) + (wrap64 ((wrap64 ((wrap64 (s0_1 + 1)) - 1)) * 29)))) + (wrap64 ((wrap64 (Int.tdiv (wrap64 ((wrap64 (s0_1 + 1)) - 1)) (s0_0.length : Int))) * 53)))) 64))) a1,(wrap64 (s0_1 + 1))))) else (none)) else (none)) else (none)) else (none)))) = some (r1,r2):=by rw [if_neg (show ¬ (false = true) by decide)] at H;exact H
    clear H
    have H:=H1
    clear H1
    by_cases c8 : (wrap64 ((wrap64 (s0_1 + 1)) - 1)) < (s0_0.length : Int)
    ·rw [if_pos c8] at H
     have c8b0 : decide ((wrap64 ((wrap64 (s0_1 + 1)) - 1)) < (s0_0.length : Int)) = true:=decide_eq_true c8
     clear c8
     obtain ⟨ji9,hji9⟩ : ∃ j_ : Int,(wrap64 ((wrap64 (s0_1 + 1)) - 1)) = j_:=⟨_,rfl⟩
     replace H : (if 0 ≤ (ji9) then (if a1 = 0 then (none) else (some (Int.tmod (wrap64 (rd s0_0 (ji9))) a1,(wrap64 (s0_1 + 1))))) else (none)) = some (r1,r2):=by first | (rw [hji9] at H;exact H) | (simp only [hji9] at H ⊢;exact H)
     (try rw [hji9] at c8b0)
     have hji9w : (IntKind.i64.wrap ((wrap64 (s0_1 + 1)) - 1)) = ji9:=(i64_w _).trans hji9
     by_cases c10 : 0 ≤ (ji9)
     ·rw [if_pos c10] at H
      have c10b0 : decide (0 ≤ (ji9)) = true:=decide_eq_true c10
      clear c10
      by_cases c11 : a1 = 0
      ·rw [if_pos c11] at H
       exact absurd H (by simp)
      ·rw [if_neg c11] at H
       have c11b0 : (a1 == 0) = false:=beq_eq_false_iff_ne.mpr c11
       have c11b1 : (a1 != 0) = true:=bne_iff_ne.mpr c11
       simp only [Option.some.injEq,Prod.mk.injEq] at H
       obtain ⟨rfl,rfl⟩:=H
       obtain ⟨ASz12_0,cSz12_0,HGz12,hgz12,HSz12_0⟩:=HI0.out
       have:=cellS102_0 HGz12
       have:=cellS102_1 HGz12
       have:=blk_frozen HGz12 1
       clear HGz12 hgz12
       have p554 : 0 ≤ ((ji9) : Int):=of_decide_eq_true da_
       have q554 : (ji9) < (s0_0.length : Int):=of_decide_eq_true da_
       obtain ⟨ad554,e554,hx554_0⟩:=Kd.at_int HSz12_0 (ji9) p554 q554
       cases e554
       replace hx554_0:=pw_cell_below HB.out hx554_0
       replace p554:=eq_true p554
       replace q554:=eq_true q554
       go_wp2
       repeat (go_quiet (fail);try go_wp2)
       go_ret
       exact ⟨by first | rfl | (simp [errW_none,errW_some] <;> rfl) | (simp only [← hji9];first | rfl | (simp [errW_none,errW_some] <;> rfl)) | (simp [*,errW_none,errW_some] <;> rfl),m8_,m9_,m10_⟩
     ·rw [if_neg c10] at H
      exact absurd H (by simp)
    ·rw [if_neg c8] at H
     have c8b0 : decide ((wrap64 ((wrap64 (s0_1 + 1)) - 1)) < (s0_0.length : Int)) = false:=decide_eq_false c8
     clear c8
     by_cases c13 : (s0_0.length : Int) = 0
     ·rw [if_pos c13] at H
      exact absurd H (by simp)
     ·rw [if_neg c13] at H
      have c13b0 : ((s0_0.length : Int) == 0) = false:=beq_eq_false_iff_ne.mpr c13
      have c13b1 : ((s0_0.length : Int) != 0) = true:=bne_iff_ne.mpr c13
      have c13b2 : ¬ (s0_0 = []):=fun h_=>c13 (by rw [h_];rfl)
      obtain ⟨ji14,hji14⟩ : ∃ j_ : Int,(Int.tmod (wrap64 ((wrap64 (s0_1 + 1)) - 1)) (s0_0.length : Int)) = j_:=⟨_,rfl⟩
      replace H : (if 0 ≤ (ji14) then (if (ji14) < (s0_0.length : Int) then (if 0 ≤ (Int.tmod (wrap64 ((wrap64 ((wrap64 ((wrap64 (s0_1 + 1)) - 1)) * 7)) + 3)) (s0_0.length : Int)) then (if (Int.tmod (wrap64 ((wrap64 ((wrap64 ((wrap64 (s0_1 + 1)) - 1)) * 7)) + 3)) (s0_0.length : Int)) < (s0_0.length : Int) then (if a1 = 0 then (none) else (some (Int.tmod (Go.bits .xor .i64 (wrap64 ((wrap64 ((wrap64 ((wrap64 ((wrap64 (rd s0_0 (ji14))) * 131)) + (wrap64 ((wrap64 (rd s0_0 (Int.tmod (wrap64 ((wrap64 ((wrap64 ((wrap64 (s0_1 + 1)) - 1)) * 7)) + 3)) (s0_0.length : Int)))) * 1117)))) + (wrap64 ((wrap64 ((wrap64 (s0_1 + 1)) - 1)) * 29)))) + (wrap64 ((wrap64 (Int.tdiv (wrap64 ((wrap64 (s0_1 + 1)) - 1)) (s0_0.length : Int))) * 53)))) (wrap64 (Int.tdiv (wrap64 ((wrap64 ((wrap64 ((wrap64 ((wrap64 (rd s0_0 (ji14))) * 131)) + (wrap64 ((wrap64 (rd s0_0 (Int.tmod (wrap64 ((wrap64 ((wrap64 ((wrap64 (s0_1 + 1)) - 1)) * 7)) + 3)) (s0_0.length : Int)))) * 1117)))) + (wrap64 ((wrap64 ((wrap64 (s0_1 + 1)) - 1)) * 29)))) + (wrap64 ((wrap64 (Int.tdiv (wrap64 ((wrap64 (s0_1 + 1)) - 1)) (s0_0.length : Int))) * 53)))) 64))) a1,(wrap64 (s0_1 + 1))))) else (none)) else (none)) else (none)) else (none)) = some (r1,r2):=by first | (rw [hji14] at H;exact H) | (simp only [hji14] at H ⊢;exact H)
      by_cases c15 : 0 ≤ (ji14)
      ·rw [if_pos c15] at H
       have c15b0 : decide (0 ≤ (ji14)) = true:=decide_eq_true c15
       clear c15
       by_cases c16 : (ji14) < (s0_0.length : Int)
       ·rw [if_pos c16] at H
        have c16b0 : decide ((ji14) < (s0_0.length : Int)) = true:=decide_eq_true c16
        clear c16
        obtain ⟨ji17,hji17⟩ : ∃ j_ : Int,(Int.tmod (wrap64 ((wrap64 ((wrap64 ((wrap64 (s0_1 + 1)) - 1)) * 7)) + 3)) (s0_0.length : Int)) = j_:=⟨_,rfl⟩
        replace H : (if 0 ≤ (ji17) then (if (ji17) < (s0_0.length : Int) then (if a1 = 0 then (none) else (some (Int.tmod (Go.bits .xor .i64 (wrap64 ((wrap64 ((wrap64 ((wrap64 ((wrap64 (rd s0_0 (ji14))) * 131)) + (wrap64 ((wrap64 (rd s0_0 (ji17))) * 1117)))) + (wrap64 ((wrap64 ((wrap64 (s0_1 + 1)) - 1)) * 29)))) + (wrap64 ((wrap64 (Int.tdiv (wrap64 ((wrap64 (s0_1 + 1)) - 1)) (s0_0.length : Int))) * 53)))) (wrap64 (Int.tdiv (wrap64 ((wrap64 ((wrap64 ((wrap64 ((wrap64 (rd s0_0 (ji14))) * 131)) + (wrap64 ((wrap64 (rd s0_0 (ji17))) * 1117)))) + (wrap64 ((wrap64 ((wrap64 (s0_1 + 1)) - 1)) * 29)))) + (wrap64 ((wrap64 (Int.tdiv (wrap64 ((wrap64 (s0_1 + 1)) - 1)) (s0_0.length : Int))) * 53)))) 64))) a1,(wrap64 (s0_1 + 1))))) else (none)) else (none)) = some (r1,r2):=by first | (rw [hji17] at H;exact H) | (simp only [hji17] at H ⊢;exact H)
        by_cases c18 : 0 ≤ (ji17)
        ·rw [if_pos c18] at H
         have c18b0 : decide (0 ≤ (ji17)) = true:=decide_eq_true c18
         clear c18
         by_cases c19 : (ji17) < (s0_0.length : Int)
         ·rw [if_pos c19] at H
          have c19b0 : decide ((ji17) < (s0_0.length : Int)) = true:=decide_eq_true c19
          clear c19
          by_cases c20 : a1 = 0
          ·rw [if_pos c20] at H
           exact absurd H (by simp)
          ·rw [if_neg c20] at H
           have c20b0 : (a1 == 0) = false:=beq_eq_false_iff_ne.mpr c20
           have c20b1 : (a1 != 0) = true:=bne_iff_ne.mpr c20
           simp only [Option.some.injEq,Prod.mk.injEq] at H
           obtain ⟨rfl,rfl⟩:=H
           obtain ⟨ASz21_0,cSz21_0,HGz21,hgz21,HSz21_0⟩:=HI0.out
           have:=cellS102_0 HGz21
           have:=cellS102_1 HGz21
           have:=blk_frozen HGz21 1
           clear HGz21 hgz21
           have p555 : 0 ≤ ((ji14) : Int):=of_decide_eq_true da_
           have q555 : (ji14) < (s0_0.length : Int):=of_decide_eq_true da_
           obtain ⟨ad555,e555,hx555_0⟩:=Kd.at_int HSz21_0 (ji14) p555 q555
           cases e555
           replace hx555_0:=pw_cell_below HB.out hx555_0
           replace p555:=eq_true p555
           replace q555:=eq_true q555
           have p556 : 0 ≤ ((ji17) : Int):=of_decide_eq_true da_
           have q556 : (ji17) < (s0_0.length : Int):=of_decide_eq_true da_
           obtain ⟨ad556,e556,hx556_0⟩:=Kd.at_int HSz21_0 (ji17) p556 q556
           obtain rfl : ad555 = ad556:=(by injection e556)
           replace hx556_0:=pw_cell_below HB.out hx556_0
           replace p556:=eq_true p556
           replace q556:=eq_true q556
           go_wp2
           repeat (go_quiet (fail);try go_wp2)
           go_ret
           exact ⟨by first | rfl | (simp [errW_none,errW_some] <;> rfl) | (simp only [← hji14,← hji17];first | rfl | (simp [errW_none,errW_some] <;> rfl)) | (simp [*,errW_none,errW_some] <;> rfl),m8_,m9_,m10_⟩
         ·rw [if_neg c19] at H
          exact absurd H (by simp)
        ·rw [if_neg c18] at H
         exact absurd H (by simp)
       ·rw [if_neg c16] at H
        exact absurd H (by simp)
      ·rw [if_neg c15] at H
       exact absurd H (by simp)
def spec_l20Rd_odd.f (k : Nat) (s0_0 : List Int) (s0_1 : Int) (a1 : Int) : Option (Bool × Int):=if a1 < 9000 then ((spec_l20Rd_pick.f k s0_0 s0_1 a1).bind fun bt588=>(some ((bt588.1 == (wrap64 (a1 - 1))),bt588.2))) else (some (false,s0_1))
theorem spec_l20Rd_odd.mono : ∀ a0 a1 a2 k,LeO (spec_l20Rd_odd.f k a0 a1 a2) (spec_l20Rd_odd.f (k + 1) a0 a1 a2):=by
 intro a0 a1 a2 k
 unfold spec_l20Rd_odd.f
 repeat' first | (with_reducible first | exact spec_l20Rd_pick.mono _ _ _ _ | exact LeO.refl _ | exact LeO.none _ | refine LeO.ite ?_ ?_ | refine LeO.bind ?_ (fun _=>?_)) | exact spec_l20Rd_pick.mono _ _ _ _ | exact LeO.none _ | refine LeO.ite ?_ ?_ | refine LeO.bind ?_ (fun _=>?_)
set_option maxHeartbeats 8000000 in
set_option maxRecDepth 100000 in
theorem spec_l20Rd_odd.calls (k : Nat) (g : Nat) (s0_0 : List Int) (s0_1 : Int) (a1 : Int) (r1 : Bool) (r2 : Int) (w0 w : World) (hI : IsS102 w0 w g s0_0 s0_1) (hB : Below w0.heap.size w0 w) (h : spec_l20Rd_odd.f k s0_0 s0_1 a1 = some (r1,r2)) :
  Calls Tryz.prog 94 #[.pointer (some ⟨g,0,none⟩),.int .i64 a1] w fun e w'=>e = .returned (.bool r1) ∧ IsS102 w0 w' g s0_0 r2 ∧ Below w0.heap.size w0 w' ∧ KeepBut w w' g none:=by
 have HI0:=am hI
 have HK:=am (KeepBut.refl w g none)
 have HL:=am hB.size
 clear hI
 have HW0:=am hB.size
 have HB:=am hB
 clear hB
 have H : (if a1 < 9000 then ((spec_l20Rd_pick.f k s0_0 s0_1 a1).bind fun bt588=>(some ((bt588.1 == (wrap64 (a1 - 1))),bt588.2))) else (some (false,s0_1))) = some (r1,r2):=h
 clear h
 by_cases c3 : a1 < 9000
 ·rw [if_pos c3] at H
  have c3b0 : decide (a1 < 9000) = true:=decide_eq_true c3
  clear c3
  obtain ⟨⟨t588,t589⟩,A4,H⟩:=bse H
  try dsimp only at H
  simp only [Option.some.injEq,Prod.mk.injEq] at H
  obtain ⟨rfl,rfl⟩:=H
  go_enter Tryz.func94,Tryz.ntmps94
  go_wp2_with (first | (go_at_call 58;(with_reducible refine (spec_l20Rd_pick.calls k g s0_0 s0_1 a1 t588 t589 w0 _ ?side1 ?side2 A4.out).mono ?_);(case side1=>exact m8_);(case side2=>exact m9_);rintro e w5 ⟨rfl,hi,hb,hk⟩;replace HK:=am (KeepBut.trans m10_ hk (.inl rfl));replace HB:=am hb;replace HI0:=am hi;(try clear hb);(try clear hk);(try clear hi)))
  go_ret
  exact ⟨fi_,m8_,m9_,m10_⟩
 ·rw [if_neg c3] at H
  have c3b0 : decide (a1 < 9000) = false:=decide_eq_false c3
  clear c3
  simp only [Option.some.injEq,Prod.mk.injEq] at H
  obtain ⟨rfl,rfl⟩:=H
  go_enter Tryz.func94,Tryz.ntmps94
  go_wp2
  go_ret
  exact ⟨fi_,m8_,m9_,m10_⟩
end
theorem w64 (n : Int) (h : -9223372036854775808 ≤ n ∧ n ≤ 9223372036854775807) : wrap64 n = n := by unfold wrap64; omega
end Go.Proofs.YtakfmcpjnkagmaaGreatDoor.P
namespace Go.Proofs.YtakfmcpjnkagmaaGreatDoor.P
open Go.RowKit Go.Proofs.YtakfmcpjnkagmaaGreatDoorUFnExactPosOut.PrintWords Go.Proofs.YtakfmcpjnkagmaaGreatDoorUFnExactPosOut.PrintLast Go.Proofs.YtakfmcpjnkagmaaGreatDoorUFnExactPosOut.PrintMore
set_option linter.unusedVariables false
set_option linter.unusedSimpArgs false
def Ans {α : Type} (f : Nat → Option α) (P : α → Prop) : Prop := ∃ K v, P v ∧ ∀ k, K ≤ k → f k = some v
namespace Ans
variable {α β : Type} {f g : Nat → Option α} {P Q : α → Prop}
theorem of {v : α} (h : ∀ k, f k = some v) (p : P v) : Ans f P := ⟨0, v, p, fun k _ => h k⟩
theorem pure {v : α} (p : P v) : Ans (fun _ => some v) P := ⟨0, v, p, fun k _ => rfl⟩
theorem mono (h : Ans f P) (hq : ∀ v, P v → Q v) : Ans f Q := by obtain ⟨K, v, p, e⟩ := h; exact ⟨K, v, hq v p, e⟩
theorem succ (h : Ans (fun k => f (k + 1)) P) : Ans f P := by
  obtain ⟨K, v, p, e⟩ := h
  refine ⟨K + 1, v, p, fun k hk => ?_⟩
  obtain ⟨k', rfl⟩ : ∃ k', k = k' + 1 := ⟨k - 1, by omega⟩
  exact e k' (by omega)
theorem bind {a : Nat → Option β} {R : β → Prop} {b : Nat → β → Option α} (h : Ans a R) (hb : ∀ v, R v → Ans (fun k => b k v) P) : Ans (fun k => (a k).bind (b k)) P := by
  obtain ⟨K, v, p, e⟩ := h
  obtain ⟨K', u, q, e'⟩ := hb v p
  exact ⟨max K K', u, q, fun k hk => by show (a k).bind (b k) = some u; rw [e k (by omega)]; exact e' k (by omega)⟩
theorem bsome {v : β} {b : Nat → β → Option α} (h : Ans (fun k => b k v) P) : Ans (fun k => (some v).bind (b k)) P := h
theorem congr (h : Ans g P) (e : ∀ k, f k = g k) : Ans f P := by obtain ⟨K, v, p, e'⟩ := h; exact ⟨K, v, p, fun k hk => (e k).trans (e' k hk)⟩
theorem got (h : Ans f P) : ∃ k v, P v ∧ f k = some v := by obtain ⟨K, v, p, e⟩ := h; exact ⟨K, v, p, e K (Nat.le_refl _)⟩
theorem pos {c : Prop} [Decidable c] (h : c) (ht : Ans f P) : Ans (fun k => if c then f k else g k) P := congr ht (fun k => if_pos h)
theorem neg {c : Prop} [Decidable c] (h : ¬ c) (ht : Ans g P) : Ans (fun k => if c then f k else g k) P := congr ht (fun k => if_neg h)
theorem ite {c : Prop} [Decidable c] (ht : c → Ans f P) (he : ¬ c → Ans g P) : Ans (fun k => if c then f k else g k) P := by
  by_cases h : c
  · exact pos h (ht h)
  · exact neg h (he h)
end Ans
end Go.Proofs.YtakfmcpjnkagmaaGreatDoor.P
namespace Go.Proofs.YtakfmcpjnkagmaaGreatDoor.P
open Go.Proofs.YtakfmcpjnkagmaaGreatDoorUFnExactPosOut.PrintLast Go.Proofs.YtakfmcpjnkagmaaGreatDoorUFnExactPosOut.PrintMore Go.Proofs.YtakfmcpjnkagmaaGreatDoorUFnExactPosOut.PrintWords Go.RowKit
set_option linter.unusedVariables false
set_option linter.unusedSimpArgs false
section
attribute [local go_sem] max2_int min2_int max_two min_two max_three min_three max_four min_four
def impl_lineByte.f (a0 : Int) : Option (Bool):=if a0 ≥ 97 then (if a0 ≤ 122 then (some true) else (if a0 ≥ 48 then (if a0 ≤ 57 then (some true) else (some (a0 == 32))) else (some (a0 == 32)))) else (if a0 ≥ 48 then (if a0 ≤ 57 then (some true) else (some (a0 == 32))) else (some (a0 == 32)))
set_option maxHeartbeats 8000000 in
set_option maxRecDepth 100000 in
theorem impl_lineByte.calls (a0 : Int) (r : Bool) (w : World) (h : impl_lineByte.f a0 = some r) :
  Calls Tryz.prog 73 #[.int .u8 a0] w fun e w'=>e = .returned (.bool r) ∧ Drawn0 w w':=by
 have H : (if a0 ≥ 97 then (if a0 ≤ 122 then (some true) else (if a0 ≥ 48 then (if a0 ≤ 57 then (some true) else (some (a0 == 32))) else (some (a0 == 32)))) else (if a0 ≥ 48 then (if a0 ≤ 57 then (some true) else (some (a0 == 32))) else (some (a0 == 32)))) = some r:=h
 clear h
 by_cases c2 : a0 ≥ 97
 ·rw [if_pos c2] at H
  have c2b0 : decide (97 ≤ a0) = true:=decide_eq_true c2
  clear c2
  by_cases c3 : a0 ≤ 122
  ·rw [if_pos c3] at H
   have c3b0 : decide (a0 ≤ 122) = true:=decide_eq_true c3
   clear c3
   obtain rfl:=Option.some.inj H
   go_enter Tryz.func73,Tryz.ntmps73
   go_wp2
   go_ret
   exact ⟨fr_,dn_⟩
  ·rw [if_neg c3] at H
   have c3b0 : decide (a0 ≤ 122) = false:=decide_eq_false c3
   clear c3
   by_cases c4 : a0 ≥ 48
   ·rw [if_pos c4] at H
    have c4b0 : decide (48 ≤ a0) = true:=decide_eq_true c4
    clear c4
    by_cases c5 : a0 ≤ 57
    ·rw [if_pos c5] at H
     have c5b0 : decide (a0 ≤ 57) = true:=decide_eq_true c5
     clear c5
     obtain rfl:=Option.some.inj H
     go_enter Tryz.func73,Tryz.ntmps73
     go_wp2
     go_ret
     exact ⟨fr_,dn_⟩
    ·rw [if_neg c5] at H
     have c5b0 : decide (a0 ≤ 57) = false:=decide_eq_false c5
     clear c5
     obtain rfl:=Option.some.inj H
     go_enter Tryz.func73,Tryz.ntmps73
     go_wp2
     go_ret
     exact ⟨fr_,dn_⟩
   ·rw [if_neg c4] at H
    have c4b0 : decide (48 ≤ a0) = false:=decide_eq_false c4
    clear c4
    obtain rfl:=Option.some.inj H
    go_enter Tryz.func73,Tryz.ntmps73
    go_wp2
    go_ret
    exact ⟨fr_,dn_⟩
 ·rw [if_neg c2] at H
  have c2b0 : decide (97 ≤ a0) = false:=decide_eq_false c2
  clear c2
  by_cases c6 : a0 ≥ 48
  ·rw [if_pos c6] at H
   have c6b0 : decide (48 ≤ a0) = true:=decide_eq_true c6
   clear c6
   by_cases c7 : a0 ≤ 57
   ·rw [if_pos c7] at H
    have c7b0 : decide (a0 ≤ 57) = true:=decide_eq_true c7
    clear c7
    obtain rfl:=Option.some.inj H
    go_enter Tryz.func73,Tryz.ntmps73
    go_wp2
    go_ret
    exact ⟨fr_,dn_⟩
   ·rw [if_neg c7] at H
    have c7b0 : decide (a0 ≤ 57) = false:=decide_eq_false c7
    clear c7
    obtain rfl:=Option.some.inj H
    go_enter Tryz.func73,Tryz.ntmps73
    go_wp2
    go_ret
    exact ⟨fr_,dn_⟩
  ·rw [if_neg c6] at H
   have c6b0 : decide (48 ≤ a0) = false:=decide_eq_false c6
   clear c6
   obtain rfl:=Option.some.inj H
   go_enter Tryz.func73,Tryz.ntmps73
   go_wp2
   go_ret
   exact ⟨fr_,dn_⟩
end
def lb (b : Int) : Bool := (97 ≤ b && b ≤ 122) || ((48 ≤ b && b ≤ 57) || b == 32)
theorem lb_f (b : Int) : impl_lineByte.f b = some (lb b) := by
  unfold impl_lineByte.f lb
  by_cases h1 : 97 ≤ b <;> by_cases h2 : b ≤ 122 <;> by_cases h3 : 48 ≤ b <;> by_cases h4 : b ≤ 57 <;> simp [h1, h2, h3, h4]
def bys (s : ByteArray) : List Int := s.data.toList.map fun b => (b.toNat : Int)
def linOk (s : ByteArray) : Bool := (bys s).all lb && decide (s.size ≤ 16)
def impl_LinOk.f (s : ByteArray) : Option Bool := if s.size ≤ 140737488351232 then some (linOk s) else none
theorem bys_get (s : ByteArray) (k : Nat) (h : k < s.size) : ((s.data.toList.getD k 0).toNat : Int) = (bys s)[k]'(by simpa [bys] using h) := by
  have h' : k < s.data.toList.length := by simpa using h
  simp [bys, List.getD, List.getElem?_eq_getElem h']
theorem below_bytes (w : World) (e : TypeId) (s : ByteArray) : Below w.heap.size w (Lib.bytesWorld w e s) :=
  ⟨rfl, rfl, rfl, by rw [Lib.bytesWorld_size]; omega, fun i hi => Lib.bytesWorld_at_old w e s i hi⟩
set_option maxHeartbeats 1000000 in
set_option maxRecDepth 100000 in
theorem impl_LinOk.calls (a0 : ByteArray) (r : Bool) (w : World) (h : impl_LinOk.f a0 = some r) :
    Calls Tryz.prog 50 #[.string a0] w fun e w' => e = .returned (.bool r) ∧ Below w.heap.size w w' := by
  have hs : a0.size ≤ 140737488351232 := by
    unfold impl_LinOk.f at h
    split at h
    · assumption
    · cases h
  have hr : r = linOk a0 := by
    unfold impl_LinOk.f at h
    rw [if_pos hs] at h
    exact (Option.some.inj h).symm
  have HR := Lib.hid hr
  clear hr h
  have hcv := fun (w : World) => Lib.run_convert_string_bytes (P := Tryz.prog) w 9 39 5 a0 Tryz.underlying9 Tryz.underlying39 Tryz.underlying5
  go_enter Tryz.func50, Tryz.ntmps50
  go_wp2_with fail
  obtain ⟨W0, hW0⟩ : ∃ W0, Lib.bytesWorld w 5 a0 = W0 := ⟨_, rfl⟩
  have hbw : Below w.heap.size w W0 := by rw [← hW0]; exact below_bytes w 5 a0
  have hcW := Lib.hid (fun k (hk : k < a0.size) => (by rw [← hW0]; exact Lib.bytesWorld_cell w 5 a0 k hk : W0.cell? ⟨w.heap.size, k, none⟩ = some (.int .u8 (a0.data.toList.getD k 0).toNat)))
  have HBW := Lib.hid hbw
  rw [hW0]
  clear hW0 hcv hbw
  go_loopw [4, 8] (fun b i wr => ∃ k : Nat, k ≤ a0.size ∧ i = .int .i64 k ∧ Aside0 (((bys a0).take k).all lb = true) ∧ Aside0 (Drawn0 W0 wr)) (fun _ i _ => a0.size - (intOf i).toNat)
  case atStart => exact ⟨0, Nat.zero_le _, rfl, ⟨by simp⟩, ⟨Drawn0.refl _⟩⟩
  case round =>
    obtain ⟨k, hk, rfl, ha, hd⟩ := hrel
    by_cases hlt : k < a0.size
    · obtain ⟨nd, hnd⟩ := hd.out.out
      subst hnd
      have hg := bys_get a0 k hlt
      have hc0 := hcW.out k hlt
      obtain ⟨x, hx⟩ : ∃ x : Int, ((a0.data.toList.getD k 0).toNat : Int) = x := ⟨_, rfl⟩
      rw [hx] at hg hc0
      have hc : (W0.drewN nd).cell? ⟨w.heap.size, k, none⟩ = some (.int .u8 x) := hc0
      have hlen : (bys a0).length = a0.size := by simp [bys]
      have htk : (bys a0).take (k + 1) = (bys a0).take k ++ [x] := by
        rw [List.take_succ_eq_append_getElem (by omega), ← hg]
      have HT := Lib.hid htk
      have HL := Lib.hid hlen
      have HG := Lib.hid hg
      clear hx hg hc0 htk hlen
      cases hb : lb x with
      | true =>
        have HL' := Lib.hid hb
        have hfb : impl_lineByte.f x = some true := by rw [lb_f, hb]
        have HF := Lib.hid hfb
        clear hb hfb
        go_wp2_with (go_at_call 73; refine (impl_lineByte.calls _ true _ HF.out).mono ?_; rintro e wq ⟨rfl, ⟨nq, rfl⟩⟩)
        go_roundw
        case rel => exact ⟨k + 1, by omega, by go_num, ⟨by rw [HT.out, List.all_append, ha.out]; simp [HL'.out]⟩, ⟨⟨⟨_, rfl⟩⟩⟩⟩
        case measure => simp [intOf]; omega
      | false =>
        have HL' := Lib.hid hb
        have hfb : impl_lineByte.f x = some false := by rw [lb_f, hb]
        have HF := Lib.hid hfb
        clear hb hfb
        go_wp2_with (go_at_call 73; refine (impl_lineByte.calls _ false _ HF.out).mono ?_; rintro e wq ⟨rfl, ⟨nq, rfl⟩⟩)
        go_ret
        have hfl : linOk a0 = false := by
          unfold linOk
          have : (bys a0).all lb = false := by
            rw [List.all_eq_false]
            exact ⟨x, by rw [HG.out]; exact List.getElem_mem _, by simp [HL'.out]⟩
          simp [this]
        exact ⟨by rw [HR.out, hfl]; rfl, HBW.out.trans ((Drawn0.below ⟨⟨_, rfl⟩⟩).mono HBW.out.size)⟩
    · obtain ⟨nd, hnd⟩ := hd.out.out
      subst hnd
      have hk2 : k = a0.size := by omega
      subst hk2
      have hlen : (bys a0).length = a0.size := by simp [bys]
      have hall : (bys a0).all lb = true := by have := ha.out; rwa [List.take_of_length_le (by omega)] at this
      have HA := Lib.hid hall
      clear hall hlen
      have hfin : linOk a0 = decide ((a0.size : Int) ≤ 16) := by
        rw [linOk, HA.out, Bool.true_and]
        exact decide_eq_decide.mpr (by omega)
      have HFIN := Lib.hid hfin
      clear hfin
      by_cases h16 : (a0.size : Int) ≤ 16
      · go_wp2
        go_ret
        exact ⟨by rw [HR.out, HFIN.out, decide_eq_true h16]; rfl, HBW.out.trans ((Drawn0.below hd.out).mono HBW.out.size)⟩
      · go_wp2
        go_ret
        exact ⟨by rw [HR.out, HFIN.out, decide_eq_false (by omega)]; rfl, HBW.out.trans ((Drawn0.below hd.out).mono HBW.out.size)⟩
section
attribute [local go_sem] max2_int min2_int max_two min_two max_three min_three max_four min_four
def spec_l1In.f (a0 : Int) (a1 : Int) (a2 : Int) : Option (Bool):=if a0 ≥ a1 then (some (decide (a0 ≤ a2))) else (some false)
set_option maxHeartbeats 8000000 in
set_option maxRecDepth 100000 in
theorem spec_l1In.calls (a0 : Int) (a1 : Int) (a2 : Int) (r : Bool) (w : World) (h : spec_l1In.f a0 a1 a2 = some r) :
  Calls Tryz.prog 71 #[.int .i64 a0,.int .i64 a1,.int .i64 a2] w fun e w'=>e = .returned (.bool r) ∧ Drawn0 w w':=by
 have H : (if a0 ≥ a1 then (some (decide (a0 ≤ a2))) else (some false)) = some r:=h
 clear h
 by_cases c4 : a0 ≥ a1
 ·rw [if_pos c4] at H
  have c4b0 : decide (a1 ≤ a0) = true:=decide_eq_true c4
  clear c4
  obtain rfl:=Option.some.inj H
  go_enter Tryz.func71,Tryz.ntmps71
  go_wp2
  go_ret
  exact ⟨fr_,dn_⟩
 ·rw [if_neg c4] at H
  have c4b0 : decide (a1 ≤ a0) = false:=decide_eq_false c4
  clear c4
  obtain rfl:=Option.some.inj H
  go_enter Tryz.func71,Tryz.ntmps71
  go_wp2
  go_ret
  exact ⟨fr_,dn_⟩
def spec_EndInside.f (a0_0 : Int) (a0_1 : Int) : Option (Bool):=(spec_l1In.f a0_0 1 9).bind fun t104=>(if t104 = true then ((spec_l1In.f a0_1 1 999).bind fun t105=>(some t105)) else (some false))
set_option maxHeartbeats 8000000 in
set_option maxRecDepth 100000 in
theorem spec_EndInside.calls (a0_0 : Int) (a0_1 : Int) (r : Bool) (w : World) (h : spec_EndInside.f a0_0 a0_1 = some r) :
  Calls Tryz.prog 46 #[.agg #[.int .i64 a0_0,.int .i64 a0_1]] w fun e w'=>e = .returned (.bool r) ∧ Below w.heap.size w w':=by
 have hu55:=Tryz.underlying55
 have HB:=am (Below.refl w.heap.size w)
 have H : ((spec_l1In.f a0_0 1 9).bind fun t104=>(if t104 = true then ((spec_l1In.f a0_1 1 999).bind fun t105=>(some t105)) else (some false))) = some r:=h
 clear h
 obtain ⟨t104,A2,H⟩:=bse H
 try dsimp only at H
 by_cases c3 : t104 = true
 ·subst c3
  have H1 : ((spec_l1In.f a0_1 1 999).bind fun t105=>(some t105)) = some r:=by rw [if_pos rfl] at H;exact H
  clear H
  have H:=H1
  clear H1
  obtain ⟨t105,A4,H⟩:=bse H
  try dsimp only at H
  obtain rfl:=Option.some.inj H
  go_enter Tryz.func46,Tryz.ntmps46
  go_wp2_with (first | ((with_reducible refine gD 1 rfl ?_);refine box_event rfl (N:=1) rfl (cs:=#[.int .i64 a0_0,.int .i64 a0_1]) (t:=55) hr_ ?_;intro gb103 hg w5 hbox hb;have BK103:=am hbox;have GW103:=gwE HB hg;have GE103:=gwE HB hg;replace HB:=hbS HB hb;clear hb hbox hg;have:=bcell BK103 0;have:=bcell BK103 1;have:=bfz BK103 0;have:=bfz BK103 1) | ((with_reducible refine gC 71 rfl ?_);refine gL (some 5) Tryz.func71 #[.int .i64 a0_0,.int .i64 1,.int .i64 9] ?_;(with_reducible refine (spec_l1In.calls a0_0 1 9 true _ A2.out).mono ?_);rintro e w' ⟨rfl,⟨nd,rfl⟩⟩;refine ⟨_,rfl,?_⟩) | (go_at_call 71;(with_reducible refine (spec_l1In.calls a0_1 1 999 t105 _ A4.out).mono ?_);rintro e w' ⟨rfl,⟨nd,rfl⟩⟩))
  go_ret
  exact ⟨fi_,m2_⟩
 ·replace c3:=Bool.eq_false_iff.mpr c3
  subst c3
  have H1 : (some false) = some r:=by rw [if_neg (show ¬ (false = true) by decide)] at H;exact H
  clear H
  have H:=H1
  clear H1
  obtain rfl:=Option.some.inj H
  go_enter Tryz.func46,Tryz.ntmps46
  go_wp2_with (first | ((with_reducible refine gD 1 rfl ?_);refine box_event rfl (N:=1) rfl (cs:=#[.int .i64 a0_0,.int .i64 a0_1]) (t:=55) hr_ ?_;intro gb103 hg w7 hbox hb;have BK103:=am hbox;have GW103:=gwE HB hg;have GE103:=gwE HB hg;replace HB:=hbS HB hb;clear hb hbox hg;have:=bcell BK103 0;have:=bcell BK103 1;have:=bfz BK103 0;have:=bfz BK103 1) | ((with_reducible refine gC 71 rfl ?_);refine gL (some 5) Tryz.func71 #[.int .i64 a0_0,.int .i64 1,.int .i64 9] ?_;(with_reducible refine (spec_l1In.calls a0_0 1 9 false _ A2.out).mono ?_);rintro e w' ⟨rfl,⟨nd,rfl⟩⟩;refine ⟨_,rfl,?_⟩))
  go_ret
  exact ⟨fi_,m2_⟩
def spec_EndOutside.f (a0_0 : Int) (a0_1 : Int) : Option (Bool):=(spec_l1In.f a0_0 100 109).bind fun t133=>(if t133 = true then ((spec_l1In.f a0_1 1 999).bind fun t134=>(some t134)) else (some false))
set_option maxHeartbeats 8000000 in
set_option maxRecDepth 100000 in
theorem spec_EndOutside.calls (a0_0 : Int) (a0_1 : Int) (r : Bool) (w : World) (h : spec_EndOutside.f a0_0 a0_1 = some r) :
  Calls Tryz.prog 143 #[.agg #[.int .i64 a0_0,.int .i64 a0_1]] w fun e w'=>e = .returned (.bool r) ∧ Below w.heap.size w w':=by
 have hu55:=Tryz.underlying55
 have HB:=am (Below.refl w.heap.size w)
 have H : ((spec_l1In.f a0_0 100 109).bind fun t133=>(if t133 = true then ((spec_l1In.f a0_1 1 999).bind fun t134=>(some t134)) else (some false))) = some r:=h
 clear h
 obtain ⟨t133,A2,H⟩:=bse H
 try dsimp only at H
 by_cases c3 : t133 = true
 ·subst c3
  have H1 : ((spec_l1In.f a0_1 1 999).bind fun t134=>(some t134)) = some r:=by rw [if_pos rfl] at H;exact H
  clear H
  have H:=H1
  clear H1
  obtain ⟨t134,A4,H⟩:=bse H
  try dsimp only at H
  obtain rfl:=Option.some.inj H
  go_enter Tryz.func143,Tryz.ntmps143
  go_wp2_with (first | ((with_reducible refine gD 1 rfl ?_);refine box_event rfl (N:=1) rfl (cs:=#[.int .i64 a0_0,.int .i64 a0_1]) (t:=55) hr_ ?_;intro gb132 hg w5 hbox hb;have BK132:=am hbox;have GW132:=gwE HB hg;have GE132:=gwE HB hg;replace HB:=hbS HB hb;clear hb hbox hg;have:=bcell BK132 0;have:=bcell BK132 1;have:=bfz BK132 0;have:=bfz BK132 1) | ((with_reducible refine gC 71 rfl ?_);refine gL (some 5) Tryz.func71 #[.int .i64 a0_0,.int .i64 100,.int .i64 109] ?_;(with_reducible refine (spec_l1In.calls a0_0 100 109 true _ A2.out).mono ?_);rintro e w' ⟨rfl,⟨nd,rfl⟩⟩;refine ⟨_,rfl,?_⟩) | (go_at_call 71;(with_reducible refine (spec_l1In.calls a0_1 1 999 t134 _ A4.out).mono ?_);rintro e w' ⟨rfl,⟨nd,rfl⟩⟩))
  go_ret
  exact ⟨fi_,m2_⟩
 ·replace c3:=Bool.eq_false_iff.mpr c3
  subst c3
  have H1 : (some false) = some r:=by rw [if_neg (show ¬ (false = true) by decide)] at H;exact H
  clear H
  have H:=H1
  clear H1
  obtain rfl:=Option.some.inj H
  go_enter Tryz.func143,Tryz.ntmps143
  go_wp2_with (first | ((with_reducible refine gD 1 rfl ?_);refine box_event rfl (N:=1) rfl (cs:=#[.int .i64 a0_0,.int .i64 a0_1]) (t:=55) hr_ ?_;intro gb132 hg w7 hbox hb;have BK132:=am hbox;have GW132:=gwE HB hg;have GE132:=gwE HB hg;replace HB:=hbS HB hb;clear hb hbox hg;have:=bcell BK132 0;have:=bcell BK132 1;have:=bfz BK132 0;have:=bfz BK132 1) | ((with_reducible refine gC 71 rfl ?_);refine gL (some 5) Tryz.func71 #[.int .i64 a0_0,.int .i64 100,.int .i64 109] ?_;(with_reducible refine (spec_l1In.calls a0_0 100 109 false _ A2.out).mono ?_);rintro e w' ⟨rfl,⟨nd,rfl⟩⟩;refine ⟨_,rfl,?_⟩))
  go_ret
  exact ⟨fi_,m2_⟩
end
theorem l1In_f (n lo hi : Int) : spec_l1In.f n lo hi = some (inB n lo hi) := by
  unfold spec_l1In.f inB
  by_cases h : lo ≤ n <;> simp [h]
theorem wi (i : Nat) (h : i ≤ 100000000) : wrap64 ((i : Int) + 1) = ((i + 1 : Nat) : Int) := by rw [w64 _ (by omega)]; push_cast; rfl
theorem specEndInside_f (a p : Int) : spec_EndInside.f a p = some (endIn a p) := by
  unfold spec_EndInside.f endIn
  simp only [l1In_f, Option.bind_some]
  cases inB a 1 9 <;> simp
theorem specEndOutside_f (a p : Int) : spec_EndOutside.f a p = some (endOut a p) := by
  unfold spec_EndOutside.f endOut
  simp only [l1In_f, Option.bind_some]
  cases inB a 100 109 <;> simp
section
attribute [local go_sem] max2_int min2_int max_two min_two max_three min_three max_four min_four
theorem eqA55 (d : Nat) (w : World) (x0 y0 : Int) (x1 y1 : Int) :
  (Op.equalIn (d + 2) 55 (.agg #[.int .i64 x0,.int .i64 x1]) (.agg #[.int .i64 y0,.int .i64 y1])).run Tryz.prog w = .ok (x0 == y0 && (x1 == y1)) w:=by
 refine eqA_of Tryz.underlying55 (by kernel_rfl) ?_
 refine eqf_cons (by rfl) (by go_simp;rfl) (by go_simp;rfl) (by go_simp) ?_
 exact eqf_last (by rfl) (by go_simp;rfl) (by go_simp;rfl) (by go_simp)
end
section
attribute [local go_sem] max2_int min2_int max_two min_two max_three min_three max_four min_four
attribute [local go_sem high] eqA55
def spec_l3Find.l0 : Nat → Int → List (S55) → Int → Int → Option (Int)
 | 0,_,_,_,_=>none
 | k + 1,x5,x107000,x108000,x108001=>if x5 < (x107000.length : Int) then (if 0 ≤ x5 then (if (((rd_T55 x107000 x5).f0) == x108000 && (((rd_T55 x107000 x5).f1) == x108001)) = true then (some x5) else (spec_l3Find.l0 k (wrap64 (x5 + 1)) x107000 x108000 x108001)) else (none)) else (some (-1))
def spec_l3Find.f (k : Nat) (l0_0 : List (S55)) (a1_0 : Int) (a1_1 : Int) : Option (Int):=spec_l3Find.l0 k 0 l0_0 a1_0 a1_1
theorem spec_l3Find.mono_l : ∀ k,(∀ y0 y1 y2 y3,LeO (spec_l3Find.l0 k y0 y1 y2 y3) (spec_l3Find.l0 (k + 1) y0 y1 y2 y3))
 | 0=>fun _ _ _ _ r h=>by simp [spec_l3Find.l0] at h
 | k + 1=>by
  have ih0:=spec_l3Find.mono_l k
  ·intro y0 y1 y2 y3
   unfold spec_l3Find.l0
   repeat' first | (with_reducible first | exact ih0 _ _ _ _ | exact LeO.refl _ | exact LeO.none _ | refine LeO.ite ?_ ?_ | refine LeO.bind ?_ (fun _=>?_)) | exact ih0 _ _ _ _ | exact LeO.none _ | refine LeO.ite ?_ ?_ | refine LeO.bind ?_ (fun _=>?_)
theorem spec_l3Find.mono : ∀ a0 a1 a2 k,LeO (spec_l3Find.f k a0 a1 a2) (spec_l3Find.f (k + 1) a0 a1 a2):=by
 intro a0 a1 a2 k
 have ih0:=spec_l3Find.mono_l k
 unfold spec_l3Find.f
 repeat' first | (with_reducible first | exact ih0 _ _ _ _ | exact LeO.refl _ | exact LeO.none _ | refine LeO.ite ?_ ?_ | refine LeO.bind ?_ (fun _=>?_)) | exact ih0 _ _ _ _ | exact LeO.none _ | refine LeO.ite ?_ ?_ | refine LeO.bind ?_ (fun _=>?_)
set_option maxHeartbeats 8000000 in
set_option maxRecDepth 100000 in
theorem spec_l3Find.calls (k : Nat) (A0_0 : Option Addr) (c0_0 : Nat) (l0_0 : List (S55)) (a1_0 : Int) (a1_1 : Int) (r : Int) (w : World) (hr0_0 : Kd.C k55 w A0_0 l0_0.length l0_0) (hc0_0 : l0_0.length ≤ c0_0) (h : spec_l3Find.f k l0_0 a1_0 a1_1 = some r) :
  Calls Tryz.prog 47 #[.agg #[.slice A0_0 l0_0.length c0_0],.agg #[.int .i64 a1_0,.int .i64 a1_1]] w fun e w'=>e = .returned (.int .i64 r) ∧ Below w.heap.size w w':=by
 have hu29:=Tryz.underlying29
 have hu55:=Tryz.underlying55
 have HR0_0:=am hr0_0
 have HC0_0:=am hc0_0
 clear hr0_0 hc0_0
 have HB:=am (Below.refl w.heap.size w)
 have H : (spec_l3Find.l0 k 0 l0_0 a1_0 a1_1) = some r:=h
 clear h
 have H':=am H
 clear H
 go_enter Tryz.func47,Tryz.ntmps47
 iterate 4 ((try go_quiet (fail));(try go_wp2_with (first | ((with_reducible refine gD 2 rfl ?_);refine box_event rfl (N:=2) rfl (cs:=#[.slice A0_0 l0_0.length c0_0]) (t:=29) hr_ ?_;intro gb106 hg w3 hbox hb;have BK106:=am hbox;have GW106:=gwE HB hg;have GE106:=gwE HB hg;replace HB:=hbS HB hb;clear hb hbox hg) | ((with_reducible refine gD 3 rfl ?_);refine box_event rfl (N:=3) rfl (cs:=#[.int .i64 a1_0,.int .i64 a1_1]) (t:=55) hr_ ?_;intro gb107 hg w4 hbox hb;have BK107:=am hbox;have GW107:=gwE HB hg;have GE107:=gwE HB hg;replace HB:=hbS HB hb;have NB106_107:=neL BK106 hg;have NB107_106:=neG BK106 hg;replace BK106:=bkB BK106 hb;clear hb hbox hg))))
 go_loopg [5] k (fun kq v5 w'=>∃ (x5_1 : Int),v5 = .int .i64 x5_1 ∧ Aside0 (spec_l3Find.l0 kq x5_1 l0_0 a1_0 a1_1 = some r) ∧ Aside0 (kq ≤ k) ∧ Aside0 (w'.heap[gb106]? = some (.cells #[(.slice A0_0 l0_0.length c0_0)] 29 (0,0))) ∧ Aside0 (w'.heap[gb107]? = some (.cells #[.int .i64 a1_0,.int .i64 a1_1] 55 (0,0))) ∧ Aside0 (Below w.heap.size w w'))
 case atStart=>exact ⟨(0),rs_,H',⟨Nat.le_refl _⟩,⟨bk BK106⟩,⟨bk BK107⟩,⟨m2_⟩⟩
 case round=>
  clear H'
  try clear p2
  try clear c4
  obtain ⟨x5_1,rfl,HA,HK1,BK106,BK107,HB⟩:=hrel
  cases gk with
  | zero=>exact absurd HA.out (by simp [spec_l3Find.l0])
  | succ k1=>
   have H:=HA.out
   clear HA
   simp only [spec_l3Find.l0] at H
   by_cases c5 : x5_1 < (l0_0.length : Int)
   ·rw [if_pos c5] at H
    have c5b0 : decide (x5_1 < (l0_0.length : Int)) = true:=decide_eq_true c5
    clear c5
    by_cases c6 : 0 ≤ x5_1
    ·rw [if_pos c6] at H
     have c6b0 : decide (0 ≤ x5_1) = true:=decide_eq_true c6
     clear c6
     by_cases c7 : (((rd_T55 l0_0 x5_1).f0) == a1_0 && (((rd_T55 l0_0 x5_1).f1) == a1_1)) = true
     ·rw [if_pos c7] at H
      have c7b0 : (((rd_T55 l0_0 x5_1).f0) == a1_0 && (((rd_T55 l0_0 x5_1).f1) == a1_1)) = true:=c7
      (try (have c7b1 : decide (((rd_T55 l0_0 x5_1).f0) = a1_0 && (((rd_T55 l0_0 x5_1).f1) == a1_1)) = true:=by simpa using c7))
      (try (have c7b2 : (((rd_T55 l0_0 x5_1).f0) == a1_0 && (((rd_T55 l0_0 x5_1).f1) == a1_1)) = true:=by simpa using c7))
      clear c7
      obtain rfl:=Option.some.inj H
      have:=NB106_107.out
      have:=NB107_106.out
      have:=bcell BK106 0
      have:=bfz BK106 0
      have p108 : 0 ≤ (x5_1 : Int):=of_decide_eq_true da_
      have q108 : x5_1 < (l0_0.length : Int):=of_decide_eq_true da_
      obtain ⟨ad108,e108,hx108_0,hx108_1⟩:=at_T55 HR0_0.out x5_1 p108 q108
      cases e108
      replace hx108_0:=bcl HB hx108_0
      replace hx108_1:=bcl HB hx108_1
      replace p108:=eq_true p108
      replace q108:=eq_true q108
      have:=bcell BK107 0
      have:=bcell BK107 1
      have:=bfz BK107 0
      have:=bfz BK107 1
      go_wp2
      repeat (go_quiet (fail);try go_wp2)
      go_ret
      exact ⟨fi_,m2_⟩
     ·rw [if_neg c7] at H
      have c7b0 : (((rd_T55 l0_0 x5_1).f0) == a1_0 && (((rd_T55 l0_0 x5_1).f1) == a1_1)) = false:=by simpa using c7
      (try (have c7b1 : decide (((rd_T55 l0_0 x5_1).f0) = a1_0 && (((rd_T55 l0_0 x5_1).f1) == a1_1)) = false:=by simpa using c7))
      (try (have c7b2 : (((rd_T55 l0_0 x5_1).f0) == a1_0 && (((rd_T55 l0_0 x5_1).f1) == a1_1)) = false:=by simpa using c7))
      (try (have c7b3 : ¬ (((rd_T55 l0_0 x5_1).f0) = a1_0 && (((rd_T55 l0_0 x5_1).f1) == a1_1)):=by simpa using c7))
      clear c7
      have H':=am H
      clear H
      have:=NB106_107.out
      have:=NB107_106.out
      have:=bcell BK106 0
      have:=bfz BK106 0
      have p108 : 0 ≤ (x5_1 : Int):=of_decide_eq_true da_
      have q108 : x5_1 < (l0_0.length : Int):=of_decide_eq_true da_
      obtain ⟨ad108,e108,hx108_0,hx108_1⟩:=at_T55 HR0_0.out x5_1 p108 q108
      cases e108
      replace hx108_0:=bcl HB hx108_0
      replace hx108_1:=bcl HB hx108_1
      replace p108:=eq_true p108
      replace q108:=eq_true q108
      have:=bcell BK107 0
      have:=bcell BK107 1
      have:=bfz BK107 0
      have:=bfz BK107 1
      go_wp2
      repeat (go_quiet (fail);try go_wp2)
      go_roundg k1
      case measure=>have:=HK1.out;omega
      case rel=>exact ⟨(wrap64 (x5_1 + 1)),rs_,H',⟨by have:=HK1.out;omega⟩,⟨bk BK106⟩,⟨bk BK107⟩,⟨m2_⟩⟩
    ·rw [if_neg c6] at H
     exact absurd H (by simp)
   ·rw [if_neg c5] at H
    have c5b0 : decide (x5_1 < (l0_0.length : Int)) = false:=decide_eq_false c5
    clear c5
    obtain rfl:=Option.some.inj H
    have:=NB106_107.out
    have:=NB107_106.out
    have:=bcell BK106 0
    have:=bfz BK106 0
    go_wp2
    repeat (go_quiet (fail);try go_wp2)
    go_ret
    exact ⟨fi_,m2_⟩
end
section
attribute [local go_sem] max2_int min2_int max_two min_two max_three min_three max_four min_four
def spec_MapOk.l0 : Nat → Int → List (S55) → Option (Bool)
 | 0,_,_=>none
 | k + 1,x3,x110000=>if x3 < (x110000.length : Int) then (if 0 ≤ x3 then ((spec_EndInside.f ((rd_T55 x110000 x3).f0) ((rd_T55 x110000 x3).f1)).bind fun t111=>(if t111 = true then (if x3 ≤ (x110000.length : Int) then ((spec_l3Find.f k (x110000.take (x3 : Int).toNat) ((rd_T55 x110000 x3).f0) ((rd_T55 x110000 x3).f1)).bind fun t117=>(if t117 ≥ 0 then (some false) else (spec_MapOk.l0 k (wrap64 (x3 + 1)) x110000))) else (none)) else (some false))) else (none)) else (some true)
def spec_MapOk.f (k : Nat) (l0_0 : List (S55)) : Option (Bool):=if (l0_0.length : Int) > 6 then (some false) else (spec_MapOk.l0 k 0 l0_0)
theorem spec_MapOk.mono_l : ∀ k,(∀ y0 y1,LeO (spec_MapOk.l0 k y0 y1) (spec_MapOk.l0 (k + 1) y0 y1))
 | 0=>fun _ _ r h=>by simp [spec_MapOk.l0] at h
 | k + 1=>by
  have ih0:=spec_MapOk.mono_l k
  ·intro y0 y1
   unfold spec_MapOk.l0
   repeat' first | (with_reducible first | exact ih0 _ _ | exact spec_l3Find.mono _ _ _ _ | exact LeO.refl _ | exact LeO.none _ | refine LeO.ite ?_ ?_ | refine LeO.bind ?_ (fun _=>?_)) | exact ih0 _ _ | exact spec_l3Find.mono _ _ _ _ | exact LeO.none _ | refine LeO.ite ?_ ?_ | refine LeO.bind ?_ (fun _=>?_)
theorem spec_MapOk.mono : ∀ a0 k,LeO (spec_MapOk.f k a0) (spec_MapOk.f (k + 1) a0):=by
 intro a0 k
 have ih0:=spec_MapOk.mono_l k
 unfold spec_MapOk.f
 repeat' first | (with_reducible first | exact ih0 _ _ | exact spec_l3Find.mono _ _ _ _ | exact LeO.refl _ | exact LeO.none _ | refine LeO.ite ?_ ?_ | refine LeO.bind ?_ (fun _=>?_)) | exact ih0 _ _ | exact spec_l3Find.mono _ _ _ _ | exact LeO.none _ | refine LeO.ite ?_ ?_ | refine LeO.bind ?_ (fun _=>?_)
def spec_MapOk.T6 : Bool × List (List Nat × List Nat):=(true,[([],[]),([0],[0]),([],[]),([1,2],[1,2]),([3],[3]),([4],[4]),([5],[5]),([6,5],[6]),([7],[7]),([8,7],[7,8]),([7],[7]),([9,10,7],[7,9,10]),([11,7],[7,11]),([7],[7]),([13,7],[7,13]),([7],[7]),([14,15,7],[7,14,15]),([16,7],[7,16]),([12,17,7,7],[7,12,17]),([18,7],[7,18]),([7,19],[7,19])])
def spec_MapOk.B6 : List Nat:=[0,1,0,7,15,31,63,127,255,511,255,2047,4095,255,8447,255,57599,123135,262143,524287,1048575]
theorem spec_MapOk.tab6 : rtab .any (opsOf Tryz.f26 6) = spec_MapOk.T6:=by kernel_rfl
theorem spec_MapOk.bits6 : waitsOk spec_MapOk.T6.2 spec_MapOk.B6 = true:=by kernel_rfl
set_option maxHeartbeats 8000000 in
set_option maxRecDepth 100000 in
theorem spec_MapOk.calls (k : Nat) (A0_0 : Option Addr) (c0_0 : Nat) (l0_0 : List (S55)) (r : Bool) (w : World) (hr0_0 : Kd.C k55 w A0_0 l0_0.length l0_0) (hc0_0 : l0_0.length ≤ c0_0) (h : spec_MapOk.f k l0_0 = some r) :
  Calls Tryz.prog 26 #[.agg #[.slice A0_0 l0_0.length c0_0]] w fun e w'=>e = .returned (.bool r) ∧ Below w.heap.size w w':=by
 have hu29:=Tryz.underlying29
 have hu55:=Tryz.underlying55
 have HR0_0:=am hr0_0
 have HC0_0:=am hc0_0
 clear hr0_0 hc0_0
 have HB:=am (Below.refl w.heap.size w)
 have H : (if (l0_0.length : Int) > 6 then (some false) else (spec_MapOk.l0 k 0 l0_0)) = some r:=h
 clear h
 by_cases c2 : (l0_0.length : Int) > 6
 ·rw [if_pos c2] at H
  have c2b0 : decide (6 < (l0_0.length : Int)) = true:=decide_eq_true c2
  have c2b1 : decide (6 < l0_0.length) = true:=decide_eq_true (by omega)
  clear c2
  obtain rfl:=Option.some.inj H
  go_enter Tryz.func26,Tryz.ntmps26
  go_wp2_with (first | ((with_reducible refine gD 1 rfl ?_);refine box_event rfl (N:=1) rfl (cs:=#[.slice A0_0 l0_0.length c0_0]) (t:=29) hr_ ?_;intro gb109 hg w3 hbox hb;have BK109:=am hbox;have GW109:=gwE HB hg;have GE109:=gwE HB hg;replace HB:=hbS HB hb;clear hb hbox hg;have hcz4_0:=bcell BK109 0;have hfz4_0:=blk_frozen BK109.out 0))
  go_ret
  exact ⟨fi_,m2_⟩
 ·rw [if_neg c2] at H
  have c2b0 : decide (6 < (l0_0.length : Int)) = false:=decide_eq_false c2
  have c2b1 : decide (6 < l0_0.length) = false:=decide_eq_false (by omega)
  clear c2
  have H':=am H
  clear H
  go_enter Tryz.func26,Tryz.ntmps26
  go_wp2_with (first | ((with_reducible refine gD 1 rfl ?_);refine box_event rfl (N:=1) rfl (cs:=#[.slice A0_0 l0_0.length c0_0]) (t:=29) hr_ ?_;intro gb109 hg w5 hbox hb;have BK109:=am hbox;have GW109:=gwE HB hg;have GE109:=gwE HB hg;replace HB:=hbS HB hb;clear hb hbox hg;have hcz6_0:=bcell BK109 0;have hfz6_0:=blk_frozen BK109.out 0))
  go_loopg [3] k (fun kq v3 w'=>∃ (x3_1 : Int),v3 = .int .i64 x3_1 ∧ Aside0 (spec_MapOk.l0 kq x3_1 l0_0 = some r) ∧ Aside0 (kq ≤ k) ∧ Aside0 (w'.heap[gb109]? = some (.cells #[(.slice A0_0 l0_0.length c0_0)] 29 (0,0))) ∧ Aside0 (Below w.heap.size w w'))
  case atStart=>exact ⟨(0),rs_,H',⟨Nat.le_refl _⟩,⟨bk BK109⟩,⟨m2_⟩⟩
  case round=>
   clear H'
   try clear c2
   try clear c2b0
   try clear c2b1
   try clear p2
   try clear hcz4_0
   try clear hcz6_0
   try clear hfz4_0
   try clear hfz6_0
   obtain ⟨x3_1,rfl,HA,HK1,BK109,HB⟩:=hrel
   cases gk with
   | zero=>exact absurd HA.out (by simp [spec_MapOk.l0])
   | succ k1=>
    have H:=HA.out
    clear HA
    simp only [spec_MapOk.l0] at H
    by_cases c7 : x3_1 < (l0_0.length : Int)
    ·rw [if_pos c7] at H
     have c7b0 : decide (x3_1 < (l0_0.length : Int)) = true:=decide_eq_true c7
     clear c7
     by_cases c8 : 0 ≤ x3_1
     ·rw [if_pos c8] at H
      have c8b0 : decide (0 ≤ x3_1) = true:=decide_eq_true c8
      clear c8
      obtain ⟨t111,A9,H⟩:=bse H
      try dsimp only at H
      by_cases c10 : t111 = true
      ·subst c10
       have H1 : (if x3_1 ≤ (l0_0.length : Int) then ((spec_l3Find.f k1 (l0_0.take (x3_1 : Int).toNat) ((rd_T55 l0_0 x3_1).f0) ((rd_T55 l0_0 x3_1).f1)).bind fun t117=>(if t117 ≥ 0 then (some false) else (spec_MapOk.l0 k1 (wrap64 (x3_1 + 1)) l0_0))) else (none)) = some r:=by rw [if_pos rfl] at H;exact H
       clear H
       have H:=H1
       clear H1
       have c11b0:=eq_true (of_decide_eq_true da_ : 0 ≤ x3_1)
       by_cases c12 : x3_1 ≤ (l0_0.length : Int)
       ·rw [if_pos c12] at H
        have c12b0:=eq_true c12
        have c12b1 : decide (x3_1 ≤ (l0_0.length : Int)) = true:=decide_eq_true c12
        clear c12
        obtain ⟨y112,hy112⟩ : ∃ y_ : List (S55),y_ = (l0_0.take (x3_1 : Int).toNat):=⟨_,rfl⟩
        replace H : ((spec_l3Find.f k1 y112 ((rd_T55 l0_0 x3_1).f0) ((rd_T55 l0_0 x3_1).f1)).bind fun t117=>(if t117 ≥ 0 then (some false) else (spec_MapOk.l0 k1 (wrap64 (x3_1 + 1)) l0_0))) = some r:=by first | (rw [hy112];with_reducible exact H) | (have H2_:=(Option.bind_some _ _).symm.trans H;rw [hy112];with_reducible exact H2_) | (have H2_:=(Option.bind_some _ _).symm.trans H;with_reducible exact H2_) | with_reducible exact H | (rw [hy112];exact H) | exact H
        have Ny112:=am hy112
        clear hy112
        obtain ⟨t117,A13,H⟩:=bse H
        try dsimp only at H
        by_cases c14 : t117 ≥ 0
        ·rw [if_pos c14] at H
         have c14b0 : decide (0 ≤ t117) = true:=decide_eq_true c14
         clear c14
         obtain rfl:=Option.some.inj H
         have:=bcell BK109 0
         have:=bfz BK109 0
         try go_wp2
         replace BK109:=am (blk_drew BK109.out)
         replace HB:=am (below_drew1 HB.out)
         have p110 : 0 ≤ (x3_1 : Int):=of_decide_eq_true da_
         have q110 : x3_1 < (l0_0.length : Int):=of_decide_eq_true da_
         obtain ⟨ad110,e110,hx110_0,hx110_1⟩:=at_T55 HR0_0.out x3_1 p110 q110
         have hw110_1:=hx110_1
         have hw110_0:=hx110_0
         cases e110
         replace hx110_0:=bcl HB hx110_0
         replace hx110_1:=bcl HB hx110_1
         replace p110:=eq_true p110
         replace q110:=eq_true q110
         have p116 : 0 ≤ (x3_1 : Int):=of_decide_eq_true da_
         have q116 : x3_1 < (l0_0.length : Int):=of_decide_eq_true da_
         obtain ⟨ad116,e116,hx116_0,hx116_1⟩:=at_T55 HR0_0.out x3_1 p116 q116
         have hw116_1:=hx116_1
         have hw116_0:=hx116_0
         obtain rfl : ad110 = ad116:=(by injection e116)
         replace hx116_0:=bcl HB hx116_0
         replace hx116_1:=bcl HB hx116_1
         replace p116:=eq_true p116
         replace q116:=eq_true q116
         refine start_ (n:=21) (S:=fun w'=>w'.cell? ⟨gb109,0,none⟩ = some (.slice (some ad110) l0_0.length c0_0) ∧ w'.cell? (ad110.add ((x3_1).toNat * 2)) = some (.int .i64 ((rd_T55 l0_0 x3_1).f0)) ∧ w'.cell? ⟨(ad110.add ((x3_1).toNat * 2)).block,(ad110.add ((x3_1).toNat * 2)).off + 1,none⟩ = some (.int .i64 ((rd_T55 l0_0 x3_1).f1)) ∧ w'.cell? (ad110.add ((x3_1).toNat * 2)) = some (.int .i64 ((rd_T55 l0_0 x3_1).f0)) ∧ w'.cell? ⟨(ad110.add ((x3_1).toNat * 2)).block,(ad110.add ((x3_1).toNat * 2)).off + 1,none⟩ = some (.int .i64 ((rd_T55 l0_0 x3_1).f1))) (ds:=[]) #[false,false,false,false,false,false,false,false,false,false,false,false,false,false,false,false,false,false,false,false,false] (by kernel_rfl) rfl rfl ⟨bcell BK109 0,(bcl HB hw110_0),(bcl HB hw110_1),(bcl HB hw116_0),(bcl HB hw116_1)⟩ (fun hHeld=>?_);refine with_tabW spec_MapOk.tab6 spec_MapOk.bits6 (fun HT_ HW_=>?_)
         generalize wr.drew = w16 at BK109 HB hx110_0 hx110_1 hx116_0 hx116_1 hHeld ⊢
         refine pu_ 0 (some 15) (bm 21 1) ?_
         refine pu_ 2 (some 17) (bm 21 5) ?_
         refine tk_ 1 (some 16) (bm 21 7) rfl (.inl ⟨rfl,m15_⟩) ?_
         refine pu_ 3 (some 18) (bm 21 15) ?_
         refine tk_ 4 (some 19) (bm 21 31) rfl (.inl ⟨rfl,m15_⟩) ?_
         refine on_ 5 (some 20) (bm 21 63) (fun K hK=>?_)
         refine gR Tryz.func46 #[.agg #[.int .i64 ((rd_T55 l0_0 x3_1).f0),.int .i64 ((rd_T55 l0_0 x3_1).f1)]] ?_
         with_reducible refine (spec_EndInside.calls ((rd_T55 l0_0 x3_1).f0) ((rd_T55 l0_0 x3_1).f1) true _ A9.out).mono ?_
         rintro e w17 ⟨rfl,hb⟩
         refine ⟨_,rfl,?_⟩
         replace BK109:=bkB BK109 hb
         replace HB:=hbS HB hb
         (try clear hb)
         (try clear hb2)
         (try clear hk)
         (try clear hi)
         have q18 : (x3_1 : Int) ≤ ((l0_0.length : Int) : Int):=of_decide_eq_true da_
         obtain ⟨i018,hi018,_,hsz18,_⟩:=info_parts info55
         have hroom18 : l0_0.length ≤ c0_0:=HC0_0.out
         have hC18 : Kd.C k55 _ (some ad110) l0_0.length l0_0:=HR0_0.out
         have hcut18:=cut_to (P:=Tryz.prog) 27 55 .i64 Tryz.underlying27 hi018 (some ad110) l0_0.length c0_0 x3_1 (of_decide_eq_true da_) q18 hroom18
         have hr18:=Kd.C_take (m:=(x3_1 : Int).toNat) hC18 (by omega)
         have hy18 : y112.length = (x3_1 : Int).toNat:=(by rw [Ny112.out,List.length_take];omega)
         rw [← Ny112.out] at hr18
         rw [← hy18] at hcut18
         have HR115:=am hr18
         have HC115:=am (show y112.length ≤ c0_0 from by omega)
         clear hr18 hC18 hroom18 hi018 hsz18
         have KY18:=am hy18
         clear hy18
         replace q18:=eq_true q18
         refine hK.out _ _ ⟨bcell BK109 0,(bcl HB hw110_0),(bcl HB hw110_1),(bcl HB hw116_0),(bcl HB hw116_1)⟩ (fun hHeld=>?_)
         clear hK K
         refine nm_ ?_
         refine pu_ 6 (some 21) (bm 21 127) ?_
         refine pu_ 7 (some 22) (bm 21 255) ?_
         refine pu_ 8 (some 23) (bm 21 511) ?_
         refine pu_ 10 (some 25) (bm 21 1535) ?_
         refine pu_ 13 (some 28) (bm 21 9727) ?_
         refine pu_ 15 (some 30) (bm 21 42495) ?_
         refine tk_ 9 (some 24) (bm 21 43007) rfl (.inl ⟨rfl,m15_⟩) ?_
         refine pu_ 11 (some 26) (bm 21 45055) ?_
         refine pu_ 12 (some 27) (bm 21 49151) ?_
         refine tk_ 14 (some 29) (bm 21 65535) rfl (.inl ⟨rfl,m15_⟩) ?_
         refine pu_ 16 (some 31) (bm 21 131071) ?_
         refine tk_ 17 (some 32) (bm 21 262143) rfl (.inl ⟨rfl,m15_⟩) ?_
         refine on_ 18 (some 33) (bm 21 524287) (fun K hK=>?_)
         refine gR Tryz.func47 #[.agg #[.slice (some ad110) y112.length c0_0],.agg #[.int .i64 ((rd_T55 l0_0 x3_1).f0),.int .i64 ((rd_T55 l0_0 x3_1).f1)]] ?_
         with_reducible refine (spec_l3Find.calls k1 _ _ y112 ((rd_T55 l0_0 x3_1).f0) ((rd_T55 l0_0 x3_1).f1) t117 _ ?side1 ?side2 A13.out).mono ?_
         (case side1=>exact m14_)
         (case side2=>exact HC115.out)
         rintro e w19 ⟨rfl,hb⟩
         refine ⟨_,rfl,?_⟩
         replace BK109:=bkB BK109 hb
         replace HB:=hbS HB hb
         (try clear hb)
         (try clear hb2)
         (try clear hk)
         (try clear hi)
         refine hK.out _ _ ⟨bcell BK109 0,(bcl HB hw110_0),(bcl HB hw110_1),(bcl HB hw116_0),(bcl HB hw116_1)⟩ (fun hHeld=>?_)
         clear hK K
         refine nm_ ?_
         refine pu_ 19 (some 34) (bm 21 1048575) ?_
         refine pu_ 20 (some 35) (bm 21 2097151) ?_
         refine done_ (done_of HT_.out (by kernel_rfl)) ?_
         try go_wp2
         go_ret
         exact ⟨fi_,m2_⟩
        ·rw [if_neg c14] at H
         have c14b0 : decide (0 ≤ t117) = false:=decide_eq_false c14
         clear c14
         have H':=am H
         clear H
         have:=bcell BK109 0
         have:=bfz BK109 0
         try go_wp2
         replace BK109:=am (blk_drew BK109.out)
         replace HB:=am (below_drew1 HB.out)
         have p110 : 0 ≤ (x3_1 : Int):=of_decide_eq_true da_
         have q110 : x3_1 < (l0_0.length : Int):=of_decide_eq_true da_
         obtain ⟨ad110,e110,hx110_0,hx110_1⟩:=at_T55 HR0_0.out x3_1 p110 q110
         have hw110_1:=hx110_1
         have hw110_0:=hx110_0
         cases e110
         replace hx110_0:=bcl HB hx110_0
         replace hx110_1:=bcl HB hx110_1
         replace p110:=eq_true p110
         replace q110:=eq_true q110
         have p116 : 0 ≤ (x3_1 : Int):=of_decide_eq_true da_
         have q116 : x3_1 < (l0_0.length : Int):=of_decide_eq_true da_
         obtain ⟨ad116,e116,hx116_0,hx116_1⟩:=at_T55 HR0_0.out x3_1 p116 q116
         have hw116_1:=hx116_1
         have hw116_0:=hx116_0
         obtain rfl : ad110 = ad116:=(by injection e116)
         replace hx116_0:=bcl HB hx116_0
         replace hx116_1:=bcl HB hx116_1
         replace p116:=eq_true p116
         replace q116:=eq_true q116
         refine start_ (n:=21) (S:=fun w'=>w'.cell? ⟨gb109,0,none⟩ = some (.slice (some ad110) l0_0.length c0_0) ∧ w'.cell? (ad110.add ((x3_1).toNat * 2)) = some (.int .i64 ((rd_T55 l0_0 x3_1).f0)) ∧ w'.cell? ⟨(ad110.add ((x3_1).toNat * 2)).block,(ad110.add ((x3_1).toNat * 2)).off + 1,none⟩ = some (.int .i64 ((rd_T55 l0_0 x3_1).f1)) ∧ w'.cell? (ad110.add ((x3_1).toNat * 2)) = some (.int .i64 ((rd_T55 l0_0 x3_1).f0)) ∧ w'.cell? ⟨(ad110.add ((x3_1).toNat * 2)).block,(ad110.add ((x3_1).toNat * 2)).off + 1,none⟩ = some (.int .i64 ((rd_T55 l0_0 x3_1).f1))) (ds:=[]) #[false,false,false,false,false,false,false,false,false,false,false,false,false,false,false,false,false,false,false,false,false] (by kernel_rfl) rfl rfl ⟨bcell BK109 0,(bcl HB hw110_0),(bcl HB hw110_1),(bcl HB hw116_0),(bcl HB hw116_1)⟩ (fun hHeld=>?_);refine with_tabW spec_MapOk.tab6 spec_MapOk.bits6 (fun HT_ HW_=>?_)
         generalize wr.drew = w21 at BK109 HB hx110_0 hx110_1 hx116_0 hx116_1 hHeld ⊢
         refine pu_ 0 (some 15) (bm 21 1) ?_
         refine pu_ 2 (some 17) (bm 21 5) ?_
         refine tk_ 1 (some 16) (bm 21 7) rfl (.inl ⟨rfl,m15_⟩) ?_
         refine pu_ 3 (some 18) (bm 21 15) ?_
         refine tk_ 4 (some 19) (bm 21 31) rfl (.inl ⟨rfl,m15_⟩) ?_
         refine on_ 5 (some 20) (bm 21 63) (fun K hK=>?_)
         refine gR Tryz.func46 #[.agg #[.int .i64 ((rd_T55 l0_0 x3_1).f0),.int .i64 ((rd_T55 l0_0 x3_1).f1)]] ?_
         with_reducible refine (spec_EndInside.calls ((rd_T55 l0_0 x3_1).f0) ((rd_T55 l0_0 x3_1).f1) true _ A9.out).mono ?_
         rintro e w22 ⟨rfl,hb⟩
         refine ⟨_,rfl,?_⟩
         replace BK109:=bkB BK109 hb
         replace HB:=hbS HB hb
         (try clear hb)
         (try clear hb2)
         (try clear hk)
         (try clear hi)
         have q23 : (x3_1 : Int) ≤ ((l0_0.length : Int) : Int):=of_decide_eq_true da_
         obtain ⟨i023,hi023,_,hsz23,_⟩:=info_parts info55
         have hroom23 : l0_0.length ≤ c0_0:=HC0_0.out
         have hC23 : Kd.C k55 _ (some ad110) l0_0.length l0_0:=HR0_0.out
         have hcut23:=cut_to (P:=Tryz.prog) 27 55 .i64 Tryz.underlying27 hi023 (some ad110) l0_0.length c0_0 x3_1 (of_decide_eq_true da_) q23 hroom23
         have hr23:=Kd.C_take (m:=(x3_1 : Int).toNat) hC23 (by omega)
         have hy23 : y112.length = (x3_1 : Int).toNat:=(by rw [Ny112.out,List.length_take];omega)
         rw [← Ny112.out] at hr23
         rw [← hy23] at hcut23
         have HR115:=am hr23
         have HC115:=am (show y112.length ≤ c0_0 from by omega)
         clear hr23 hC23 hroom23 hi023 hsz23
         have KY23:=am hy23
         clear hy23
         replace q23:=eq_true q23
         refine hK.out _ _ ⟨bcell BK109 0,(bcl HB hw110_0),(bcl HB hw110_1),(bcl HB hw116_0),(bcl HB hw116_1)⟩ (fun hHeld=>?_)
         clear hK K
         refine nm_ ?_
         refine pu_ 6 (some 21) (bm 21 127) ?_
         refine pu_ 7 (some 22) (bm 21 255) ?_
         refine pu_ 8 (some 23) (bm 21 511) ?_
         refine pu_ 10 (some 25) (bm 21 1535) ?_
         refine pu_ 13 (some 28) (bm 21 9727) ?_
         refine pu_ 15 (some 30) (bm 21 42495) ?_
         refine tk_ 9 (some 24) (bm 21 43007) rfl (.inl ⟨rfl,m15_⟩) ?_
         refine pu_ 11 (some 26) (bm 21 45055) ?_
         refine pu_ 12 (some 27) (bm 21 49151) ?_
         refine tk_ 14 (some 29) (bm 21 65535) rfl (.inl ⟨rfl,m15_⟩) ?_
         refine pu_ 16 (some 31) (bm 21 131071) ?_
         refine tk_ 17 (some 32) (bm 21 262143) rfl (.inl ⟨rfl,m15_⟩) ?_
         refine on_ 18 (some 33) (bm 21 524287) (fun K hK=>?_)
         refine gR Tryz.func47 #[.agg #[.slice (some ad110) y112.length c0_0],.agg #[.int .i64 ((rd_T55 l0_0 x3_1).f0),.int .i64 ((rd_T55 l0_0 x3_1).f1)]] ?_
         with_reducible refine (spec_l3Find.calls k1 _ _ y112 ((rd_T55 l0_0 x3_1).f0) ((rd_T55 l0_0 x3_1).f1) t117 _ ?side1 ?side2 A13.out).mono ?_
         (case side1=>exact m14_)
         (case side2=>exact HC115.out)
         rintro e w24 ⟨rfl,hb⟩
         refine ⟨_,rfl,?_⟩
         replace BK109:=bkB BK109 hb
         replace HB:=hbS HB hb
         (try clear hb)
         (try clear hb2)
         (try clear hk)
         (try clear hi)
         refine hK.out _ _ ⟨bcell BK109 0,(bcl HB hw110_0),(bcl HB hw110_1),(bcl HB hw116_0),(bcl HB hw116_1)⟩ (fun hHeld=>?_)
         clear hK K
         refine nm_ ?_
         refine pu_ 19 (some 34) (bm 21 1048575) ?_
         refine pu_ 20 (some 35) (bm 21 2097151) ?_
         refine done_ (done_of HT_.out (by kernel_rfl)) ?_
         try go_wp2
         go_roundg k1
         case measure=>have:=HK1.out;omega
         case rel=>exact ⟨(wrap64 (x3_1 + 1)),rs_,H',⟨by have:=HK1.out;omega⟩,⟨bk BK109⟩,⟨m2_⟩⟩
       ·rw [if_neg c12] at H
        exact absurd H (by simp)
      ·replace c10:=Bool.eq_false_iff.mpr c10
       subst c10
       have H1 : (some false) = some r:=by rw [if_neg (show ¬ (false = true) by decide)] at H;exact H
       clear H
       have H:=H1
       clear H1
       obtain rfl:=Option.some.inj H
       have:=bcell BK109 0
       have:=bfz BK109 0
       try go_wp2
       replace BK109:=am (blk_drew BK109.out)
       replace HB:=am (below_drew1 HB.out)
       have p110 : 0 ≤ (x3_1 : Int):=of_decide_eq_true da_
       have q110 : x3_1 < (l0_0.length : Int):=of_decide_eq_true da_
       obtain ⟨ad110,e110,hx110_0,hx110_1⟩:=at_T55 HR0_0.out x3_1 p110 q110
       have hw110_1:=hx110_1
       have hw110_0:=hx110_0
       cases e110
       replace hx110_0:=bcl HB hx110_0
       replace hx110_1:=bcl HB hx110_1
       replace p110:=eq_true p110
       replace q110:=eq_true q110
       refine start_ (n:=21) (S:=fun w'=>w'.cell? ⟨gb109,0,none⟩ = some (.slice (some ad110) l0_0.length c0_0) ∧ w'.cell? (ad110.add ((x3_1).toNat * 2)) = some (.int .i64 ((rd_T55 l0_0 x3_1).f0)) ∧ w'.cell? ⟨(ad110.add ((x3_1).toNat * 2)).block,(ad110.add ((x3_1).toNat * 2)).off + 1,none⟩ = some (.int .i64 ((rd_T55 l0_0 x3_1).f1))) (ds:=[]) #[false,false,false,false,false,false,false,false,false,false,false,false,false,false,false,false,false,false,false,false,false] (by kernel_rfl) rfl rfl ⟨bcell BK109 0,(bcl HB hw110_0),(bcl HB hw110_1)⟩ (fun hHeld=>?_);refine with_tabW spec_MapOk.tab6 spec_MapOk.bits6 (fun HT_ HW_=>?_)
       generalize wr.drew = w26 at BK109 HB hx110_0 hx110_1 hHeld ⊢
       refine pu_ 0 (some 15) (bm 21 1) ?_
       refine pu_ 2 (some 17) (bm 21 5) ?_
       refine tk_ 1 (some 16) (bm 21 7) rfl (.inl ⟨rfl,m7_⟩) ?_
       refine pu_ 3 (some 18) (bm 21 15) ?_
       refine tk_ 4 (some 19) (bm 21 31) rfl (.inl ⟨rfl,m7_⟩) ?_
       refine on_ 5 (some 20) (bm 21 63) (fun K hK=>?_)
       refine gR Tryz.func46 #[.agg #[.int .i64 ((rd_T55 l0_0 x3_1).f0),.int .i64 ((rd_T55 l0_0 x3_1).f1)]] ?_
       with_reducible refine (spec_EndInside.calls ((rd_T55 l0_0 x3_1).f0) ((rd_T55 l0_0 x3_1).f1) false _ A9.out).mono ?_
       rintro e w27 ⟨rfl,hb⟩
       refine ⟨_,rfl,?_⟩
       replace BK109:=bkB BK109 hb
       replace HB:=hbS HB hb
       (try clear hb)
       (try clear hb2)
       (try clear hk)
       (try clear hi)
       refine hK.out _ _ ⟨bcell BK109 0,(bcl HB hw110_0),(bcl HB hw110_1)⟩ (fun hHeld=>?_)
       clear hK K
       refine nm_ ?_
       refine pu_ 6 (some 21) (bm 21 127) ?_
       refine pu_ 7 (some 22) (bm 21 255) ?_
       refine pv_ 8 (some 23) (bm 21 511) ?_
       refine pv_ 9 (some 24) (bm 21 1023) ?_
       refine pv_ 10 (some 25) (bm 21 2047) ?_
       refine pv_ 11 (some 26) (bm 21 4095) ?_
       refine pv_ 12 (some 27) (bm 21 8191) ?_
       refine pv_ 13 (some 28) (bm 21 16383) ?_
       refine pv_ 14 (some 29) (bm 21 32767) ?_
       refine pv_ 15 (some 30) (bm 21 65535) ?_
       refine pv_ 16 (some 31) (bm 21 131071) ?_
       refine pv_ 17 (some 32) (bm 21 262143) ?_
       refine pv_ 18 (some 33) (bm 21 524287) ?_
       refine pv_ 19 (some 34) (bm 21 1048575) ?_
       refine pu_ 20 (some 35) (bm 21 2097151) ?_
       refine done_ (done_of HT_.out (by kernel_rfl)) ?_
       try go_wp2
       go_ret
       exact ⟨fi_,m2_⟩
     ·rw [if_neg c8] at H
      exact absurd H (by simp)
    ·rw [if_neg c7] at H
     have c7b0 : decide (x3_1 < (l0_0.length : Int)) = false:=decide_eq_false c7
     clear c7
     obtain rfl:=Option.some.inj H
     have:=bcell BK109 0
     have:=bfz BK109 0
     go_wp2
     go_ret
     exact ⟨fi_,m2_⟩
def spec_MapPort.f (k : Nat) (l0_0 : List (S55)) (a1_0 : Int) (a1_1 : Int) : Option (Int):=(spec_l3Find.f k l0_0 a1_0 a1_1).bind fun t173=>(if t173 < 0 then (some 0) else (some (wrap64 (500 + t173))))
theorem spec_MapPort.mono : ∀ a0 a1 a2 k,LeO (spec_MapPort.f k a0 a1 a2) (spec_MapPort.f (k + 1) a0 a1 a2):=by
 intro a0 a1 a2 k
 unfold spec_MapPort.f
 repeat' first | (with_reducible first | exact spec_l3Find.mono _ _ _ _ | exact LeO.refl _ | exact LeO.none _ | refine LeO.ite ?_ ?_ | refine LeO.bind ?_ (fun _=>?_)) | exact spec_l3Find.mono _ _ _ _ | exact LeO.none _ | refine LeO.ite ?_ ?_ | refine LeO.bind ?_ (fun _=>?_)
set_option maxHeartbeats 8000000 in
set_option maxRecDepth 100000 in
theorem spec_MapPort.calls (k : Nat) (A0_0 : Option Addr) (c0_0 : Nat) (l0_0 : List (S55)) (a1_0 : Int) (a1_1 : Int) (r : Int) (w : World) (hr0_0 : Kd.C k55 w A0_0 l0_0.length l0_0) (hc0_0 : l0_0.length ≤ c0_0) (h : spec_MapPort.f k l0_0 a1_0 a1_1 = some r) :
  Calls Tryz.prog 128 #[.agg #[.slice A0_0 l0_0.length c0_0],.agg #[.int .i64 a1_0,.int .i64 a1_1]] w fun e w'=>e = .returned (.int .i64 r) ∧ Below w.heap.size w w':=by
 have hu29:=Tryz.underlying29
 have hu55:=Tryz.underlying55
 have HR0_0:=am hr0_0
 have HC0_0:=am hc0_0
 clear hr0_0 hc0_0
 have HB:=am (Below.refl w.heap.size w)
 have H : ((spec_l3Find.f k l0_0 a1_0 a1_1).bind fun t173=>(if t173 < 0 then (some 0) else (some (wrap64 (500 + t173))))) = some r:=h
 clear h
 obtain ⟨t173,A3,H⟩:=bse H
 try dsimp only at H
 by_cases c4 : t173 < 0
 ·rw [if_pos c4] at H
  have c4b0 : decide (t173 < 0) = true:=decide_eq_true c4
  clear c4
  obtain rfl:=Option.some.inj H
  go_enter Tryz.func128,Tryz.ntmps128
  go_wp2_with (first | ((with_reducible refine gD 2 rfl ?_);refine box_event rfl (N:=2) rfl (cs:=#[.slice A0_0 l0_0.length c0_0]) (t:=29) hr_ ?_;intro gb171 hg w5 hbox hb;have BK171:=am hbox;have GW171:=gwE HB hg;have GE171:=gwE HB hg;replace HB:=hbS HB hb;clear hb hbox hg) | ((with_reducible refine gD 3 rfl ?_);refine box_event rfl (N:=3) rfl (cs:=#[.int .i64 a1_0,.int .i64 a1_1]) (t:=55) hr_ ?_;intro gb172 hg w6 hbox hb;have BK172:=am hbox;have GW172:=gwE HB hg;have GE172:=gwE HB hg;replace HB:=hbS HB hb;have NB171_172:=neL BK171 hg;have NB172_171:=neG BK171 hg;replace BK171:=bkB BK171 hb;clear hb hbox hg;have:=NB171_172.out;have:=NB172_171.out;have:=bcell BK171 0;have:=bfz BK171 0;have:=bcell BK172 0;have:=bcell BK172 1;have:=bfz BK172 0;have:=bfz BK172 1) | ((with_reducible refine gC 47 rfl ?_);refine gL (some 8) Tryz.func47 #[.agg #[.slice A0_0 l0_0.length c0_0],.agg #[.int .i64 a1_0,.int .i64 a1_1]] ?_;(with_reducible refine (spec_l3Find.calls k _ _ l0_0 a1_0 a1_1 t173 _ ?side1 ?side2 A3.out).mono ?_);(case side1=>exact m3_);(case side2=>exact HC0_0.out);rintro e w10 ⟨rfl,hb⟩;refine ⟨_,rfl,?_⟩;replace BK171:=bkB BK171 hb;replace BK172:=bkB BK172 hb;replace HB:=hbS HB hb;(try clear hb)))
  go_ret
  exact ⟨fi_,m2_⟩
 ·rw [if_neg c4] at H
  have c4b0 : decide (t173 < 0) = false:=decide_eq_false c4
  clear c4
  obtain rfl:=Option.some.inj H
  go_enter Tryz.func128,Tryz.ntmps128
  go_wp2_with (first | ((with_reducible refine gD 2 rfl ?_);refine box_event rfl (N:=2) rfl (cs:=#[.slice A0_0 l0_0.length c0_0]) (t:=29) hr_ ?_;intro gb171 hg w11 hbox hb;have BK171:=am hbox;have GW171:=gwE HB hg;have GE171:=gwE HB hg;replace HB:=hbS HB hb;clear hb hbox hg) | ((with_reducible refine gD 3 rfl ?_);refine box_event rfl (N:=3) rfl (cs:=#[.int .i64 a1_0,.int .i64 a1_1]) (t:=55) hr_ ?_;intro gb172 hg w12 hbox hb;have BK172:=am hbox;have GW172:=gwE HB hg;have GE172:=gwE HB hg;replace HB:=hbS HB hb;have NB171_172:=neL BK171 hg;have NB172_171:=neG BK171 hg;replace BK171:=bkB BK171 hb;clear hb hbox hg;have:=NB171_172.out;have:=NB172_171.out;have:=bcell BK171 0;have:=bfz BK171 0;have:=bcell BK172 0;have:=bcell BK172 1;have:=bfz BK172 0;have:=bfz BK172 1) | ((with_reducible refine gC 47 rfl ?_);refine gL (some 8) Tryz.func47 #[.agg #[.slice A0_0 l0_0.length c0_0],.agg #[.int .i64 a1_0,.int .i64 a1_1]] ?_;(with_reducible refine (spec_l3Find.calls k _ _ l0_0 a1_0 a1_1 t173 _ ?side1 ?side2 A3.out).mono ?_);(case side1=>exact m3_);(case side2=>exact HC0_0.out);rintro e w16 ⟨rfl,hb⟩;refine ⟨_,rfl,?_⟩;replace BK171:=bkB BK171 hb;replace BK172:=bkB BK172 hb;replace HB:=hbS HB hb;(try clear hb)))
  go_ret
  exact ⟨fi_,m2_⟩
def spec_l3Put.f (k : Nat) (l0_0 : List (S55)) (a1_0 : Int) (a1_1 : Int) : Option ((List (S55)) × Int):=(spec_MapPort.f k l0_0 a1_0 a1_1).bind fun t177=>(if t177 > 0 then (some (l0_0,t177)) else (if (l0_0.length : Int) = 6 then (some (l0_0,0)) else ((some (([] : List (S55)) : List (S55))).bind fun y178=>(if y178.length + l0_0.length < 8796093022208 then ((some (y178 ++ l0_0 : List (S55))).bind fun y181=>((some (([(⟨a1_0,a1_1⟩ : S55)] : List (S55)) : List (S55))).bind fun y184=>(if y181.length + y184.length < 8796093022208 then ((some (y181 ++ y184 : List (S55))).bind fun y187=>(some (y187,wrap64 ((wrap64 (500 + (y187.length : Int))) - 1)))) else (none)))) else (none)))))
theorem spec_l3Put.mono : ∀ a0 a1 a2 k,LeO (spec_l3Put.f k a0 a1 a2) (spec_l3Put.f (k + 1) a0 a1 a2):=by
 intro a0 a1 a2 k
 unfold spec_l3Put.f
 repeat' first | (with_reducible first | exact spec_MapPort.mono _ _ _ _ | exact LeO.refl _ | exact LeO.none _ | refine LeO.ite ?_ ?_ | refine LeO.bind ?_ (fun _=>?_)) | exact spec_MapPort.mono _ _ _ _ | exact LeO.none _ | refine LeO.ite ?_ ?_ | refine LeO.bind ?_ (fun _=>?_)
def spec_l3Put.T6 : Bool × List (List Nat × List Nat):=(true,[([],[]),([],[]),([1],[1]),([0,2],[0,2]),([],[]),([4],[4]),([3,5,3],[3,5]),([0,1,2,3,4,5,6],[]),([7,6,6,0,1,2,3,4,5,6],[6,7])])
def spec_l3Put.B6 : List Nat:=[0,0,2,7,0,16,63,127,255]
theorem spec_l3Put.tab6 : rtab .any (opsOf Tryz.f112 6) = spec_l3Put.T6:=by kernel_rfl
theorem spec_l3Put.bits6 : waitsOk spec_l3Put.T6.2 spec_l3Put.B6 = true:=by kernel_rfl
def spec_l3Put.T7 : Bool × List (List Nat × List Nat):=(true,[([],[]),([],[]),([1],[1]),([2],[2]),([3],[3]),([4],[4]),([0,0],[0]),([5,6,0,1,2,3,4,5,6],[5])])
def spec_l3Put.B7 : List Nat:=[0,0,2,6,14,30,1,127]
theorem spec_l3Put.tab7 : rtab .any (opsOf Tryz.f112 7) = spec_l3Put.T7:=by kernel_rfl
theorem spec_l3Put.bits7 : waitsOk spec_l3Put.T7.2 spec_l3Put.B7 = true:=by kernel_rfl
set_option maxHeartbeats 8000000 in
set_option maxRecDepth 100000 in
theorem spec_l3Put.calls (k : Nat) (P0_0_ : Nat → Prop) (u9000_ : Value) (l0_0 : List (S55)) (a1_0 : Int) (a1_1 : Int) (r1 : List (S55)) (r2 : Int) (w0 w : World) (hB : Below w0.heap.size w0 w) (ho0_0 : Kd.R k55 55 w w0.heap.size P0_0_ u9000_ l0_0) (h : spec_l3Put.f k l0_0 a1_0 a1_1 = some (r1,r2)) :
  Calls Tryz.prog 112 #[.agg #[u9000_],.agg #[.int .i64 a1_0,.int .i64 a1_1]] w fun e w'=>∃ v0_ : Value,e = .returned (.tuple #[.agg #[v0_],.int .i64 r2]) ∧ Kd.R k55 55 w' w0.heap.size (fun k_=>(P0_0_ k_ ∨ w.heap.size ≤ k_)) v0_ r1 ∧ Below w0.heap.size w0 w' ∧ Kept w w' (fun k_=>P0_0_ k_):=by
 have hu29:=Tryz.underlying29
 have hu55:=Tryz.underlying55
 have HO0_0:=am (show Kd.R k55 55 w w0.heap.size (fun k_=>(P0_0_ k_ ∨ w.heap.size ≤ k_)) u9000_ l0_0 from Kd.R_mono ho0_0 (fun k_ hk=>(.inl hk)))
 have HK:=am (Kept.refl w (fun k_=>P0_0_ k_))
 have HW0:=am hB.size
 have HB:=am hB
 clear hB
 have H : ((spec_MapPort.f k l0_0 a1_0 a1_1).bind fun t177=>(if t177 > 0 then (some (l0_0,t177)) else (if (l0_0.length : Int) = 6 then (some (l0_0,0)) else ((some (([] : List (S55)) : List (S55))).bind fun y178=>(if y178.length + l0_0.length < 8796093022208 then ((some (y178 ++ l0_0 : List (S55))).bind fun y181=>((some (([(⟨a1_0,a1_1⟩ : S55)] : List (S55)) : List (S55))).bind fun y184=>(if y181.length + y184.length < 8796093022208 then ((some (y181 ++ y184 : List (S55))).bind fun y187=>(some (y187,wrap64 ((wrap64 (500 + (y187.length : Int))) - 1)))) else (none)))) else (none)))))) = some (r1,r2):=h
 clear h
 obtain ⟨t177,A3,H⟩:=bse H
 try dsimp only at H
 by_cases c4 : t177 > 0
 ·rw [if_pos c4] at H
  have c4b0 : decide (0 < t177) = true:=decide_eq_true c4
  clear c4
  simp only [Option.some.injEq,Prod.mk.injEq] at H
  obtain ⟨rfl,rfl⟩:=H
  obtain ⟨Ao5,co5,eo5⟩:=Kd.R_slice HO0_0.out
  subst eo5
  go_enter Tryz.func112,Tryz.ntmps112
  go_wp2_with (first | ((with_reducible refine gD 2 rfl ?_);refine box_event rfl (N:=2) rfl (cs:=#[.slice Ao5 l0_0.length co5]) (t:=29) hr_ ?_;intro gb174 hg w6 hbox hb;replace HO0_0:=am (Kd.R_below (rs HO0_0) hb);have BK174:=am hbox;have GW174:=am ((by rw [hg];exact (by first | exact HK.out.1 | exact (show Kept w _ (fun k_=>P0_0_ k_) from m5_).1) : w.heap.size ≤ gb174));replace HK:=am (Kept.below (S:=(fun k_=>P0_0_ k_)) m5_ hb);have GE174:=gwE HB hg;replace HB:=hbS HB hb;clear hb hbox hg) | ((with_reducible refine gD 3 rfl ?_);refine box_event rfl (N:=3) rfl (cs:=#[.int .i64 a1_0,.int .i64 a1_1]) (t:=55) hr_ ?_;intro gb175 hg w7 hbox hb;replace HO0_0:=am (Kd.R_below (Kd.R_elderB (rs HO0_0) gb175 (Nat.le_of_eq hg.symm)) hb);have BK175:=am hbox;have GW175:=am ((by rw [hg];exact (by first | exact HK.out.1 | exact (show Kept w _ (fun k_=>P0_0_ k_) from m6_).1) : w.heap.size ≤ gb175));replace HK:=am (Kept.below (S:=(fun k_=>P0_0_ k_)) m6_ hb);have GE175:=gwE HB hg;replace HB:=hbS HB hb;have NB174_175:=neL BK174 hg;have NB175_174:=neG BK174 hg;replace BK174:=bkB BK174 hb;clear hb hbox hg) | ((with_reducible refine gD 4 rfl ?_);refine box_event rfl (N:=4) rfl (cs:=#[.slice none 0 0]) (t:=29) hr_ ?_;intro gb176 hg w8 hbox hb;replace HO0_0:=am (Kd.R_below (rs HO0_0) hb);have BK176:=am hbox;have GW176:=am ((by rw [hg];exact (by first | exact HK.out.1 | exact (show Kept w _ (fun k_=>P0_0_ k_) from m6_).1) : w.heap.size ≤ gb176));replace HK:=am (Kept.below (S:=(fun k_=>P0_0_ k_)) m6_ hb);have GE176:=gwE HB hg;replace HB:=hbS HB hb;have NB174_176:=neL BK174 hg;have NB176_174:=neG BK174 hg;replace BK174:=bkB BK174 hb;have NB175_176:=neL BK175 hg;have NB176_175:=neG BK175 hg;replace BK175:=bkB BK175 hb;clear hb hbox hg;have:=NB174_175.out;have:=NB175_174.out;have:=NB174_176.out;have:=NB176_174.out;have:=bcell BK174 0;have:=bfz BK174 0;have:=NB175_176.out;have:=NB176_175.out;have:=bcell BK175 0;have:=bcell BK175 1;have:=bfz BK175 0;have:=bfz BK175 1) | ((with_reducible refine gC 128 rfl ?_);refine gL (some 9) Tryz.func128 #[.agg #[.slice Ao5 l0_0.length co5],.agg #[.int .i64 a1_0,.int .i64 a1_1]] ?_;(with_reducible refine (spec_MapPort.calls k _ _ l0_0 a1_0 a1_1 t177 _ ?side1 ?side2 A3.out).mono ?_);(case side1=>exact rcx HO0_0);(case side2=>exact (Kd.R_reads' HO0_0.out).2.1);rintro e w14 ⟨rfl,hb⟩;refine ⟨_,rfl,?_⟩;replace HO0_0:=am (Kd.R_below (rs HO0_0) hb);replace BK174:=bkB BK174 hb;replace BK175:=bkB BK175 hb;replace BK176:=bkB BK176 hb;replace HK:=am (Kept.below (S:=(fun k_=>P0_0_ k_)) m6_ hb);replace HB:=hbS HB hb;(try clear hb);have:=bcell BK174 0;have:=bfz BK174 0;have:=bcell BK176 0;have:=bfz BK176 0))
  refine bodyPost_ret (results_ct rfl _ _ gb176 29 #[.slice Ao5 l0_0.length co5] (0,0) _ rfl (by (with_reducible repeat refine bu ?_);refine blk_put (cs:=#[.slice none 0 0]) ?_ 0 _ rfl;(with_reducible repeat refine bu ?_);exact BK176.out) Tryz.underlying29 rfl (by kernel_rfl)) rfl ?_
  exact ⟨_,fi_,by (with_reducible repeat apply ru);exact Kd.R_mono (Kd.R_far (p:=⟨gb176,0,none⟩) (Kd.R_types HO0_0.out BK176.out (by decide)) (fun _ hk=>hk.2) (.slice Ao5 l0_0.length co5)) (fun _ hk=>hk.1.1),m2_,m6_⟩
 ·rw [if_neg c4] at H
  have c4b0 : decide (0 < t177) = false:=decide_eq_false c4
  clear c4
  by_cases c17 : (l0_0.length : Int) = 6
  ·rw [if_pos c17] at H
   have c17b0 : ((l0_0.length : Int) == 6) = true:=beq_iff_eq.mpr c17
   have c17b1 : ((l0_0.length : Int) != 6) = false:=bne_eq_false_iff_eq.mpr c17
   clear c17
   simp only [Option.some.injEq,Prod.mk.injEq] at H
   obtain ⟨rfl,rfl⟩:=H
   obtain ⟨Ao18,co18,eo18⟩:=Kd.R_slice HO0_0.out
   subst eo18
   go_enter Tryz.func112,Tryz.ntmps112
   go_wp2_with (first | ((with_reducible refine gD 2 rfl ?_);refine box_event rfl (N:=2) rfl (cs:=#[.slice Ao18 l0_0.length co18]) (t:=29) hr_ ?_;intro gb174 hg w19 hbox hb;replace HO0_0:=am (Kd.R_below (rs HO0_0) hb);have BK174:=am hbox;have GW174:=am ((by rw [hg];exact (by first | exact HK.out.1 | exact (show Kept w _ (fun k_=>P0_0_ k_) from m5_).1) : w.heap.size ≤ gb174));replace HK:=am (Kept.below (S:=(fun k_=>P0_0_ k_)) m5_ hb);have GE174:=gwE HB hg;replace HB:=hbS HB hb;clear hb hbox hg) | ((with_reducible refine gD 3 rfl ?_);refine box_event rfl (N:=3) rfl (cs:=#[.int .i64 a1_0,.int .i64 a1_1]) (t:=55) hr_ ?_;intro gb175 hg w20 hbox hb;replace HO0_0:=am (Kd.R_below (Kd.R_elderB (rs HO0_0) gb175 (Nat.le_of_eq hg.symm)) hb);have BK175:=am hbox;have GW175:=am ((by rw [hg];exact (by first | exact HK.out.1 | exact (show Kept w _ (fun k_=>P0_0_ k_) from m6_).1) : w.heap.size ≤ gb175));replace HK:=am (Kept.below (S:=(fun k_=>P0_0_ k_)) m6_ hb);have GE175:=gwE HB hg;replace HB:=hbS HB hb;have NB174_175:=neL BK174 hg;have NB175_174:=neG BK174 hg;replace BK174:=bkB BK174 hb;clear hb hbox hg) | ((with_reducible refine gD 4 rfl ?_);refine box_event rfl (N:=4) rfl (cs:=#[.slice none 0 0]) (t:=29) hr_ ?_;intro gb176 hg w21 hbox hb;replace HO0_0:=am (Kd.R_below (rs HO0_0) hb);have BK176:=am hbox;have GW176:=am ((by rw [hg];exact (by first | exact HK.out.1 | exact (show Kept w _ (fun k_=>P0_0_ k_) from m6_).1) : w.heap.size ≤ gb176));replace HK:=am (Kept.below (S:=(fun k_=>P0_0_ k_)) m6_ hb);have GE176:=gwE HB hg;replace HB:=hbS HB hb;have NB174_176:=neL BK174 hg;have NB176_174:=neG BK174 hg;replace BK174:=bkB BK174 hb;have NB175_176:=neL BK175 hg;have NB176_175:=neG BK175 hg;replace BK175:=bkB BK175 hb;clear hb hbox hg;have:=NB174_175.out;have:=NB175_174.out;have:=NB174_176.out;have:=NB176_174.out;have:=bcell BK174 0;have:=bfz BK174 0;have:=NB175_176.out;have:=NB176_175.out;have:=bcell BK175 0;have:=bcell BK175 1;have:=bfz BK175 0;have:=bfz BK175 1) | ((with_reducible refine gC 128 rfl ?_);refine gL (some 9) Tryz.func128 #[.agg #[.slice Ao18 l0_0.length co18],.agg #[.int .i64 a1_0,.int .i64 a1_1]] ?_;(with_reducible refine (spec_MapPort.calls k _ _ l0_0 a1_0 a1_1 t177 _ ?side1 ?side2 A3.out).mono ?_);(case side1=>exact rcx HO0_0);(case side2=>exact (Kd.R_reads' HO0_0.out).2.1);rintro e w27 ⟨rfl,hb⟩;refine ⟨_,rfl,?_⟩;replace HO0_0:=am (Kd.R_below (rs HO0_0) hb);replace BK174:=bkB BK174 hb;replace BK175:=bkB BK175 hb;replace BK176:=bkB BK176 hb;replace HK:=am (Kept.below (S:=(fun k_=>P0_0_ k_)) m6_ hb);replace HB:=hbS HB hb;(try clear hb);have:=bcell BK174 0;have:=bfz BK174 0;have:=bcell BK176 0;have:=bfz BK176 0))
   refine bodyPost_ret (results_ct rfl _ _ gb176 29 #[.slice Ao18 l0_0.length co18] (0,0) _ rfl (by (with_reducible repeat refine bu ?_);refine blk_put (cs:=#[.slice none 0 0]) ?_ 0 _ rfl;(with_reducible repeat refine bu ?_);exact BK176.out) Tryz.underlying29 rfl (by kernel_rfl)) rfl ?_
   exact ⟨_,fi_,by (with_reducible repeat apply ru);exact Kd.R_mono (Kd.R_far (p:=⟨gb176,0,none⟩) (Kd.R_types HO0_0.out BK176.out (by decide)) (fun _ hk=>hk.2) (.slice Ao18 l0_0.length co18)) (fun _ hk=>hk.1.1),m2_,m6_⟩
  ·rw [if_neg c17] at H
   have c17b0 : ((l0_0.length : Int) == 6) = false:=beq_eq_false_iff_ne.mpr c17
   have c17b1 : ((l0_0.length : Int) != 6) = true:=bne_iff_ne.mpr c17
   obtain ⟨y178,hy178⟩ : ∃ y_ : List (S55),y_ = (([] : List (S55))):=⟨_,rfl⟩
   replace H : (if y178.length + l0_0.length < 8796093022208 then ((some (y178 ++ l0_0 : List (S55))).bind fun y181=>((some (([(⟨a1_0,a1_1⟩ : S55)] : List (S55)) : List (S55))).bind fun y184=>(if y181.length + y184.length < 8796093022208 then ((some (y181 ++ y184 : List (S55))).bind fun y187=>(some (y187,wrap64 ((wrap64 (500 + (y187.length : Int))) - 1)))) else (none)))) else (none)) = some (r1,r2):=by first | (rw [hy178];with_reducible exact H) | (have H2_:=(Option.bind_some _ _).symm.trans H;rw [hy178];with_reducible exact H2_) | (have H2_:=(Option.bind_some _ _).symm.trans H;with_reducible exact H2_) | with_reducible exact H | (rw [hy178];exact H) | exact H
   have Ny178:=am hy178
   clear hy178
   by_cases c30 : y178.length + l0_0.length < 8796093022208
   ·rw [if_pos c30] at H
    have LMc30:=am c30
    clear c30
    obtain ⟨y181,hy181⟩ : ∃ y_ : List (S55),y_ = (y178 ++ l0_0):=⟨_,rfl⟩
    replace H : ((some (([(⟨a1_0,a1_1⟩ : S55)] : List (S55)) : List (S55))).bind fun y184=>(if y181.length + y184.length < 8796093022208 then ((some (y181 ++ y184 : List (S55))).bind fun y187=>(some (y187,wrap64 ((wrap64 (500 + (y187.length : Int))) - 1)))) else (none))) = some (r1,r2):=by first | (rw [hy181];with_reducible exact H) | (have H2_:=(Option.bind_some _ _).symm.trans H;rw [hy181];with_reducible exact H2_) | (have H2_:=(Option.bind_some _ _).symm.trans H;with_reducible exact H2_) | with_reducible exact H | (rw [hy181];exact H) | exact H
    have Ny181:=am hy181
    clear hy181
    obtain ⟨y184,hy184⟩ : ∃ y_ : List (S55),y_ = (([(⟨a1_0,a1_1⟩ : S55)] : List (S55))):=⟨_,rfl⟩
    replace H : (if y181.length + y184.length < 8796093022208 then ((some (y181 ++ y184 : List (S55))).bind fun y187=>(some (y187,wrap64 ((wrap64 (500 + (y187.length : Int))) - 1)))) else (none)) = some (r1,r2):=by first | (rw [hy184];with_reducible exact H) | (have H2_:=(Option.bind_some _ _).symm.trans H;rw [hy184];with_reducible exact H2_) | (have H2_:=(Option.bind_some _ _).symm.trans H;with_reducible exact H2_) | with_reducible exact H | (rw [hy184];exact H) | exact H
    have Ny184:=am hy184
    clear hy184
    by_cases c31 : y181.length + y184.length < 8796093022208
    ·rw [if_pos c31] at H
     have LMc31:=am c31
     clear c31
     obtain ⟨y187,hy187⟩ : ∃ y_ : List (S55),y_ = (y181 ++ y184):=⟨_,rfl⟩
     replace H : (some (y187,wrap64 ((wrap64 (500 + (y187.length : Int))) - 1))) = some (r1,r2):=by first | (rw [hy187];with_reducible exact H) | (have H2_:=(Option.bind_some _ _).symm.trans H;rw [hy187];with_reducible exact H2_) | (have H2_:=(Option.bind_some _ _).symm.trans H;with_reducible exact H2_) | with_reducible exact H | (rw [hy187];exact H) | exact H
     have Ny187:=am hy187
     clear hy187
     simp only [Option.some.injEq,Prod.mk.injEq] at H
     obtain ⟨rfl,rfl⟩:=H
     obtain ⟨Ao32,co32,eo32⟩:=Kd.R_slice HO0_0.out
     subst eo32
     go_enter Tryz.func112,Tryz.ntmps112
     try go_wp2_with (first | ((with_reducible refine gD 2 rfl ?_);refine box_event rfl (N:=2) rfl (cs:=#[.slice Ao32 l0_0.length co32]) (t:=29) hr_ ?_;intro gb174 hg w33 hbox hb;replace HO0_0:=am (Kd.R_below (rs HO0_0) hb);have BK174:=am hbox;have GW174:=am ((by rw [hg];exact (by first | exact HK.out.1 | exact (show Kept w _ (fun k_=>P0_0_ k_) from m5_).1) : w.heap.size ≤ gb174));replace HK:=am (Kept.below (S:=(fun k_=>P0_0_ k_)) m5_ hb);have GE174:=gwE HB hg;replace HB:=hbS HB hb;clear hb hbox hg) | ((with_reducible refine gD 3 rfl ?_);refine box_event rfl (N:=3) rfl (cs:=#[.int .i64 a1_0,.int .i64 a1_1]) (t:=55) hr_ ?_;intro gb175 hg w34 hbox hb;replace HO0_0:=am (Kd.R_below (Kd.R_elderB (rs HO0_0) gb175 (Nat.le_of_eq hg.symm)) hb);have BK175:=am hbox;have GW175:=am ((by rw [hg];exact (by first | exact HK.out.1 | exact (show Kept w _ (fun k_=>P0_0_ k_) from m6_).1) : w.heap.size ≤ gb175));replace HK:=am (Kept.below (S:=(fun k_=>P0_0_ k_)) m6_ hb);have GE175:=gwE HB hg;replace HB:=hbS HB hb;have NB174_175:=neL BK174 hg;have NB175_174:=neG BK174 hg;replace BK174:=bkB BK174 hb;clear hb hbox hg) | ((with_reducible refine gD 4 rfl ?_);refine box_event rfl (N:=4) rfl (cs:=#[.slice none 0 0]) (t:=29) hr_ ?_;intro gb176 hg w35 hbox hb;replace HO0_0:=am (Kd.R_below (rs HO0_0) hb);have BK176:=am hbox;have GW176:=am ((by rw [hg];exact (by first | exact HK.out.1 | exact (show Kept w _ (fun k_=>P0_0_ k_) from m6_).1) : w.heap.size ≤ gb176));replace HK:=am (Kept.below (S:=(fun k_=>P0_0_ k_)) m6_ hb);have GE176:=gwE HB hg;replace HB:=hbS HB hb;have NB174_176:=neL BK174 hg;have NB176_174:=neG BK174 hg;replace BK174:=bkB BK174 hb;have NB175_176:=neL BK175 hg;have NB176_175:=neG BK175 hg;replace BK175:=bkB BK175 hb;clear hb hbox hg;have:=NB174_175.out;have:=NB175_174.out;have:=NB174_176.out;have:=NB176_174.out;have:=bcell BK174 0;have:=bfz BK174 0;have:=NB175_176.out;have:=NB176_175.out;have:=bcell BK175 0;have:=bcell BK175 1;have:=bfz BK175 0;have:=bfz BK175 1) | ((with_reducible refine gC 128 rfl ?_);refine gL (some 9) Tryz.func128 #[.agg #[.slice Ao32 l0_0.length co32],.agg #[.int .i64 a1_0,.int .i64 a1_1]] ?_;(with_reducible refine (spec_MapPort.calls k _ _ l0_0 a1_0 a1_1 t177 _ ?side1 ?side2 A3.out).mono ?_);(case side1=>exact rcx HO0_0);(case side2=>exact (Kd.R_reads' HO0_0.out).2.1);rintro e w41 ⟨rfl,hb⟩;refine ⟨_,rfl,?_⟩;replace HO0_0:=am (Kd.R_below (rs HO0_0) hb);replace BK174:=bkB BK174 hb;replace BK175:=bkB BK175 hb;replace BK176:=bkB BK176 hb;replace HK:=am (Kept.below (S:=(fun k_=>P0_0_ k_)) m6_ hb);replace HB:=hbS HB hb;(try clear hb);have:=bcell BK174 0;have:=bfz BK174 0))
     replace HO0_0:=am (Kd.R_drew HO0_0.out)
     replace BK174:=am (blk_drew BK174.out)
     replace BK175:=am (blk_drew BK175.out)
     replace BK176:=am (blk_drew BK176.out)
     replace HK:=am (Kept.drew HK.out)
     replace HB:=am (below_drew1 HB.out)
     refine start_ (n:=9) (S:=fun w'=>w'.cell? ⟨gb174,0,none⟩ = some (.slice Ao32 l0_0.length co32) ∧ w'.cell? ⟨gb175,0,none⟩ = some (.int .i64 a1_0) ∧ w'.cell? ⟨gb175,1,none⟩ = some (.int .i64 a1_1)) (ds:=[8]) #[false,false,false,false,false,false,false,false,false] (by kernel_rfl) rfl rfl ⟨bcell BK174 0,bcell BK175 0,bcell BK175 1⟩ (fun hHeld=>?_);refine with_tabW spec_l3Put.tab6 spec_l3Put.bits6 (fun HT_ HW_=>?_)
     generalize w41.drew = w43 at HO0_0 BK174 BK175 BK176 HK HB hHeld ⊢
     refine pu_ 1 (some 20) (bm 9 2) ?_
     refine tk_ 2 (some 21) (bm 9 6) rfl (.inl ⟨rfl,m7_⟩) ?_
     refine tk_ 4 (some 23) (bm 9 22) rfl (.inl ⟨rfl,m7_⟩) ?_
     refine join_ (σ:=Value × Value × Value) 3 #[true,true,true,true,true,true,false,false,false] (fun s_=>[(19,s_.1),(22,s_.2.1),(24,s_.2.2)]) (fun s_ w'=>(w'.cell? ⟨gb174,0,none⟩ = some (.slice Ao32 l0_0.length co32) ∧ w'.cell? ⟨gb175,0,none⟩ = some (.int .i64 a1_0) ∧ w'.cell? ⟨gb175,1,none⟩ = some (.int .i64 a1_1)) ∧ (Kd.R k55 55 w' w0.heap.size (fun k_=>(P0_0_ k_ ∨ w.heap.size ≤ k_) ∧ some k_ ≠ (s_.2.1 : Value).ownBlock ∧ some k_ ≠ (s_.2.2 : Value).ownBlock ∧ k_ ≠ gb175) (.slice Ao32 l0_0.length co32) l0_0) ∧ (Kd.R k55 55 w' w0.heap.size (fun k_=>(P0_0_ k_ ∨ w.heap.size ≤ k_) ∧ some k_ ≠ (.slice Ao32 l0_0.length co32 : Value).ownBlock ∧ some k_ ≠ (s_.2.2 : Value).ownBlock ∧ k_ ≠ gb175) s_.2.1 y181) ∧ (Kd.R k55 55 w' w0.heap.size (fun k_=>(P0_0_ k_ ∨ w.heap.size ≤ k_) ∧ some k_ ≠ (.slice Ao32 l0_0.length co32 : Value).ownBlock ∧ some k_ ≠ (s_.2.1 : Value).ownBlock ∧ k_ ≠ gb175) s_.2.2 y184) ∧ (w'.heap[gb174]? = some (.cells #[.slice Ao32 l0_0.length co32] 29 (0,0))) ∧ (w'.heap[gb175]? = some (.cells #[.int .i64 a1_0,.int .i64 a1_1] 55 (0,0))) ∧ (w'.heap[gb176]? = some (.cells #[.slice none 0 0] 29 (0,0))) ∧ (Kept w w' (fun k_=>P0_0_ k_)) ∧ (Below w0.heap.size w0 w')) ?_ ?_
     rotate_left
     ·intro hCont
      refine two_ (i:=0) (j:=5) (Ni:=some 19) (Nj:=some 24) #[true,true,true,false,true,false,false,false,false] #[false,true,true,false,true,true,false,false,false] rfl rfl rfl rfl (two_of HT_.out (by kernel_rfl)) (by decide) (by decide) (fun K hK=>?_) (fun K hK=>?_)
      ·skip
       refine Kd.R_lit_step k55 _ 55 rfl (N:=19) rfl (xs:=([] : List (S55))) (inner:=[]) (ok:=fun _=>True) (okp:=fun _=>True) hr_ ?hp (fun _ hk=>hk) trivial (Below.refl _ _) (Nat.le_refl _) (by simp) ?_;(case hp=>exact (Reps.none _ _))
       intro v179 w44 ho45 hb hg_ hnew_
       clear hg_ hnew_
       (first | rw [← Ny178.out] at ho45 | (simp only [Int.reduceToNat] at ho45;rw [← Ny178.out] at ho45))
       have HO180:=am (Kd.R_lower (Kd.R_newB (Kd.R_new' (Kd.R_newM (M:=fun k_=>(P0_0_ k_ ∨ w.heap.size ≤ k_)) ho45 (by first | exact HK.out.1 | exact (show Kept w _ (fun k_=>P0_0_ k_) from m6_).1) (fun k_ h_=>.inr h_)) (Kd.R_lt (rs HO0_0))) (g:=gb175) (o:=.cells #[.int .i64 a1_0,.int .i64 a1_1] 55 (0,0)) (bk BK175)) (below_size (bl HB)))
       replace HO0_0:=am (Kd.R_elder' (rs HO0_0) (Kd.R_base ho45) hb)
       replace BK174:=bkB BK174 hb
       replace BK175:=bkB BK175 hb
       replace BK176:=bkB BK176 hb
       replace HK:=am (Kept.below (S:=(fun k_=>P0_0_ k_)) m6_ hb)
       replace HB:=hbS HB hb
       clear hb ho45
       refine hK.out _ _ ⟨bcell BK174 0,bcell BK175 0,bcell BK175 1⟩ (fun hHeld=>?_)
       clear hK K
       refine nm_ ?_
       refine two_ (i:=3) (j:=5) (Ni:=some 22) (Nj:=some 24) #[true,true,true,true,true,false,false,false,false] #[true,true,true,false,true,true,false,false,false] rfl rfl rfl rfl (two_of HT_.out (by kernel_rfl)) (by decide) (by decide) (fun K hK=>?_) (fun K hK=>?_)
       ·skip
        refine Kd.R_append_rows_step k55 (w0:=w0) w0.heap.size (by rfl) (.tmp 19) (.tmp 21) 27 55 (.agg #[(.int .i64 0),(.int .i64 0)]) 16 rfl Tryz.underlying27 info55 rfl (by decide) (by omega) v179 y178 l0_0 _ _ _ (fun k_=>(P0_0_ k_ ∨ w.heap.size ≤ k_) ∧ some k_ ≠ (.slice Ao32 l0_0.length co32 : Value).ownBlock ∧ k_ ≠ gb175) (fun _=>False) rfl rfl ?aO ?aR (fun _ _ h=>h) (fun _ h=>h.elim) ?aF ?aB ?aS ?aL ?_
        (case aR=>exact rcx HO0_0)
        (case aB=>exact (bl HB))
        (case aF=>exact (fun k_ hk=>⟨(.inr (Nat.le_trans (by first | exact HK.out.1 | exact (show Kept w _ (fun k_=>P0_0_ k_) from m6_).1) hk)),Kd.fresh' (Kd.R_lt (rs HO0_0)) k_ hk,Kd.freshB (g:=gb175) (o:=.cells #[.int .i64 a1_0,.int .i64 a1_1] 55 (0,0)) (bk BK175) k_ hk⟩))
        (case aO=>exact (by (with_reducible repeat apply ru);exact Kd.R_mono HO180.out ok_))
        (case aS=>exact (below_size (bl HB)))
        (case aL=>have:=LMc30.out;omega)
        intro v182 w46 ho hb hg hat
        rw [← Ny181.out] at ho
        replace HO0_0:=am (Kd.R_after (ok:=(fun k_=>(P0_0_ k_ ∨ w.heap.size ≤ k_) ∧ k_ ≠ gb175)) (rs HO0_0) hg hat)
        replace BK174:=am (blk_grown (g:=gb174) (o:=.cells #[.slice Ao32 l0_0.length co32] 29 (0,0)) (bk BK174) hg (Kd.R_ne HO180.out BK174.out (by decide)))
        replace BK175:=am (blk_grown (g:=gb175) (o:=.cells #[.int .i64 a1_0,.int .i64 a1_1] 55 (0,0)) (bk BK175) hg (Kd.R_away HO180.out (fun _ hk=>hk.2)))
        replace BK176:=am (blk_grown (g:=gb176) (o:=.cells #[.slice none 0 0] 29 (0,0)) (bk BK176) hg (Kd.R_ne HO180.out BK176.out (by decide)))
        replace HB:=am hb
        replace HK:=am (Kept.of_grown (S:=(fun k_=>P0_0_ k_)) hg m6_ (fun k_ e_=>(HO180.out.1 k_ e_).1.1.1))
        have HO183:=am (ho)
        clear HO180
        clear ho hb hg hat
        refine hK.out _ _ ⟨bcell BK174 0,bcell BK175 0,bcell BK175 1⟩ (fun hHeld=>?_)
        clear hK K
        refine nm_ ?_
        refine on_ 5 (some 24) (bm 9 63) (fun K hK=>?_)
        refine Kd.R_lit_step k55 _ 55 rfl (N:=24) rfl (xs:=([(⟨a1_0,a1_1⟩ : S55)] : List (S55))) (inner:=[.int .i64 a1_0,.int .i64 a1_1]) (ok:=fun _=>True) (okp:=fun _=>True) hr_ ?hp (fun _ hk=>hk) trivial (Below.refl _ _) (Nat.le_refl _) (by simp) ?_;(case hp=>exact (Reps.c2 (show Kd.M k55 _ _ _ (⟨a1_0,a1_1⟩ : S55) [.int .i64 a1_0,.int .i64 a1_1] from (k55_mkM _ _ _ (⟨a1_0,a1_1⟩ : S55) )) (Reps.none _ _)))
        intro v185 w47 ho48 hb hg_ hnew_
        clear hg_ hnew_
        (first | rw [← Ny184.out] at ho48 | (simp only [Int.reduceToNat] at ho48;rw [← Ny184.out] at ho48))
        have HO186:=am (Kd.R_lower (Kd.R_newB (Kd.R_new' (Kd.R_new' (Kd.R_newM (M:=fun k_=>(P0_0_ k_ ∨ w.heap.size ≤ k_)) ho48 (by first | exact HK.out.1 | exact (show Kept w _ (fun k_=>P0_0_ k_) from m6_).1) (fun k_ h_=>.inr h_)) (Kd.R_lt (rs HO0_0))) (Kd.R_lt (rs HO183))) (g:=gb175) (o:=.cells #[.int .i64 a1_0,.int .i64 a1_1] 55 (0,0)) (bk BK175)) (below_size (bl HB)))
        replace HO0_0:=am (Kd.R_elder' (rs HO0_0) (Kd.R_base ho48) hb)
        replace HO183:=am (Kd.R_elder' (rs HO183) (Kd.R_base ho48) hb)
        replace BK174:=bkB BK174 hb
        replace BK175:=bkB BK175 hb
        replace BK176:=bkB BK176 hb
        replace HK:=am (Kept.below (S:=(fun k_=>P0_0_ k_)) m6_ hb)
        replace HB:=hbS HB hb
        clear hb ho48
        refine hK.out _ _ ⟨bcell BK174 0,bcell BK175 0,bcell BK175 1⟩ (fun hHeld=>?_)
        clear hK K
        refine nm_ ?_
        exact norm_ (by simp only [putAll,Act.put,List.setIfInBounds_toArray,List.set_cons_zero,List.set_cons_succ]) (hCont (v179,v182,v185) _ ⟨hHeld,(by (with_reducible repeat apply ru);exact Kd.R_mono HO0_0.out ok_),(by (with_reducible repeat apply ru);exact Kd.R_mono HO183.out ok_),(by (with_reducible repeat apply ru);exact Kd.R_mono HO186.out ok_),(bk BK174),(bk BK175),(bk BK176),m6_,(bl HB)⟩)
       ·skip
        refine Kd.R_lit_step k55 _ 55 rfl (N:=24) rfl (xs:=([(⟨a1_0,a1_1⟩ : S55)] : List (S55))) (inner:=[.int .i64 a1_0,.int .i64 a1_1]) (ok:=fun _=>True) (okp:=fun _=>True) hr_ ?hp (fun _ hk=>hk) trivial (Below.refl _ _) (Nat.le_refl _) (by simp) ?_;(case hp=>exact (Reps.c2 (show Kd.M k55 _ _ _ (⟨a1_0,a1_1⟩ : S55) [.int .i64 a1_0,.int .i64 a1_1] from (k55_mkM _ _ _ (⟨a1_0,a1_1⟩ : S55) )) (Reps.none _ _)))
        intro v185 w46 ho47 hb hg_ hnew_
        clear hg_ hnew_
        (first | rw [← Ny184.out] at ho47 | (simp only [Int.reduceToNat] at ho47;rw [← Ny184.out] at ho47))
        have HO186:=am (Kd.R_lower (Kd.R_newB (Kd.R_new' (Kd.R_new' (Kd.R_newM (M:=fun k_=>(P0_0_ k_ ∨ w.heap.size ≤ k_)) ho47 (by first | exact HK.out.1 | exact (show Kept w _ (fun k_=>P0_0_ k_) from m6_).1) (fun k_ h_=>.inr h_)) (Kd.R_lt (rs HO0_0))) (Kd.R_lt (rs HO180))) (g:=gb175) (o:=.cells #[.int .i64 a1_0,.int .i64 a1_1] 55 (0,0)) (bk BK175)) (below_size (bl HB)))
        replace HO0_0:=am (Kd.R_elder' (rs HO0_0) (Kd.R_base ho47) hb)
        replace HO180:=am (Kd.R_elder' (rs HO180) (Kd.R_base ho47) hb)
        replace BK174:=bkB BK174 hb
        replace BK175:=bkB BK175 hb
        replace BK176:=bkB BK176 hb
        replace HK:=am (Kept.below (S:=(fun k_=>P0_0_ k_)) m6_ hb)
        replace HB:=hbS HB hb
        clear hb ho47
        refine hK.out _ _ ⟨bcell BK174 0,bcell BK175 0,bcell BK175 1⟩ (fun hHeld=>?_)
        clear hK K
        refine nm_ ?_
        refine on_ 3 (some 22) (bm 9 63) (fun K hK=>?_)
        refine Kd.R_append_rows_step k55 (w0:=w0) w0.heap.size (by rfl) (.tmp 19) (.tmp 21) 27 55 (.agg #[(.int .i64 0),(.int .i64 0)]) 16 rfl Tryz.underlying27 info55 rfl (by decide) (by omega) v179 y178 l0_0 _ _ _ (fun k_=>(P0_0_ k_ ∨ w.heap.size ≤ k_) ∧ some k_ ≠ (.slice Ao32 l0_0.length co32 : Value).ownBlock ∧ some k_ ≠ (v185 : Value).ownBlock ∧ k_ ≠ gb175) (fun _=>False) rfl rfl ?aO ?aR (fun _ _ h=>h) (fun _ h=>h.elim) ?aF ?aB ?aS ?aL ?_
        (case aR=>exact rcx HO0_0)
        (case aB=>exact (bl HB))
        (case aF=>exact (fun k_ hk=>⟨(.inr (Nat.le_trans (by first | exact HK.out.1 | exact (show Kept w _ (fun k_=>P0_0_ k_) from m6_).1) hk)),Kd.fresh' (Kd.R_lt (rs HO0_0)) k_ hk,Kd.fresh' (Kd.R_lt (rs HO186)) k_ hk,Kd.freshB (g:=gb175) (o:=.cells #[.int .i64 a1_0,.int .i64 a1_1] 55 (0,0)) (bk BK175) k_ hk⟩))
        (case aO=>exact (by (with_reducible repeat apply ru);exact Kd.R_mono HO180.out ok_))
        (case aS=>exact (below_size (bl HB)))
        (case aL=>have:=LMc30.out;omega)
        intro v182 w48 ho hb hg hat
        rw [← Ny181.out] at ho
        replace HO0_0:=am (Kd.R_after (ok:=(fun k_=>(P0_0_ k_ ∨ w.heap.size ≤ k_) ∧ some k_ ≠ (v185 : Value).ownBlock ∧ k_ ≠ gb175)) (by (with_reducible repeat apply ru);exact Kd.R_mono HO0_0.out ok_) hg hat)
        replace BK174:=am (blk_grown (g:=gb174) (o:=.cells #[.slice Ao32 l0_0.length co32] 29 (0,0)) (bk BK174) hg (Kd.R_ne HO180.out BK174.out (by decide)))
        replace BK175:=am (blk_grown (g:=gb175) (o:=.cells #[.int .i64 a1_0,.int .i64 a1_1] 55 (0,0)) (bk BK175) hg (Kd.R_away HO180.out (fun _ hk=>hk.1.2)))
        replace BK176:=am (blk_grown (g:=gb176) (o:=.cells #[.slice none 0 0] 29 (0,0)) (bk BK176) hg (Kd.R_ne HO180.out BK176.out (by decide)))
        replace HO186:=am (Kd.R_after (ok:=(fun k_=>(P0_0_ k_ ∨ w.heap.size ≤ k_) ∧ some k_ ≠ (.slice Ao32 l0_0.length co32 : Value).ownBlock ∧ k_ ≠ gb175)) (by (with_reducible repeat apply ru);exact Kd.R_mono HO186.out ok_) hg hat)
        replace HB:=am hb
        replace HK:=am (Kept.of_grown (S:=(fun k_=>P0_0_ k_)) hg m6_ (fun k_ e_=>(HO180.out.1 k_ e_).1.1.1.1))
        have HO183:=am (ho)
        clear HO180
        clear ho hb hg hat
        refine hK.out _ _ ⟨bcell BK174 0,bcell BK175 0,bcell BK175 1⟩ (fun hHeld=>?_)
        clear hK K
        refine nm_ ?_
        exact norm_ (by simp only [putAll,Act.put,List.setIfInBounds_toArray,List.set_cons_zero,List.set_cons_succ]) (hCont (v179,v182,v185) _ ⟨hHeld,(by (with_reducible repeat apply ru);exact Kd.R_mono HO0_0.out ok_),(rs HO183),(by (with_reducible repeat apply ru);exact Kd.R_mono HO186.out ok_),(bk BK174),(bk BK175),(bk BK176),m6_,(bl HB)⟩)
      ·skip
       refine Kd.R_lit_step k55 _ 55 rfl (N:=24) rfl (xs:=([(⟨a1_0,a1_1⟩ : S55)] : List (S55))) (inner:=[.int .i64 a1_0,.int .i64 a1_1]) (ok:=fun _=>True) (okp:=fun _=>True) hr_ ?hp (fun _ hk=>hk) trivial (Below.refl _ _) (Nat.le_refl _) (by simp) ?_;(case hp=>exact (Reps.c2 (show Kd.M k55 _ _ _ (⟨a1_0,a1_1⟩ : S55) [.int .i64 a1_0,.int .i64 a1_1] from (k55_mkM _ _ _ (⟨a1_0,a1_1⟩ : S55) )) (Reps.none _ _)))
       intro v185 w44 ho45 hb hg_ hnew_
       clear hg_ hnew_
       (first | rw [← Ny184.out] at ho45 | (simp only [Int.reduceToNat] at ho45;rw [← Ny184.out] at ho45))
       have HO186:=am (Kd.R_lower (Kd.R_newB (Kd.R_new' (Kd.R_newM (M:=fun k_=>(P0_0_ k_ ∨ w.heap.size ≤ k_)) ho45 (by first | exact HK.out.1 | exact (show Kept w _ (fun k_=>P0_0_ k_) from m6_).1) (fun k_ h_=>.inr h_)) (Kd.R_lt (rs HO0_0))) (g:=gb175) (o:=.cells #[.int .i64 a1_0,.int .i64 a1_1] 55 (0,0)) (bk BK175)) (below_size (bl HB)))
       replace HO0_0:=am (Kd.R_elder' (rs HO0_0) (Kd.R_base ho45) hb)
       replace BK174:=bkB BK174 hb
       replace BK175:=bkB BK175 hb
       replace BK176:=bkB BK176 hb
       replace HK:=am (Kept.below (S:=(fun k_=>P0_0_ k_)) m6_ hb)
       replace HB:=hbS HB hb
       clear hb ho45
       refine hK.out _ _ ⟨bcell BK174 0,bcell BK175 0,bcell BK175 1⟩ (fun hHeld=>?_)
       clear hK K
       refine nm_ ?_
       refine on_ 0 (some 19) (bm 9 55) (fun K hK=>?_)
       refine Kd.R_lit_step k55 _ 55 rfl (N:=19) rfl (xs:=([] : List (S55))) (inner:=[]) (ok:=fun _=>True) (okp:=fun _=>True) hr_ ?hp (fun _ hk=>hk) trivial (Below.refl _ _) (Nat.le_refl _) (by simp) ?_;(case hp=>exact (Reps.none _ _))
       intro v179 w46 ho47 hb hg_ hnew_
       clear hg_ hnew_
       (first | rw [← Ny178.out] at ho47 | (simp only [Int.reduceToNat] at ho47;rw [← Ny178.out] at ho47))
       have HO180:=am (Kd.R_lower (Kd.R_newB (Kd.R_new' (Kd.R_new' (Kd.R_newM (M:=fun k_=>(P0_0_ k_ ∨ w.heap.size ≤ k_)) ho47 (by first | exact HK.out.1 | exact (show Kept w _ (fun k_=>P0_0_ k_) from m6_).1) (fun k_ h_=>.inr h_)) (Kd.R_lt (rs HO0_0))) (Kd.R_lt (rs HO186))) (g:=gb175) (o:=.cells #[.int .i64 a1_0,.int .i64 a1_1] 55 (0,0)) (bk BK175)) (below_size (bl HB)))
       replace HO0_0:=am (Kd.R_elder' (rs HO0_0) (Kd.R_base ho47) hb)
       replace HO186:=am (Kd.R_elder' (rs HO186) (Kd.R_base ho47) hb)
       replace BK174:=bkB BK174 hb
       replace BK175:=bkB BK175 hb
       replace BK176:=bkB BK176 hb
       replace HK:=am (Kept.below (S:=(fun k_=>P0_0_ k_)) m6_ hb)
       replace HB:=hbS HB hb
       clear hb ho47
       refine hK.out _ _ ⟨bcell BK174 0,bcell BK175 0,bcell BK175 1⟩ (fun hHeld=>?_)
       clear hK K
       refine nm_ ?_
       refine on_ 3 (some 22) (bm 9 63) (fun K hK=>?_)
       refine Kd.R_append_rows_step k55 (w0:=w0) w0.heap.size (by rfl) (.tmp 19) (.tmp 21) 27 55 (.agg #[(.int .i64 0),(.int .i64 0)]) 16 rfl Tryz.underlying27 info55 rfl (by decide) (by omega) v179 y178 l0_0 _ _ _ (fun k_=>(P0_0_ k_ ∨ w.heap.size ≤ k_) ∧ some k_ ≠ (.slice Ao32 l0_0.length co32 : Value).ownBlock ∧ some k_ ≠ (v185 : Value).ownBlock ∧ k_ ≠ gb175) (fun _=>False) rfl rfl ?aO ?aR (fun _ _ h=>h) (fun _ h=>h.elim) ?aF ?aB ?aS ?aL ?_
       (case aR=>exact rcx HO0_0)
       (case aB=>exact (bl HB))
       (case aF=>exact (fun k_ hk=>⟨(.inr (Nat.le_trans (by first | exact HK.out.1 | exact (show Kept w _ (fun k_=>P0_0_ k_) from m6_).1) hk)),Kd.fresh' (Kd.R_lt (rs HO0_0)) k_ hk,Kd.fresh' (Kd.R_lt (rs HO186)) k_ hk,Kd.freshB (g:=gb175) (o:=.cells #[.int .i64 a1_0,.int .i64 a1_1] 55 (0,0)) (bk BK175) k_ hk⟩))
       (case aO=>exact (by (with_reducible repeat apply ru);exact Kd.R_mono HO180.out ok_))
       (case aS=>exact (below_size (bl HB)))
       (case aL=>have:=LMc30.out;omega)
       intro v182 w48 ho hb hg hat
       rw [← Ny181.out] at ho
       replace HO0_0:=am (Kd.R_after (ok:=(fun k_=>(P0_0_ k_ ∨ w.heap.size ≤ k_) ∧ some k_ ≠ (v185 : Value).ownBlock ∧ k_ ≠ gb175)) (by (with_reducible repeat apply ru);exact Kd.R_mono HO0_0.out ok_) hg hat)
       replace BK174:=am (blk_grown (g:=gb174) (o:=.cells #[.slice Ao32 l0_0.length co32] 29 (0,0)) (bk BK174) hg (Kd.R_ne HO180.out BK174.out (by decide)))
       replace BK175:=am (blk_grown (g:=gb175) (o:=.cells #[.int .i64 a1_0,.int .i64 a1_1] 55 (0,0)) (bk BK175) hg (Kd.R_away HO180.out (fun _ hk=>hk.2)))
       replace BK176:=am (blk_grown (g:=gb176) (o:=.cells #[.slice none 0 0] 29 (0,0)) (bk BK176) hg (Kd.R_ne HO180.out BK176.out (by decide)))
       replace HO186:=am (Kd.R_after (ok:=(fun k_=>(P0_0_ k_ ∨ w.heap.size ≤ k_) ∧ some k_ ≠ (.slice Ao32 l0_0.length co32 : Value).ownBlock ∧ k_ ≠ gb175)) (by (with_reducible repeat apply ru);exact Kd.R_mono HO186.out ok_) hg hat)
       replace HB:=am hb
       replace HK:=am (Kept.of_grown (S:=(fun k_=>P0_0_ k_)) hg m6_ (fun k_ e_=>(HO180.out.1 k_ e_).1.1.1.1))
       have HO183:=am (ho)
       clear HO180
       clear ho hb hg hat
       refine hK.out _ _ ⟨bcell BK174 0,bcell BK175 0,bcell BK175 1⟩ (fun hHeld=>?_)
       clear hK K
       refine nm_ ?_
       exact norm_ (by simp only [putAll,Act.put,List.setIfInBounds_toArray,List.set_cons_zero,List.set_cons_succ]) (hCont (v179,v182,v185) _ ⟨hHeld,(by (with_reducible repeat apply ru);exact Kd.R_mono HO0_0.out ok_),(rs HO183),(by (with_reducible repeat apply ru);exact Kd.R_mono HO186.out ok_),(bk BK174),(bk BK175),(bk BK176),m6_,(bl HB)⟩)
     rintro ⟨v179,v182,v185⟩ w49 ⟨hS_,h0_,h1_,h2_,h3_,h4_,h5_,h6_,h7_⟩
     have n0_ : Aside0 (Kd.R k55 55 w49 w0.heap.size (fun k_=>(P0_0_ k_ ∨ w.heap.size ≤ k_) ∧ some k_ ≠ (v182 : Value).ownBlock ∧ some k_ ≠ (v185 : Value).ownBlock ∧ k_ ≠ gb175) (.slice Ao32 l0_0.length co32) l0_0):=⟨h0_⟩
     have n1_ : Aside0 (Kd.R k55 55 w49 w0.heap.size (fun k_=>(P0_0_ k_ ∨ w.heap.size ≤ k_) ∧ some k_ ≠ (.slice Ao32 l0_0.length co32 : Value).ownBlock ∧ some k_ ≠ (v185 : Value).ownBlock ∧ k_ ≠ gb175) v182 y181):=⟨h1_⟩
     have n2_ : Aside0 (Kd.R k55 55 w49 w0.heap.size (fun k_=>(P0_0_ k_ ∨ w.heap.size ≤ k_) ∧ some k_ ≠ (.slice Ao32 l0_0.length co32 : Value).ownBlock ∧ some k_ ≠ (v182 : Value).ownBlock ∧ k_ ≠ gb175) v185 y184):=⟨h2_⟩
     have n3_ : Aside0 (w49.heap[gb174]? = some (.cells #[.slice Ao32 l0_0.length co32] 29 (0,0))):=⟨h3_⟩
     have n4_ : Aside0 (w49.heap[gb175]? = some (.cells #[.int .i64 a1_0,.int .i64 a1_1] 55 (0,0))):=⟨h4_⟩
     have n5_ : Aside0 (w49.heap[gb176]? = some (.cells #[.slice none 0 0] 29 (0,0))):=⟨h5_⟩
     have n6_ : Aside0 (Kept w w49 (fun k_=>P0_0_ k_)):=⟨h6_⟩
     have n7_ : Aside0 (Below w0.heap.size w0 w49):=⟨h7_⟩
     clear HO0_0
     clear BK174
     clear BK175
     clear BK176
     clear HK
     clear HB
     clear h0_ h1_ h2_ h3_ h4_ h5_ h6_ h7_
     have HO0_0:=n0_
     have HO183:=n1_
     have HO186:=n2_
     have BK174:=n3_
     have BK175:=n4_
     have BK176:=n5_
     have HK:=n6_
     have HB:=n7_
     clear n0_ n1_ n2_ n3_ n4_ n5_ n6_ n7_
     have hHeld : w49.cell? ⟨gb174,0,none⟩ = some (.slice Ao32 l0_0.length co32) ∧ w49.cell? ⟨gb175,0,none⟩ = some (.int .i64 a1_0) ∧ w49.cell? ⟨gb175,1,none⟩ = some (.int .i64 a1_1):=hS_
     obtain ⟨Ao51,co51,eo51⟩:=Kd.R_slice HO186.out
     (first | subst eo51 | (injection eo51 with f1_ f2_ f3_;have f4_:=f1_.symm;have f5_:=f3_.symm;clear f1_ f2_ f3_;subst f4_;subst f5_))
     refine norm_ (a':=?_) ?_ ?_
     rotate_left
     ·simp only [putAll,Act.put,List.setIfInBounds_toArray,List.set_cons_zero,List.set_cons_succ]
      rfl
     refine on_ 6 (some 25) (bm 9 127) (fun K hK=>?_)
     refine Kd.R_append_rows_step k55 (w0:=w0) w0.heap.size (by rfl) (.tmp 22) (.tmp 24) 27 55 (.agg #[(.int .i64 0),(.int .i64 0)]) 16 rfl Tryz.underlying27 info55 rfl (by decide) (by omega) v182 y181 y184 _ _ _ (fun k_=>(P0_0_ k_ ∨ w.heap.size ≤ k_) ∧ some k_ ≠ (.slice Ao32 l0_0.length co32 : Value).ownBlock ∧ some k_ ≠ (.slice Ao51 y184.length co51 : Value).ownBlock ∧ k_ ≠ gb175) (fun _=>False) rfl rfl ?aO ?aR (fun _ _ h=>h) (fun _ h=>h.elim) ?aF ?aB ?aS ?aL ?_
     (case aR=>exact rcx HO186)
     (case aB=>exact (bl HB))
     (case aF=>exact (fun k_ hk=>⟨(.inr (Nat.le_trans (by first | exact HK.out.1 | exact (show Kept w _ (fun k_=>P0_0_ k_) from m6_).1) hk)),Kd.fresh' (Kd.R_lt (rs HO0_0)) k_ hk,Kd.fresh' (Kd.R_lt (rs HO186)) k_ hk,Kd.freshB (g:=gb175) (o:=.cells #[.int .i64 a1_0,.int .i64 a1_1] 55 (0,0)) (bk BK175) k_ hk⟩))
     (case aO=>exact (rs HO183))
     (case aS=>exact (below_size (bl HB)))
     (case aL=>have:=LMc31.out;omega)
     intro v188 w50 ho hb hg hat
     rw [← Ny187.out] at ho
     replace HO0_0:=am (Kd.R_after (ok:=(fun k_=>(P0_0_ k_ ∨ w.heap.size ≤ k_) ∧ some k_ ≠ (.slice Ao51 y184.length co51 : Value).ownBlock ∧ k_ ≠ gb175)) (by (with_reducible repeat apply ru);exact Kd.R_mono HO0_0.out ok_) hg hat)
     replace BK174:=am (blk_grown (g:=gb174) (o:=.cells #[.slice Ao32 l0_0.length co32] 29 (0,0)) (bk BK174) hg (Kd.R_ne HO183.out BK174.out (by decide)))
     replace BK175:=am (blk_grown (g:=gb175) (o:=.cells #[.int .i64 a1_0,.int .i64 a1_1] 55 (0,0)) (bk BK175) hg (Kd.R_away HO183.out (fun _ hk=>hk.2.2.2)))
     replace BK176:=am (blk_grown (g:=gb176) (o:=.cells #[.slice none 0 0] 29 (0,0)) (bk BK176) hg (Kd.R_ne HO183.out BK176.out (by decide)))
     replace HO186:=am (Kd.R_after (ok:=(fun k_=>(P0_0_ k_ ∨ w.heap.size ≤ k_) ∧ some k_ ≠ (.slice Ao32 l0_0.length co32 : Value).ownBlock ∧ k_ ≠ gb175)) (by (with_reducible repeat apply ru);exact Kd.R_mono HO186.out ok_) hg hat)
     replace HB:=am hb
     replace HK:=am (Kept.of_grown (S:=(fun k_=>P0_0_ k_)) hg m6_ (fun k_ e_=>(HO183.out.1 k_ e_).1))
     have HO189:=am (ho)
     clear HO183
     clear ho hb hg hat
     obtain ⟨Ao52,co52,eo52⟩:=Kd.R_slice HO189.out
     (first | subst eo52 | (injection eo52 with f1_ f2_ f3_;have f4_:=f1_.symm;have f5_:=f3_.symm;clear f1_ f2_ f3_;subst f4_;subst f5_))
     refine hK.out _ _ ⟨bcell BK174 0,bcell BK175 0,bcell BK175 1⟩ (fun hHeld=>?_)
     clear hK K
     refine nm_ ?_
     refine pu_ 7 (some 26) (bm 9 255) ?_
     refine last_ (i:=8) (N:=none) #[true,true,true,true,true,true,true,true,true] rfl rfl (one_of HT_.out (by kernel_rfl)) (by decide) (fun K hK=>?_)
     have : w50.cell? ⟨gb174,0,none⟩ = some (.slice Ao32 l0_0.length co32):=bcell BK174 0
     have:=bfz BK174 0
     have:=NB175_174.out
     have:=NB176_174.out
     have:=NB174_175.out
     have:=NB174_176.out
     refine skip_ (w1:=?_) (by rfl) rfl ?_ ?_
     rotate_left
     ·go_simp
      rfl
     refine hK.out _ _ ?_
     clear hK K
     refine done_ (done_of HT_.out (by kernel_rfl)) ?_
     try go_wp2
     have n0_ : Aside0 (Kd.R k55 55 (w50.setCell ⟨gb174,0,none⟩ (.slice Ao52 y187.length co52)) w0.heap.size (fun k_=>(P0_0_ k_ ∨ w.heap.size ≤ k_) ∧ some k_ ≠ (.slice Ao51 y184.length co51 : Value).ownBlock ∧ some k_ ≠ (.slice Ao52 y187.length co52 : Value).ownBlock ∧ k_ ≠ gb175) (.slice Ao32 l0_0.length co32) l0_0):=⟨by (with_reducible repeat apply ru);exact Kd.R_mono (Kd.R_far (p:=⟨gb174,0,none⟩) (Kd.R_types HO0_0.out BK174.out (by decide)) (fun _ hk=>hk.2) (.slice Ao52 y187.length co52)) ok_⟩
     have n1_ : Aside0 (Kd.R k55 55 (w50.setCell ⟨gb174,0,none⟩ (.slice Ao52 y187.length co52)) w0.heap.size (fun k_=>(P0_0_ k_ ∨ w.heap.size ≤ k_) ∧ some k_ ≠ (.slice Ao32 l0_0.length co32 : Value).ownBlock ∧ some k_ ≠ (.slice Ao52 y187.length co52 : Value).ownBlock ∧ k_ ≠ gb175) (.slice Ao51 y184.length co51) y184):=⟨by (with_reducible repeat apply ru);exact Kd.R_mono (Kd.R_far (p:=⟨gb174,0,none⟩) (Kd.R_types HO186.out BK174.out (by decide)) (fun _ hk=>hk.2) (.slice Ao52 y187.length co52)) ok_⟩
     have n2_ : Aside0 (Kd.R k55 55 (w50.setCell ⟨gb174,0,none⟩ (.slice Ao52 y187.length co52)) w0.heap.size (fun k_=>(P0_0_ k_ ∨ w.heap.size ≤ k_) ∧ some k_ ≠ (.slice Ao32 l0_0.length co32 : Value).ownBlock ∧ some k_ ≠ (.slice Ao51 y184.length co51 : Value).ownBlock ∧ k_ ≠ gb175) (.slice Ao52 y187.length co52) y187):=⟨by (with_reducible repeat apply ru);exact Kd.R_mono (Kd.R_far (p:=⟨gb174,0,none⟩) (Kd.R_types HO189.out BK174.out (by decide)) (fun _ hk=>hk.2) (.slice Ao52 y187.length co52)) ok_⟩
     have n3_ : Aside0 ((w50.setCell ⟨gb174,0,none⟩ (.slice Ao52 y187.length co52)).heap[gb174]? = some (.cells #[.slice Ao52 y187.length co52] 29 (0,0))):=⟨by (with_reducible repeat refine bu ?_);refine blk_put (cs:=#[.slice Ao32 l0_0.length co32]) ?_ 0 _ rfl;(with_reducible repeat refine bu ?_);exact BK174.out⟩
     have n4_ : Aside0 ((w50.setCell ⟨gb174,0,none⟩ (.slice Ao52 y187.length co52)).heap[gb175]? = some (.cells #[.int .i64 a1_0,.int .i64 a1_1] 55 (0,0))):=bf_ BK175
     have n5_ : Aside0 ((w50.setCell ⟨gb174,0,none⟩ (.slice Ao52 y187.length co52)).heap[gb176]? = some (.cells #[.slice none 0 0] 29 (0,0))):=bf_ BK176
     have n6_ : Aside0 (Kept w (w50.setCell ⟨gb174,0,none⟩ (.slice Ao52 y187.length co52)) (fun k_=>P0_0_ k_)):=⟨m6_⟩
     have n7_ : Aside0 (Below w0.heap.size w0 (w50.setCell ⟨gb174,0,none⟩ (.slice Ao52 y187.length co52))):=⟨m2_⟩
     (try clear HO0_0)
     (try clear HO186)
     (try clear HO189)
     (try clear BK174)
     (try clear BK175)
     (try clear BK176)
     (try clear HK)
     (try clear HB)
     generalize (w50.setCell ⟨gb174,0,none⟩ (.slice Ao52 y187.length co52)) = w54 at n0_ n1_ n2_ n3_ n4_ n5_ n6_ n7_ ⊢
     have HO0_0:=n0_
     have HO186:=n1_
     have HO189:=n2_
     have BK174:=n3_
     have BK175:=n4_
     have BK176:=n5_
     have HK:=n6_
     have HB:=n7_
     clear n0_ n1_ n2_ n3_ n4_ n5_ n6_ n7_
     replace HO0_0:=am (Kd.R_drew HO0_0.out)
     replace HO186:=am (Kd.R_drew HO186.out)
     replace HO189:=am (Kd.R_drew HO189.out)
     replace BK174:=am (blk_drew BK174.out)
     replace BK175:=am (blk_drew BK175.out)
     replace BK176:=am (blk_drew BK176.out)
     replace HK:=am (Kept.drew HK.out)
     replace HB:=am (below_drew1 HB.out)
     refine start_ (n:=8) (S:=fun w'=>w'.cell? ⟨gb174,0,none⟩ = some (.slice Ao52 y187.length co52)) (ds:=[]) #[false,false,false,false,false,false,false,false] (by kernel_rfl) rfl rfl (bcell BK174 0) (fun hHeld=>?_);refine with_tabW spec_l3Put.tab7 spec_l3Put.bits7 (fun HT_ HW_=>?_)
     generalize w54.drew = w55 at HO0_0 HO186 HO189 BK174 BK175 BK176 HK HB hHeld ⊢
     refine pu_ 1 (some 28) (bm 8 2) ?_
     refine take_ (i:=0) (N:=some 27) (v:=?_) (a':=?_) #[true,true,false,false,false,false,false,false] rfl rfl (take_ofW HT_.out HW_.out (by kernel_rfl)) (fun _ _ _ h=>h) (Or.inl ⟨by rfl,?_⟩) hHeld ?_ ?_
     rotate_left
     ·intro w' s0
      go_simp
      with_reducible rfl
     rotate_left
     ·simp only [Act.put,List.setIfInBounds_toArray,List.set_cons_zero,List.set_cons_succ,i64_w,i32_w]
      rfl
     refine take_ (i:=2) (N:=some 29) (v:=?_) (a':=?_) #[true,true,true,false,false,false,false,false] rfl rfl (take_ofW HT_.out HW_.out (by kernel_rfl)) (fun _ _ _ h=>h) (Or.inl ⟨by rfl,?_⟩) hHeld ?_ ?_
     rotate_left
     ·intro w' s0
      go_simp
      with_reducible rfl
     rotate_left
     ·simp only [Act.put,List.setIfInBounds_toArray,List.set_cons_zero,List.set_cons_succ,i64_w,i32_w]
      rfl
     refine pu_ 3 (some 30) (bm 8 15) ?_
     refine pu_ 4 (some 31) (bm 8 31) ?_
     refine pu_ 5 (some 32) (bm 8 63) ?_
     refine on_ 6 none (bm 8 127) (fun K hK=>?_)
     have : w55.cell? ⟨gb176,0,none⟩ = some (.slice none 0 0):=bcell BK176 0
     have:=bfz BK176 0
     have:=NB174_176.out
     have:=NB175_176.out
     have:=NB176_174.out
     have:=NB176_175.out
     refine skip_ (w1:=?_) (by rfl) rfl ?_ ?_
     rotate_left
     ·go_simp
      rfl
     refine hK.out _ _ (((cell_far (p:=⟨gb176,_,none⟩) NB174_176.out _).trans (hHeld))) (fun hHeld=>?_)
     clear hK K
     refine pu_ 7 (some 5) (bm 8 255) ?_
     refine done_ (done_of HT_.out (by kernel_rfl)) ?_
     try go_wp2
     refine bodyPost_ret (results_ct rfl _ _ gb176 29 #[.slice Ao52 y187.length co52] (0,0) _ rfl (by (with_reducible repeat refine bu ?_);refine blk_put (cs:=#[.slice none 0 0]) ?_ 0 _ rfl;(with_reducible repeat refine bu ?_);exact BK176.out) Tryz.underlying29 rfl (by kernel_rfl)) rfl ?_
     exact ⟨_,fi_,by (with_reducible repeat apply ru);exact Kd.R_mono (Kd.R_far (p:=⟨gb176,0,none⟩) (Kd.R_types HO189.out BK176.out (by decide)) (fun _ hk=>hk.2) (.slice Ao52 y187.length co52)) (fun _ hk=>hk.1.1),m2_,m6_⟩
    ·rw [if_neg c31] at H
     exact absurd H (by simp)
   ·rw [if_neg c30] at H
    exact absurd H (by simp)
end
end Go.Proofs.YtakfmcpjnkagmaaGreatDoor.P
