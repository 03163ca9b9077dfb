import Derived.Test.YtffmbccgcaghjaaGreatDoorProg
import Derived.Below
import Derived.Deep.Draws
import Derived.Deep.AppendLies
import Derived.Maps.AppendAt
import Derived.OwnWalk
import Derived.Laws.BytesArg
import Derived.Laws.MakeOwn
import Derived.Laws.OwnMore
import Derived.Deep.OwnRows
import Derived.Tactics
import Derived.Lib.ConvBytes
import Derived.Laws.Slices
import Derived.WalkKit
import Derived.KernelRfl
import Derived.RowKit3
import Derived.Deep.LoopGhost
import Derived.Deep.QuietTactic
import Derived.BigQuiet
import Derived.WideLaws
import Derived.Deep.DeepCutAuto
import Derived.Deep.CutBlock
import Derived.Deep.RegionHeld3
import Derived.Laws.Rows
import Derived.Lib.AppendStr
import Derived.ArgAppend
import Derived.Laws.IdiomCopy
import Derived.OrdersHeld
import Derived.Laws.BitsLemmas
import Derived.RowKit
import Derived.Test.YtffmbccgcaghjaaGreatDoorUFnRwrStaysWords
import Derived.Test.YtffmbccgcaghjaaGreatDoorUFnRwrStaysLast
import Derived.Test.YtffmbccgcaghjaaGreatDoorUFnRwrStaysTab
import Derived.Test.YtffmbccgcaghjaaGreatDoorUFnRwrStaysFour
import Derived.Test.YtffmbccgcaghjaaGreatDoorUFnRwrStaysQPut
import Derived.Test.YtffmbccgcaghjaaGreatDoorUFnRwrStaysApart
import Derived.Test.YtffmbccgcaghjaaGreatDoorUFnRwrStaysArr
import Derived.Test.YtffmbccgcaghjaaGreatDoorUFnRwrStaysZeros
import Derived.Test.YtffmbccgcaghjaaGreatDoorUFnRwrStaysFoot
import Derived.Test.YtffmbccgcaghjaaGreatDoorUFnRwrStaysKept
import Derived.Test.YtffmbccgcaghjaaGreatDoorUFnRwrStaysShare
import Derived.Test.YtffmbccgcaghjaaGreatDoorUFnRwrStaysN
import Derived.Test.YtffmbccgcaghjaaGreatDoorUFnRwrStaysFootNe
import Derived.Test.YtffmbccgcaghjaaGreatDoorUFnRwrStaysAt
import Derived.Test.YtffmbccgcaghjaaGreatDoorUFnRwrStaysEqStruct
import Derived.Test.YtffmbccgcaghjaaGreatDoorUFnRwrStaysRepsOne
import Derived.Test.YtffmbccgcaghjaaGreatDoorUFnRwrStaysInv
import Derived.Test.YtffmbccgcaghjaaGreatDoorUFnRwrStaysInvWords
import Derived.Test.YtffmbccgcaghjaaGreatDoorUFnRwrStaysGuard
import Derived.Test.YtffmbccgcaghjaaGreatDoorUFnRwrStaysNEv
import Derived.Test.YtffmbccgcaghjaaGreatDoorUFnRwrStaysMore
import Derived.Shelf.Small.Wraps
import Derived.Shelf.LaysM
import Derived.Shelf.Strconv.Itoa3
import Derived.Shelf.LaysC
import Derived.Shelf.Strconv.AtoiAll
import Derived.Shelf.Strings.Cut
import Derived.Shelf.Vars
import Derived.Shelf.Lays
import Derived.Lib.Hide
import Derived.WalkSmall
import Derived.Test.YtffmbccgcaghjaaGreatDoorRows
import Derived.Lay
import Derived.LaidSub
import Derived.MakeChecks
import Derived.Stop.Joined
import Derived.Deep.DeepHandedRow
import Derived.Lib.LaidTab
namespace Go.Proofs.YtffmbccgcaghjaaGreatDoor.P
open Go.Proofs.YtffmbccgcaghjaaGreatDoorUFnRwrStays.PrintLast Go.Proofs.YtffmbccgcaghjaaGreatDoorUFnRwrStays.PrintMore Go.Proofs.YtffmbccgcaghjaaGreatDoorUFnRwrStays.PrintWords Go.RowKit
set_option linter.unusedVariables false
set_option linter.unusedSimpArgs false
section
attribute [local go_sem] max2_int min2_int max_two min_two max_three min_three max_four min_four
def errW : Option Int → Value
 | none=>.nilIface
 | some c=>.iface 126 (.int .i64 c)
theorem errW_none : errW none = .nilIface:=rfl
theorem errW_some (c : Int) : errW (some c) = .iface 126 (.int .i64 c):=rfl
theorem info3 : (Tryz.prog.info? 3).map (fun i=>(i.zero,i.size,i.bytes)) = some (some (.int .i64 0),1,8):=by kernel_rfl
theorem info5 : (Tryz.prog.info? 5).map (fun i=>(i.zero,i.size,i.bytes)) = some (some (.int .u8 0),1,1):=by kernel_rfl
theorem info9 : (Tryz.prog.info? 9).map (fun i=>(i.zero,i.size,i.bytes)) = some (some (.string ⟨#[]⟩),1,16):=by kernel_rfl
theorem info34 : (Tryz.prog.info? 34).map (fun i=>(i.zero,i.size,i.bytes)) = some (some (.agg #[(.int .i64 0),(.int .i64 0)]),2,16):=by kernel_rfl
structure S34 where
 f0 : Int
 f1 : Int
def z34 : S34:=⟨(0 : Int),(0 : Int)⟩
def k34 : Kd S34:=Kd.iso (Kd.pair (Kd.int .i64) (Kd.int .i64)) (fun x : S34=>(x.f0,x.f1))
theorem k34_heap : Kd.Heap k34:=Kd.heap_iso _ (Kd.heap_pair (Kd.heap_int .i64) (Kd.heap_int .i64))
theorem k34_open {w : World} {x : S34} {cs : List Value} (h : k34.K w x cs) : cs = [.int .i64 x.f0,.int .i64 x.f1]:=by
 obtain ⟨_,_,rfl,rfl,rfl⟩:=h
 exact rfl
theorem k34_openM {w : World} {base : Nat} {ok : Nat → Prop} {x : S34} {cs : List Value} (h : k34.M w base ok x cs) : cs = [.int .i64 x.f0,.int .i64 x.f1]:=by
 obtain ⟨_,_,rfl,rfl,rfl⟩:=h
 exact rfl
theorem k34_mk (w : World) (x : S34)  : k34.K w x [.int .i64 x.f0,.int .i64 x.f1]:=⟨[.int .i64 x.f0],[.int .i64 x.f1],rfl,rfl,rfl⟩
theorem k34_mkM (w : World) (base : Nat) (ok : Nat → Prop) (x : S34)  : k34.M w base ok x [.int .i64 x.f0,.int .i64 x.f1]:=⟨[.int .i64 x.f0],[.int .i64 x.f1],rfl,rfl,rfl⟩
theorem k34_mkF (W : World) (ok : Nat → Prop) (x : S34) : Kd.FK k34 W ok x [.int .i64 x.f0,.int .i64 x.f1]:=fun W2 _=>k34_mk W2 x
def rd_T34 (xs : List S34) (i : Int) : S34:=xs.getD i.toNat z34
theorem at_T34 {w : World} {A : Option Addr} {n : Nat} {xs : List S34} (h : Kd.C k34 w A n xs) (i : Int) (h0 : 0 ≤ i) (h1 : i < n) : ∃ ad ,A = some ad ∧ w.cell? (ad.add (i.toNat * 2)) = some (.int .i64 (rd_T34 xs i).f0) ∧ w.cell? ⟨(ad.add (i.toNat * 2)).block,(ad.add (i.toNat * 2)).off + 1,none⟩ = some (.int .i64 (rd_T34 xs i).f1):=by
 obtain ⟨ad,c,e,_,hK,hc0⟩:=Kd.C_get h z34 i h0 h1
 have hc : ∀ j u,c[j]? = some u → w.cell? (ad.add (i.toNat * 2 + j)) = some u:=hc0
 obtain rfl:=k34_open hK
 exact ⟨ad,e,hc 0 _ rfl,by rw [← add_field _ _ 1 (by omega)];exact hc 1 _ rfl⟩
structure S102 where
 f0 : Int
 f1 : Int
def z102 : S102:=⟨(0 : Int),(0 : Int)⟩
def k102 : Kd S102:=Kd.iso (Kd.pair (Kd.int .i64) (Kd.int .i64)) (fun x : S102=>(x.f0,x.f1))
theorem k102_heap : Kd.Heap k102:=Kd.heap_iso _ (Kd.heap_pair (Kd.heap_int .i64) (Kd.heap_int .i64))
theorem k102_open {w : World} {x : S102} {cs : List Value} (h : k102.K w x cs) : cs = [.int .i64 x.f0,.int .i64 x.f1]:=by
 obtain ⟨_,_,rfl,rfl,rfl⟩:=h
 exact rfl
theorem k102_openM {w : World} {base : Nat} {ok : Nat → Prop} {x : S102} {cs : List Value} (h : k102.M w base ok x cs) : cs = [.int .i64 x.f0,.int .i64 x.f1]:=by
 obtain ⟨_,_,rfl,rfl,rfl⟩:=h
 exact rfl
theorem k102_mk (w : World) (x : S102)  : k102.K w x [.int .i64 x.f0,.int .i64 x.f1]:=⟨[.int .i64 x.f0],[.int .i64 x.f1],rfl,rfl,rfl⟩
theorem k102_mkM (w : World) (base : Nat) (ok : Nat → Prop) (x : S102)  : k102.M w base ok x [.int .i64 x.f0,.int .i64 x.f1]:=⟨[.int .i64 x.f0],[.int .i64 x.f1],rfl,rfl,rfl⟩
theorem k102_mkF (W : World) (ok : Nat → Prop) (x : S102) : Kd.FK k102 W ok x [.int .i64 x.f0,.int .i64 x.f1]:=fun W2 _=>k102_mk W2 x
def rd_T102 (xs : List S102) (i : Int) : S102:=xs.getD i.toNat z102
theorem at_T102 {w : World} {A : Option Addr} {n : Nat} {xs : List S102} (h : Kd.C k102 w A n xs) (i : Int) (h0 : 0 ≤ i) (h1 : i < n) : ∃ ad ,A = some ad ∧ w.cell? (ad.add (i.toNat * 2)) = some (.int .i64 (rd_T102 xs i).f0) ∧ w.cell? ⟨(ad.add (i.toNat * 2)).block,(ad.add (i.toNat * 2)).off + 1,none⟩ = some (.int .i64 (rd_T102 xs i).f1):=by
 obtain ⟨ad,c,e,_,hK,hc0⟩:=Kd.C_get h z102 i h0 h1
 have hc : ∀ j u,c[j]? = some u → w.cell? (ad.add (i.toNat * 2 + j)) = some u:=hc0
 obtain rfl:=k102_open hK
 exact ⟨ad,e,hc 0 _ rfl,by rw [← add_field _ _ 1 (by omega)];exact hc 1 _ rfl⟩
end
end Go.Proofs.YtffmbccgcaghjaaGreatDoor.P
namespace Go.Proofs
open Go.Shelf
def Tryz.lays103_ren : Go.Shelf.Ren := ⟨fun | 103 => 82 | 210 => 109 | 206 => 121 | n => n, fun | 9 => 9 | 4 => 4 | 24 => 92 | 3 => 3 | n => n, fun | n => n⟩
theorem Tryz.lays103 : Go.Proofs.Lays.n103 Tryz.prog Tryz.lays103_ren := {
  mixed := by kernel_rfl
  f103 := Tryz.func82.trans (congrArg some (by kernel_rfl))
  f206 := Tryz.func121.trans (congrArg some (by kernel_rfl))
  f210 := Tryz.func109.trans (congrArg some (by kernel_rfl))
  t3 := Tryz.underlying3
  a3 := Tryz.isAgg3
  z3 := Tryz.sizeOf3
  v3 := Tryz.zeroValue3
  t4 := Tryz.underlying4
  a4 := Tryz.isAgg4
  z4 := Tryz.sizeOf4
  v4 := Tryz.zeroValue4
  t9 := Tryz.underlying9
  a9 := Tryz.isAgg9
  z9 := Tryz.sizeOf9
  v9 := Tryz.zeroValue9
  t24 := Tryz.underlying92
  a24 := Tryz.isAgg92
  z24 := Tryz.sizeOf92
  v24 := Tryz.zeroValue92 }
open Go.RowKit in
theorem Tryz.strings_CutPrefix (s p : ByteArray) (w : World) :
    Calls Tryz.prog 82 #[.string s, .string p] w fun e w' => e = .returned (.tuple #[.string ⟨(Lib.trimPrefix s.data.toList p.data.toList).toArray⟩, .bool (Lib.hasPrefix s.data.toList p.data.toList)]) ∧ w' = w := Any.strings_CutPrefix Tryz.lays103 s p w
def Tryz.laysM171_ren : Go.Shelf.Ren := ⟨fun | 171 => 89 | 243 => 112 | 246 => 124 | 283 => 135 | 284 => 136 | 285 => 137 | 286 => 138 | 129 => 145 | 317 => 144 | 318 => 146 | 319 => 147 | 320 => 148 | 337 => 151 | 338 => 152 | n => n, fun | 3 => 3 | 9 => 9 | 2 => 2 | 4 => 4 | 171 => 132 | 0 => 0 | 53 => 133 | 37 => 22 | 5 => 5 | 173 => 136 | 212 => 144 | 51 => 117 | 20 => 20 | 213 => 145 | 46 => 125 | 232 => 152 | 233 => 153 | n => n, fun | 17 => 4 | 18 => 5 | 19 => 6 | n => n⟩
theorem Tryz.laysM171 : Go.Proofs.LaysM.n171 Tryz.prog Tryz.laysM171_ren := {
  mixed := by kernel_rfl
  f129 := Tryz.func145.trans (congrArg some (by kernel_rfl))
  f171 := Tryz.func89.trans (congrArg some (by kernel_rfl))
  f243 := Tryz.func112.trans (congrArg some (by kernel_rfl))
  f246 := Tryz.func124.trans (congrArg some (by kernel_rfl))
  f283 := Tryz.func135.trans (congrArg some (by kernel_rfl))
  f284 := Tryz.func136.trans (congrArg some (by kernel_rfl))
  f285 := Tryz.func137.trans (congrArg some (by kernel_rfl))
  f286 := Tryz.func138.trans (congrArg some (by kernel_rfl))
  f317 := Tryz.func144.trans (congrArg some (by kernel_rfl))
  f318 := Tryz.func146.trans (congrArg some (by kernel_rfl))
  f319 := Tryz.func147.trans (congrArg some (by kernel_rfl))
  f320 := Tryz.func148.trans (congrArg some (by kernel_rfl))
  f337 := Tryz.func151.trans (congrArg some (by kernel_rfl))
  f338 := Tryz.func152.trans (congrArg some (by kernel_rfl))
  t0 := Tryz.underlying0
  a0 := Tryz.isAgg0
  z0 := Tryz.sizeOf0
  v0 := Tryz.zeroValue0
  t2 := Tryz.underlying2
  a2 := Tryz.isAgg2
  z2 := Tryz.sizeOf2
  v2 := Tryz.zeroValue2
  t3 := Tryz.underlying3
  a3 := Tryz.isAgg3
  z3 := Tryz.sizeOf3
  v3 := Tryz.zeroValue3
  t4 := Tryz.underlying4
  a4 := Tryz.isAgg4
  z4 := Tryz.sizeOf4
  v4 := Tryz.zeroValue4
  t5 := Tryz.underlying5
  a5 := Tryz.isAgg5
  z5 := Tryz.sizeOf5
  v5 := Tryz.zeroValue5
  t9 := Tryz.underlying9
  a9 := Tryz.isAgg9
  z9 := Tryz.sizeOf9
  v9 := Tryz.zeroValue9
  t20 := Tryz.underlying20
  a20 := Tryz.isAgg20
  z20 := Tryz.sizeOf20
  v20 := Tryz.zeroValue20
  t37 := Tryz.underlying22
  a37 := Tryz.isAgg22
  z37 := Tryz.sizeOf22
  v37 := Tryz.zeroValue22
  t46 := Tryz.underlying125
  a46 := Tryz.isAgg125
  z46 := Tryz.sizeOf125
  v46 := Tryz.zeroValue125
  t51 := Tryz.underlying117
  a51 := Tryz.isAgg117
  z51 := Tryz.sizeOf117
  v51 := Tryz.zeroValue117
  t53 := Tryz.underlying133
  a53 := Tryz.isAgg133
  z53 := Tryz.sizeOf133
  v53 := Tryz.zeroValue133
  t171 := Tryz.underlying132
  a171 := Tryz.isAgg132
  z171 := Tryz.sizeOf132
  v171 := Tryz.zeroValue132
  t173 := Tryz.underlying136
  a173 := Tryz.isAgg136
  z173 := Tryz.sizeOf136
  v173 := Tryz.zeroValue136
  t212 := Tryz.underlying144
  a212 := Tryz.isAgg144
  z212 := Tryz.sizeOf144
  v212 := Tryz.zeroValue144
  t213 := Tryz.underlying145
  a213 := Tryz.isAgg145
  z213 := Tryz.sizeOf145
  t232 := Tryz.underlying152
  a232 := Tryz.isAgg152
  z232 := Tryz.sizeOf152
  v232 := Tryz.zeroValue152
  t233 := Tryz.underlying153
  a233 := Tryz.isAgg153
  z233 := Tryz.sizeOf153
  v233 := Tryz.zeroValue153
  g17 := by kernel_rfl
  g18 := by kernel_rfl
  g19 := by kernel_rfl
  i0 := by kernel_rfl
  i2 := by kernel_rfl
  i3 := by kernel_rfl
  i4 := by kernel_rfl
  i5 := by kernel_rfl
  i9 := by kernel_rfl
  i20 := by kernel_rfl
  i37 := by kernel_rfl
  i46 := by kernel_rfl
  i51 := by kernel_rfl
  i53 := by kernel_rfl
  i171 := by kernel_rfl
  i173 := by kernel_rfl
  i212 := by kernel_rfl
  i232 := by kernel_rfl
  i233 := by kernel_rfl
  m17 := by kernel_rfl
  m18 := by kernel_rfl
  m19 := by kernel_rfl }
open Go.RowKit Go.Sort Go.Lib in
theorem Tryz.strconv_Itoa (n : Int) (h0 : -9223372036854775808 ≤ n) (h1 : n ≤ 9223372036854775807) (w : World) (htab : Lib.TabIs Tryz.prog w "internal/strconv.uint64pow10" .u64 Lib.pow10Tab) :
    Calls Tryz.prog 89 #[.int .i64 n] w fun e w' => e = .returned (.string ⟨(Lib.itoa n).toArray⟩) ∧ ∃ k os, w' = grow (w.drewN k) os := Any.strconv_Itoa Tryz.laysM171 n h0 h1 w htab
def Tryz.laysC172_ren : Go.Shelf.Ren := ⟨fun | 172 => 110 | 244 => 122 | 245 => 123 | 247 => 130 | 279 => 131 | 280 => 132 | 281 => 133 | 282 => 134 | 287 => 141 | 316 => 142 | 171 => 89 | 205 => 143 | 321 => 149 | 322 => 150 | 243 => 112 | 246 => 124 | 283 => 135 | 284 => 136 | 285 => 137 | 286 => 138 | 129 => 145 | 317 => 144 | 318 => 146 | 319 => 147 | 320 => 148 | 337 => 151 | 338 => 152 | n => n, fun | 9 => 9 | 3 => 3 | 75 => 95 | 76 => 108 | 4 => 4 | 5 => 5 | 167 => 126 | 37 => 22 | 0 => 0 | 85 => 127 | 2 => 2 | 168 => 129 | 53 => 133 | 175 => 138 | 46 => 125 | 210 => 141 | 127 => 116 | 145 => 150 | 143 => 148 | 21 => 21 | 171 => 132 | 173 => 136 | 212 => 144 | 51 => 117 | 20 => 20 | 213 => 145 | 232 => 152 | 233 => 153 | 80 => 110 | n => n, fun | 15 => 2 | 16 => 3 | 17 => 4 | 18 => 5 | 19 => 6 | n => n⟩
theorem Tryz.laysC172 : Go.Proofs.LaysC.n172 Tryz.prog Tryz.laysC172_ren := {
  mixed := by kernel_rfl
  f129 := Tryz.func145.trans (congrArg some (by kernel_rfl))
  f171 := Tryz.func89.trans (congrArg some (by kernel_rfl))
  f172 := Tryz.func110.trans (congrArg some (by kernel_rfl))
  f205 := Tryz.func143.trans (congrArg some (by kernel_rfl))
  f243 := Tryz.func112.trans (congrArg some (by kernel_rfl))
  f244 := Tryz.func122.trans (congrArg some (by kernel_rfl))
  f245 := Tryz.func123.trans (congrArg some (by kernel_rfl))
  f246 := Tryz.func124.trans (congrArg some (by kernel_rfl))
  f247 := Tryz.func130.trans (congrArg some (by kernel_rfl))
  f279 := Tryz.func131.trans (congrArg some (by kernel_rfl))
  f280 := Tryz.func132.trans (congrArg some (by kernel_rfl))
  f281 := Tryz.func133.trans (congrArg some (by kernel_rfl))
  f282 := Tryz.func134.trans (congrArg some (by kernel_rfl))
  f283 := Tryz.func135.trans (congrArg some (by kernel_rfl))
  f284 := Tryz.func136.trans (congrArg some (by kernel_rfl))
  f285 := Tryz.func137.trans (congrArg some (by kernel_rfl))
  f286 := Tryz.func138.trans (congrArg some (by kernel_rfl))
  f287 := Tryz.func141.trans (congrArg some (by kernel_rfl))
  f316 := Tryz.func142.trans (congrArg some (by kernel_rfl))
  f317 := Tryz.func144.trans (congrArg some (by kernel_rfl))
  f318 := Tryz.func146.trans (congrArg some (by kernel_rfl))
  f319 := Tryz.func147.trans (congrArg some (by kernel_rfl))
  f320 := Tryz.func148.trans (congrArg some (by kernel_rfl))
  f321 := Tryz.func149.trans (congrArg some (by kernel_rfl))
  f322 := Tryz.func150.trans (congrArg some (by kernel_rfl))
  f337 := Tryz.func151.trans (congrArg some (by kernel_rfl))
  f338 := Tryz.func152.trans (congrArg some (by kernel_rfl))
  t0 := Tryz.underlying0
  a0 := Tryz.isAgg0
  z0 := Tryz.sizeOf0
  v0 := Tryz.zeroValue0
  t2 := Tryz.underlying2
  a2 := Tryz.isAgg2
  z2 := Tryz.sizeOf2
  v2 := Tryz.zeroValue2
  t3 := Tryz.underlying3
  a3 := Tryz.isAgg3
  z3 := Tryz.sizeOf3
  v3 := Tryz.zeroValue3
  t4 := Tryz.underlying4
  a4 := Tryz.isAgg4
  z4 := Tryz.sizeOf4
  v4 := Tryz.zeroValue4
  t5 := Tryz.underlying5
  a5 := Tryz.isAgg5
  z5 := Tryz.sizeOf5
  v5 := Tryz.zeroValue5
  t9 := Tryz.underlying9
  a9 := Tryz.isAgg9
  z9 := Tryz.sizeOf9
  v9 := Tryz.zeroValue9
  t20 := Tryz.underlying20
  a20 := Tryz.isAgg20
  z20 := Tryz.sizeOf20
  v20 := Tryz.zeroValue20
  t21 := Tryz.underlying21
  a21 := Tryz.isAgg21
  z21 := Tryz.sizeOf21
  v21 := Tryz.zeroValue21
  t37 := Tryz.underlying22
  a37 := Tryz.isAgg22
  z37 := Tryz.sizeOf22
  v37 := Tryz.zeroValue22
  t46 := Tryz.underlying125
  a46 := Tryz.isAgg125
  z46 := Tryz.sizeOf125
  v46 := Tryz.zeroValue125
  t51 := Tryz.underlying117
  a51 := Tryz.isAgg117
  z51 := Tryz.sizeOf117
  v51 := Tryz.zeroValue117
  t53 := Tryz.underlying133
  a53 := Tryz.isAgg133
  z53 := Tryz.sizeOf133
  v53 := Tryz.zeroValue133
  t75 := Tryz.underlying95
  a75 := Tryz.isAgg95
  z75 := Tryz.sizeOf95
  v75 := Tryz.zeroValue95
  t76 := Tryz.underlying108
  a76 := Tryz.isAgg108
  z76 := Tryz.sizeOf108
  v76 := Tryz.zeroValue108
  t85 := Tryz.underlying127
  a85 := Tryz.isAgg127
  z85 := Tryz.sizeOf127
  v85 := Tryz.zeroValue127
  t127 := Tryz.underlying116
  a127 := Tryz.isAgg116
  z127 := Tryz.sizeOf116
  v127 := Tryz.zeroValue116
  t143 := Tryz.underlying148
  a143 := Tryz.isAgg148
  z143 := Tryz.sizeOf148
  v143 := Tryz.zeroValue148
  t145 := Tryz.underlying150
  a145 := Tryz.isAgg150
  z145 := Tryz.sizeOf150
  v145 := Tryz.zeroValue150
  t167 := Tryz.underlying126
  a167 := Tryz.isAgg126
  z167 := Tryz.sizeOf126
  v167 := Tryz.zeroValue126
  t168 := Tryz.underlying129
  a168 := Tryz.isAgg129
  z168 := Tryz.sizeOf129
  v168 := Tryz.zeroValue129
  t171 := Tryz.underlying132
  a171 := Tryz.isAgg132
  z171 := Tryz.sizeOf132
  v171 := Tryz.zeroValue132
  t173 := Tryz.underlying136
  a173 := Tryz.isAgg136
  z173 := Tryz.sizeOf136
  v173 := Tryz.zeroValue136
  t175 := Tryz.underlying138
  a175 := Tryz.isAgg138
  z175 := Tryz.sizeOf138
  v175 := Tryz.zeroValue138
  t210 := Tryz.underlying141
  a210 := Tryz.isAgg141
  z210 := Tryz.sizeOf141
  v210 := Tryz.zeroValue141
  t212 := Tryz.underlying144
  a212 := Tryz.isAgg144
  z212 := Tryz.sizeOf144
  v212 := Tryz.zeroValue144
  t213 := Tryz.underlying145
  a213 := Tryz.isAgg145
  z213 := Tryz.sizeOf145
  t232 := Tryz.underlying152
  a232 := Tryz.isAgg152
  z232 := Tryz.sizeOf152
  v232 := Tryz.zeroValue152
  t233 := Tryz.underlying153
  a233 := Tryz.isAgg153
  z233 := Tryz.sizeOf153
  v233 := Tryz.zeroValue153
  g15 := by kernel_rfl
  g16 := by kernel_rfl
  g17 := by kernel_rfl
  g18 := by kernel_rfl
  g19 := by kernel_rfl
  t80 := Tryz.underlying110
  a80 := Tryz.isAgg110
  z80 := Tryz.sizeOf110
  v80 := Tryz.zeroValue110
  i0 := by kernel_rfl
  i2 := by kernel_rfl
  i3 := by kernel_rfl
  i4 := by kernel_rfl
  i5 := by kernel_rfl
  i9 := by kernel_rfl
  i20 := by kernel_rfl
  i21 := by kernel_rfl
  i37 := by kernel_rfl
  i46 := by kernel_rfl
  i51 := by kernel_rfl
  i53 := by kernel_rfl
  i75 := by kernel_rfl
  i76 := by kernel_rfl
  i80 := by kernel_rfl
  i85 := by kernel_rfl
  i127 := by kernel_rfl
  i143 := by kernel_rfl
  i145 := by kernel_rfl
  i167 := by kernel_rfl
  i168 := by kernel_rfl
  i171 := by kernel_rfl
  i173 := by kernel_rfl
  i175 := by kernel_rfl
  i210 := by kernel_rfl
  i212 := by kernel_rfl
  i232 := by kernel_rfl
  i233 := by kernel_rfl
  m15 := by kernel_rfl
  m16 := by kernel_rfl
  m17 := by kernel_rfl
  m18 := by kernel_rfl
  m19 := by kernel_rfl
  c0 := by kernel_rfl
  c2 := by kernel_rfl
  c3 := by kernel_rfl
  c4 := by kernel_rfl
  c5 := by kernel_rfl
  c9 := by kernel_rfl
  c20 := by kernel_rfl
  c21 := by kernel_rfl
  c37 := by kernel_rfl
  c46 := by kernel_rfl
  c51 := by kernel_rfl
  c53 := by kernel_rfl
  c75 := by kernel_rfl
  c76 := by kernel_rfl
  c80 := by kernel_rfl
  c85 := by kernel_rfl
  c127 := by kernel_rfl
  c143 := by kernel_rfl
  c145 := by kernel_rfl
  c167 := by kernel_rfl
  c168 := by kernel_rfl
  c171 := by kernel_rfl
  c173 := by kernel_rfl
  c175 := by kernel_rfl
  c210 := by kernel_rfl
  c212 := by kernel_rfl
  c213 := by kernel_rfl
  c232 := by kernel_rfl
  c233 := by kernel_rfl }
open Go.RowKit in
theorem Tryz.strconv_Atoi_ok (s : ByteArray) (hmax : s.size ≤ 9223372036854775806) (v : Int) (h : Lib.atoiAll s.data.toList = .ok v) (w : World) :
    Calls Tryz.prog 110 #[.string s] w fun e w' => e = .returned (.tuple #[.int .i64 v, .nilIface]) ∧ (w' = w ∨ ∃ t, w' = Lib.bytesWorld w 5 t) := Any.strconv_Atoi_ok Tryz.laysC172 s hmax v h w
open Go.RowKit in
theorem Tryz.strconv_Atoi_syntax (s : ByteArray) (hlim : s.size ≤ 281474976710656) (h : Lib.atoiAll s.data.toList = Lib.atoiAll []) (ev : Value) (w : World) (hv : w.cell? ⟨2, 0, none⟩ = some ev) (hev : ev = .nilIface ∨ ∃ te pe, ev = .iface te pe) :
    Calls Tryz.prog 110 #[.string s] w fun e w' => ∃ N, e = .returned (.tuple #[.int .i64 (0), .iface 129 (.pointer (some ⟨N, 0, none⟩))]) ∧ w.heap.size ≤ N ∧ w'.heap[N]? = some (.cells #[.string ⟨#[65, 116, 111, 105]⟩, .string s, ev] 141 (0, 0)) ∧ Below w.heap.size w w' := Any.strconv_Atoi_syntax Tryz.laysC172 s hlim h ev w hv hev
open Go.RowKit in
theorem Tryz.strconv_Atoi_range (s : ByteArray) (hlim : s.size ≤ 281474976710656) (h : Lib.atoiAll s.data.toList = .range) (ev : Value) (w : World) (hv : w.cell? ⟨3, 0, none⟩ = some ev) (hev : ev = .nilIface ∨ ∃ te pe, ev = .iface te pe) :
    Calls Tryz.prog 110 #[.string s] w fun e w' => ∃ N, e = .returned (.tuple #[.int .i64 (Lib.atoiSat s.data.toList), .iface 129 (.pointer (some ⟨N, 0, none⟩))]) ∧ w.heap.size ≤ N ∧ w'.heap[N]? = some (.cells #[.string ⟨#[65, 116, 111, 105]⟩, .string s, ev] 141 (0, 0)) ∧ Below w.heap.size w w' := Any.strconv_Atoi_range Tryz.laysC172 s hlim h ev w hv hev
def Tryz.lays145_ren : Go.Shelf.Ren := ⟨fun | 145 => 102 | 220 => 117 | 219 => 116 | 217 => 126 | 225 => 127 | 224 => 128 | 267 => 129 | 266 => 139 | 314 => 140 | n => n, fun | 9 => 9 | 4 => 4 | 59 => 113 | 3 => 3 | 5 => 5 | 46 => 125 | 146 => 118 | 51 => 117 | n => n, fun | 1 => 1 | n => n⟩
theorem Tryz.lays145 : Go.Proofs.Lays.n145 Tryz.prog Tryz.lays145_ren := {
  mixed := by kernel_rfl
  f145 := Tryz.func102.trans (congrArg some (by kernel_rfl))
  f217 := Tryz.func126.trans (congrArg some (by kernel_rfl))
  f219 := Tryz.func116.trans (congrArg some (by kernel_rfl))
  f220 := Tryz.func117.trans (congrArg some (by kernel_rfl))
  f224 := Tryz.func128.trans (congrArg some (by kernel_rfl))
  f225 := Tryz.func127.trans (congrArg some (by kernel_rfl))
  f266 := Tryz.func139.trans (congrArg some (by kernel_rfl))
  f267 := Tryz.func129.trans (congrArg some (by kernel_rfl))
  f314 := Tryz.func140.trans (congrArg some (by kernel_rfl))
  t3 := Tryz.underlying3
  a3 := Tryz.isAgg3
  z3 := Tryz.sizeOf3
  v3 := Tryz.zeroValue3
  t4 := Tryz.underlying4
  a4 := Tryz.isAgg4
  z4 := Tryz.sizeOf4
  v4 := Tryz.zeroValue4
  t5 := Tryz.underlying5
  a5 := Tryz.isAgg5
  z5 := Tryz.sizeOf5
  v5 := Tryz.zeroValue5
  t9 := Tryz.underlying9
  a9 := Tryz.isAgg9
  z9 := Tryz.sizeOf9
  v9 := Tryz.zeroValue9
  t46 := Tryz.underlying125
  a46 := Tryz.isAgg125
  z46 := Tryz.sizeOf125
  v46 := Tryz.zeroValue125
  t51 := Tryz.underlying117
  a51 := Tryz.isAgg117
  z51 := Tryz.sizeOf117
  v51 := Tryz.zeroValue117
  t59 := Tryz.underlying113
  a59 := Tryz.isAgg113
  z59 := Tryz.sizeOf113
  v59 := Tryz.zeroValue113
  t146 := Tryz.underlying118
  a146 := Tryz.isAgg118
  z146 := Tryz.sizeOf118
  v146 := Tryz.zeroValue118
  g1 := by kernel_rfl }
open Go.RowKit Go.Lib in
theorem Tryz.strings_Cut (s sep : ByteArray) (m : Int) (w : World) (hs : s.size < 4294967281) (hm : w.cell? ⟨1, 0, none⟩ = some (.int .i64 m)) :
    Calls Tryz.prog 102 #[.string s, .string sep] w fun e w' => e = .returned (.tuple #[.string ⟨(Lib.cut s.data.toList sep.data.toList).1.toArray⟩, .string ⟨(Lib.cut s.data.toList sep.data.toList).2.1.toArray⟩, .bool (Lib.cut s.data.toList sep.data.toList).2.2]) ∧ ∃ n, w' = w.drewN n := Any.strings_Cut Tryz.lays145 s sep m w hs hm
end Go.Proofs
namespace Go.Proofs.YtffmbccgcaghjaaGreatDoor.P
open Go Go.Proofs.YtffmbccgcaghjaaGreatDoorUFnRwrStays.PrintLast Go.Proofs.YtffmbccgcaghjaaGreatDoorUFnRwrStays.PrintMore Go.Proofs.YtffmbccgcaghjaaGreatDoorUFnRwrStays.PrintWords Go.RowKit Go.Sort
set_option linter.unusedVariables false
theorem var_below {P : Program} {n : String} {cs : Array Value} {w w' : World} (h : w.var? P n = some cs) (b : Below w.heap.size w w') : w'.var? P n = some cs := by
  simp only [World.var?] at h ⊢
  cases hg : P.globalNamed n with
  | none => rw [hg] at h; exact h
  | some g =>
    rw [hg] at h
    simp only [Option.bind_some] at h ⊢
    cases hk : w.heap[g]? with
    | none => rw [hk] at h; simp at h
    | some o => rw [b.block g (Array.getElem?_eq_some_iff.1 hk).1, hk]; rw [hk] at h; exact h
theorem cell_below {g : Nat} {v : Value} {w w' : World} (h : w.cell? ⟨g, 0, none⟩ = some v) (b : Below w.heap.size w w') : w'.cell? ⟨g, 0, none⟩ = some v := by
  simp only [World.cell?] at h ⊢
  cases hk : w.heap[g]? with
  | none => rw [hk] at h; simp at h
  | some o => rw [b.block g (Array.getElem?_eq_some_iff.1 hk).1, hk]; rw [hk] at h; exact h
structure EnvT (w : World) : Prop where
  pow : Lib.TabIs Tryz.prog w "internal/strconv.uint64pow10" .u64 Lib.pow10Tab
theorem EnvT.below {w w' : World} (h : EnvT w) (b : Below w.heap.size w w') : EnvT w' := ⟨var_below h.pow b⟩
theorem below_grow {B : Nat} {a w : World} (h : Below B a w) (hB : B ≤ w.heap.size) (os : Array Obj) : Below B a (grow w os) :=
  h.trans ⟨rfl, rfl, rfl, by simp [grow], fun k hk => by simp only [grow]; rw [Array.getElem?_append_left (by omega)]⟩
theorem itoa_calls (n : Int) (h0 : 0 ≤ n) (h1 : n ≤ 1000000) (w : World) (hE : EnvT w) :
    Calls Tryz.prog 89 #[.int .i64 n] w fun e w' => e = .returned (.string ⟨(Lib.itoa n).toArray⟩) ∧ Below w.heap.size w w' := by
  refine (Tryz.strconv_Itoa n (by omega) (by omega) w hE.pow).mono ?_
  rintro e w' ⟨rfl, k, os, rfl⟩
  exact ⟨rfl, below_grow (below_drewN (Below.refl _ _) k) (Nat.le_refl _) os⟩
theorem toList_inj {a b : ByteArray} (h : a.toList = b.toList) : a = b := by
  rw [ByteArray.toList_eq, ByteArray.toList_eq] at h
  cases a; cases b; simp at h; rw [h]
def numB (n : Int) : ByteArray := ⟨(Lib.itoa n).toArray⟩
theorem numB_size {n : Int} (h0 : 0 ≤ n) (h1 : n ≤ 999) : (numB n).size ≤ 3 := by
  obtain ⟨k, rfl⟩ : ∃ k : Nat, n = k := ⟨n.toNat, by omega⟩
  have hk : k < 1000 := by omega
  have h3 : Lib.nDigits k ≤ 3 := by
    by_cases a : k < 10
    · rw [Lib.nDigits_small a]; omega
    · rw [Lib.nDigits_big a]
      by_cases b : k / 10 < 10
      · rw [Lib.nDigits_small b]; omega
      · rw [Lib.nDigits_big b, Lib.nDigits_small (by omega)]; omega
  have : (Lib.itoa (k : Int)).length ≤ 3 := by
    unfold Lib.itoa
    rw [if_neg (by omega), Lib.decDigits_length]
    simpa using h3
  simpa [numB, ByteArray.size] using this
theorem num_calls (n : Int) (h0 : 0 ≤ n) (h1 : n ≤ 999) (w : World) (hE : EnvT w) :
    Calls Tryz.prog 89 #[.int .i64 n] w fun e w' => ∃ b : ByteArray, e = .returned (.string b) ∧ b = numB n ∧ b.size ≤ 3 ∧ Below w.heap.size w w' := by
  refine (itoa_calls n h0 (by omega) w hE).mono ?_
  rintro e w' ⟨rfl, hb⟩
  exact ⟨_, rfl, rfl, numB_size h0 h1, hb⟩
structure Env (w : World) : Prop where
  t : EnvT w
  max : ∃ m, w.cell? ⟨1, 0, none⟩ = some (.int .i64 m)
  syn : ∃ te pe, w.cell? ⟨2, 0, none⟩ = some (.iface te pe)
  rng : ∃ te pe, w.cell? ⟨3, 0, none⟩ = some (.iface te pe)
theorem Env.below {w w' : World} (h : Env w) (b : Below w.heap.size w w') : Env w' :=
  ⟨h.t.below b, h.max.elim fun m hm => ⟨m, cell_below hm b⟩, h.syn.elim fun a ha => ha.elim fun c hc => ⟨a, c, cell_below hc b⟩, h.rng.elim fun a ha => ha.elim fun c hc => ⟨a, c, cell_below hc b⟩⟩
theorem below_bytesE (w : World) (e : TypeId) (s : ByteArray) : Below w.heap.size w (Lib.bytesWorld w e s) := by
  refine ⟨?_, ?_, ?_, ?_, fun k hk => Lib.bytesWorld_at_old w e s k hk⟩ <;> unfold Lib.bytesWorld World.freeze <;> simp [World.alloc, World.drew, -World.alloc_eq, -World.drew_eq]
theorem end_cases (x : Lib.NumEnd Int) : (∃ n, x = .ok n) ∨ x = .range ∨ x = Lib.atoiAll [] := by
  cases x <;> first | exact .inl ⟨_, rfl⟩ | exact .inr (.inl rfl) | exact .inr (.inr rfl)
def atoiP (s : ByteArray) (v : Int) (ev : Value) : Prop := (Lib.atoiAll s.data.toList = .ok v ∧ ev = .nilIface) ∨ ((∀ n, Lib.atoiAll s.data.toList ≠ .ok n) ∧ ∃ t p, ev = .iface t p)
theorem atoi_calls (s : ByteArray) (hs : s.size ≤ 281474976710656) (w : World) (hE : Env w) :
    Calls Tryz.prog 110 #[.string s] w fun e w' => ∃ (v : Int) (ev : Value), e = .returned (.tuple #[.int .i64 v, ev]) ∧ atoiP s v ev ∧ Below w.heap.size w w' := by
  rcases end_cases (Lib.atoiAll s.data.toList) with ⟨n, h⟩ | h | h
  · refine (Tryz.strconv_Atoi_ok s (by omega) n h w).mono ?_
    rintro e w' ⟨rfl, hw⟩
    refine ⟨n, .nilIface, rfl, .inl ⟨h, rfl⟩, ?_⟩
    rcases hw with rfl | ⟨t, rfl⟩
    · exact Below.refl _ _
    · exact below_bytesE _ _ _
  · obtain ⟨te, pe, hv⟩ := hE.rng
    refine (Tryz.strconv_Atoi_range s hs h _ w hv (.inr ⟨te, pe, rfl⟩)).mono ?_
    rintro e w' ⟨N, rfl, _, _, hb⟩
    exact ⟨_, _, rfl, .inr ⟨fun n hn => (by rw [h] at hn; cases hn), _, _, rfl⟩, hb⟩
  · obtain ⟨te, pe, hv⟩ := hE.syn
    refine (Tryz.strconv_Atoi_syntax s hs h _ w hv (.inr ⟨te, pe, rfl⟩)).mono ?_
    rintro e w' ⟨N, rfl, _, _, hb⟩
    exact ⟨_, _, rfl, .inr ⟨fun n hn => (by rw [h] at hn; cases hn), _, _, rfl⟩, hb⟩
def atoiO (s : ByteArray) : Option Int := match Lib.atoiAll s.data.toList with | .ok n => some n | _ => none
theorem atoi_ok (s : ByteArray) (hs : s.size ≤ 281474976710656) (v : Int) (h : atoiO s = some v) (w : World) (hE : Env w) :
    Calls Tryz.prog 110 #[.string s] w fun e w' => e = .returned (.tuple #[.int .i64 v, .nilIface]) ∧ Below w.heap.size w w' := by
  refine (atoi_calls s hs w hE).mono ?_
  rintro e w' ⟨v', ev, rfl, hp, hb⟩
  rcases hp with ⟨h1, rfl⟩ | ⟨h1, _⟩
  · unfold atoiO at h; rw [h1] at h; cases h; exact ⟨rfl, hb⟩
  · unfold atoiO at h
    rcases end_cases (Lib.atoiAll s.data.toList) with ⟨n, h2⟩ | h2 | h2
    · exact absurd h2 (h1 n)
    · rw [h2] at h; cases h
    · rw [h2] at h; cases h
theorem atoi_no (s : ByteArray) (hs : s.size ≤ 281474976710656) (h : atoiO s = none) (w : World) (hE : Env w) :
    Calls Tryz.prog 110 #[.string s] w fun e w' => ∃ v t p, e = .returned (.tuple #[.int .i64 v, .iface t p]) ∧ Below w.heap.size w w' := by
  refine (atoi_calls s hs w hE).mono ?_
  rintro e w' ⟨v', ev, rfl, hp, hb⟩
  rcases hp with ⟨h1, rfl⟩ | ⟨h1, t, p, rfl⟩
  · unfold atoiO at h; rw [h1] at h; cases h
  · exact ⟨_, _, _, rfl, hb⟩
structure EnvE (w : World) : Prop where
  e : Env w
  err : ∃ te pe, w.cell? ⟨0, 0, none⟩ = some (.iface te pe)
theorem EnvE.below {w w' : World} (h : EnvE w) (b : Below w.heap.size w w') : EnvE w' :=
  ⟨h.e.below b, h.err.elim fun a ha => ha.elim fun c hc => ⟨a, c, cell_below hc b⟩⟩
end Go.Proofs.YtffmbccgcaghjaaGreatDoor.P
namespace Go.Proofs.YtffmbccgcaghjaaGreatDoor.P
open Go Go.RowKit
set_option linter.unusedVariables false
theorem laid_iface {P : Program} {n nm : String} {d : DataW Unit} {r : List (String × DataW Unit)} {W : World} {g : Nat} {ti : TypeId} {ms : Array (String × TypeId)}
    (h : laidMet P ((n, .iface nm d) :: r) W) (hg : P.globalNamed n = some g) (ht : (P.globals[g]?).map (·.type) = some ti) (hi : P.underlying ti = some (.interface ms)) :
    ∃ u v, W.cell? ⟨g, 0, none⟩ = some (.iface u v) := by
  obtain ⟨ps, ⟨g0, t0, cs0, f0, p0, q0, hg0, ht0, hv0, hd0, _, e0⟩, _, hrows⟩ := h
  obtain rfl := Option.some.inj (hg.symm.trans hg0)
  obtain rfl := Option.some.inj (ht.symm.trans ht0)
  obtain ⟨f1, u, v, hc, _⟩ := iface_of_trod hi hd0
  refine ⟨u, v, ?_⟩
  have := World.var?_cell hg0 hv0 0
  rw [Array.eq_one_of_toList hc] at this
  simpa using this
theorem laid_one {P : Program} {L : List (String × DataW Unit)} {W : World} (h : laidMetH P L W) (n : String) {x : String × DataW Unit} (e : (L.filter fun x => x.1 == n) = [x]) (hx : x.2.handleName?.isNone = true) : laidMet P [x] W := by
  have h1 := h.filter (fun x => x.1 == n)
  rw [e, MakeChecks.laidMetH_plain _ _ _ (by simp [hx])] at h1
  exact h1
theorem envT_of {L : List (String × DataW Unit)} {W : World} (h : laidMetH Tryz.prog L W)
    (e : (L.filter fun x => x.1 == "internal/strconv.uint64pow10") = [("internal/strconv.uint64pow10", Lib.tabData .u64 Lib.pow10Tab)]) : EnvT W :=
  ⟨Lib.tabIs_of_head (g := 4) (by kernel_rfl) (by kernel_rfl) Tryz.underlying144 Tryz.underlying133 (by kernel_rfl) (by kernel_rfl) (laid_one h _ e rfl)⟩
theorem env_of {L : List (String × DataW Unit)} {W : World} (h : laidMetH Tryz.prog L W) (hs : W.ShapedOpen Tryz.prog)
    (e : (L.filter fun x => x.1 == "internal/strconv.uint64pow10") = [("internal/strconv.uint64pow10", Lib.tabData .u64 Lib.pow10Tab)])
    (e1 : (L.filter fun x => x.1 == "strconv.ErrSyntax") = [("strconv.ErrSyntax", Rows.laid_strconv_ErrSyntax)])
    (e2 : (L.filter fun x => x.1 == "strconv.ErrRange") = [("strconv.ErrRange", Rows.laid_strconv_ErrRange)]) : Env W :=
  ⟨envT_of h e, cell_of_shapedOpen_int (zero := #[.int .i64 0]) (t := 3) hs (of_decide_eq_true (by kernel_rfl)) (by kernel_rfl) rfl (by kernel_rfl) (by kernel_rfl) Tryz.underlying3,
   laid_iface (laid_one h _ e1 rfl) (by kernel_rfl) (by kernel_rfl) Tryz.underlying95, laid_iface (laid_one h _ e2 rfl) (by kernel_rfl) (by kernel_rfl) Tryz.underlying95⟩
theorem envE_of {L : List (String × DataW Unit)} {W : World} (h : laidMetH Tryz.prog L W) (hs : W.ShapedOpen Tryz.prog)
    (e : (L.filter fun x => x.1 == "internal/strconv.uint64pow10") = [("internal/strconv.uint64pow10", Lib.tabData .u64 Lib.pow10Tab)])
    (e1 : (L.filter fun x => x.1 == "strconv.ErrSyntax") = [("strconv.ErrSyntax", Rows.laid_strconv_ErrSyntax)])
    (e2 : (L.filter fun x => x.1 == "strconv.ErrRange") = [("strconv.ErrRange", Rows.laid_strconv_ErrRange)])
    (e3 : (L.filter fun x => x.1 == "loop.example/hatchway/impl.errEnd") = [("loop.example/hatchway/impl.errEnd", Rows.laid_loop_example_hatchway_impl_errEnd)]) : EnvE W :=
  ⟨env_of h hs e e1 e2, laid_iface (laid_one h _ e3 rfl) (by kernel_rfl) (by kernel_rfl) Tryz.underlying95⟩
theorem witness_laid {H : Type} {enc : TypeId × Value → H} {os : Os} {f : FuncId} {fn : Func} {s : OpenSpec} {conds : List PathCond} {apart : Bool} {laid : List (String × DataW Unit)} (args : Array Value)
    (hsh : ((World.laidAll Tryz.prog os laid).forCall (fun _ _ => 0) ⟨#[], args, []⟩).Shaped Tryz.prog)
    (hok : Input.okWideB Tryz.prog ((World.laidAll Tryz.prog os laid).forCall (fun _ _ => 0) ⟨#[], args, []⟩) f ⟨#[], args, []⟩ = true)
    (hrow : s.preRow enc Tryz.prog fn conds apart laid ((World.laidAll Tryz.prog os laid).forCall (fun _ _ => 0) ⟨#[], args, []⟩).memory args) :
    ∃ (w : World) (tape : Tape) (i : Input), w.os = os ∧ (w.forCall tape i).Shaped Tryz.prog ∧ i.vars = [] ∧ Input.okWide Tryz.prog (w.forCall tape i) .any w.heap.size f i ∧
      s.preRow enc Tryz.prog fn conds apart laid (w.forCall tape i).memory i.args ∧ ({} : Assume).holds Tryz.prog (lone (Frame.enter Tryz.prog f i.args .normal) [] (w.forCall tape i)) :=
  ⟨World.laidAll Tryz.prog os laid, fun _ _ => 0, ⟨#[], args, []⟩, World.laidAll_os _ _ _, hsh, (Input.okWide_of_okWideB (base := 0) hok).1, (Input.okWide_of_okWideB hok).2, hrow, by simp [Assume.holds]⟩
end Go.Proofs.YtffmbccgcaghjaaGreatDoor.P
namespace Go.Proofs.YtffmbccgcaghjaaGreatDoor.P
open Go.Proofs.YtffmbccgcaghjaaGreatDoorUFnRwrStays.PrintLast Go.Proofs.YtffmbccgcaghjaaGreatDoorUFnRwrStays.PrintMore Go.Proofs.YtffmbccgcaghjaaGreatDoorUFnRwrStays.PrintWords Go.RowKit
set_option linter.unusedVariables false
set_option linter.unusedSimpArgs false
section
attribute [local go_sem] max2_int min2_int max_two min_two max_three min_three max_four min_four
theorem eqA34 (d : Nat) (w : World) (x0 y0 : Int) (x1 y1 : Int) :
  (Op.equalIn (d + 2) 34 (.agg #[.int .i64 x0,.int .i64 x1]) (.agg #[.int .i64 y0,.int .i64 y1])).run Tryz.prog w = .ok (x0 == y0 && (x1 == y1)) w:=by
 refine eqA_of Tryz.underlying34 (by kernel_rfl) ?_
 refine eqf_cons (by rfl) (by go_simp;rfl) (by go_simp;rfl) (by go_simp) ?_
 exact eqf_last (by rfl) (by go_simp;rfl) (by go_simp;rfl) (by go_simp)
end
theorem bk {w W : World} {g : Nat} {o : Obj} (b : Aside0 (w.heap[g]? = some o)) (s : w.heap[g]? = some o → W.heap[g]? = some o := by intro h; (with_reducible repeat (first | refine blk_drewN ?_ _ | refine blk_drew ?_ | refine blk_alloc ?_ _)); exact h) : W.heap[g]? = some o := s b.out
theorem bkL {w W : World} {g : Nat} {o : Obj} (b : Aside0 (w.heap[g]? = some o)) (s : w.heap[g]? = some o → W.heap[g]? = some o := by intro h; (with_reducible repeat (first | refine blk_drewN ?_ _ | refine blk_drew ?_ | refine blk_alloc ?_ _)); exact h) : g < W.heap.size := blk_lt (s b.out)
theorem bkB {w W W' : World} {g : Nat} {o : Obj} (b : Aside0 (w.heap[g]? = some o)) (hb : Below W.heap.size W W') (s : w.heap[g]? = some o → W.heap[g]? = some o := by intro h; (with_reducible repeat (first | refine blk_drewN ?_ _ | refine blk_drew ?_ | refine blk_alloc ?_ _)); exact h) : Aside0 (W'.heap[g]? = some o) := ⟨blk_below (s b.out) hb⟩
theorem bl {w W W' : World} {n : Nat} (b : Aside0 (Below n w W)) (s : Below n w W → Below n w W' := by intro h; repeat (first | (with_reducible first | exact h | apply below_alloc | apply pw_below_drewN | apply below_drew1 | refine below_set ?_ (Aside0.out (by with_reducible assumption))) | exact h)) : Below n w W' := s b.out
theorem rs {α : Type} {d : Kd α} {e : Nat} {w W : World} {base : Nat} {ok : Nat → Prop} {v : Value} {xs : List α} (b : Aside0 (Kd.R d e w base ok v xs)) (s : Kd.R d e w base ok v xs → Kd.R d e W base ok v xs := by intro h; (with_reducible repeat (first | apply Kd.R_alloc | apply Kd.R_drewN | apply Kd.R_drew)); exact h) : Kd.R d e W base ok v xs := s b.out
class Up (w : outParam World) (W : World) : Prop where
  up : ∀ {g : Nat} {o : Obj}, w.heap[g]? = some o → W.heap[g]? = some o
instance up_drew (w : World) : Up w w.drew := ⟨fun h => blk_drew h⟩
instance up_drewN (w : World) (n : Nat) : Up w (w.drewN n) := ⟨fun h => blk_drewN h n⟩
instance up_alloc (w : World) (o : Obj) : Up w (w.alloc o) := ⟨fun h => blk_alloc h o⟩
theorem bu {w W : World} [u : Up w W] {g : Nat} {o : Obj} (h : w.heap[g]? = some o) : W.heap[g]? = some o := u.up h
class UpR (w : outParam World) (W : World) : Prop where
  up : ∀ {α : Type} {d : Kd α} {e base : Nat} {ok : Nat → Prop} {v : Value} {xs : List α}, Kd.R d e w base ok v xs → Kd.R d e W base ok v xs
instance upR_drew (w : World) : UpR w w.drew := ⟨fun h => Kd.R_drew h⟩
instance upR_drewN (w : World) (n : Nat) : UpR w (w.drewN n) := ⟨fun h => Kd.R_drewN h n⟩
instance upR_alloc (w : World) (o : Obj) : UpR w (w.alloc o) := ⟨fun h => Kd.R_alloc h o⟩
theorem ru {w W : World} [u : UpR w W] {α : Type} {d : Kd α} {e base : Nat} {ok : Nat → Prop} {v : Value} {xs : List α} (h : Kd.R d e w base ok v xs) : Kd.R d e W base ok v xs := u.up h
theorem farN {g b : Nat} {w W : World} {p : Addr} {v : Option Value} (h : b ≠ g) (e : w.cell? p = v) (hb : p.block = b := by first | rfl | exact add_block _ _ | (simp [add_block]; done))
    (s : ∀ x : Addr, x.block ≠ g → W.cell? x = w.cell? x := by intro x hx; (with_reducible repeat refine (cell_far hx _).trans ?_); with_reducible rfl) : W.cell? p = v := (s p (by rw [hb]; exact h)).trans e
end Go.Proofs.YtffmbccgcaghjaaGreatDoor.P
namespace Go.Proofs.YtffmbccgcaghjaaGreatDoor.P
open Go.Proofs.YtffmbccgcaghjaaGreatDoorUFnRwrStays.PrintWords Go.Proofs.YtffmbccgcaghjaaGreatDoorUFnRwrStays.PrintLast Go.Proofs.YtffmbccgcaghjaaGreatDoorUFnRwrStays.PrintMore
set_option linter.unusedVariables false
open Go.RowKit
theorem am {p : Prop} (h : p) : Aside0 p := ⟨h⟩
theorem bse {α β : Type} {o : Option α} {f : α → Option β} {r : β} (h : o.bind f = some r) : ∃ t, Aside0 (o = some t) ∧ f t = some r := by obtain ⟨t, a, b⟩ := Option.bind_eq_some_iff.mp h; exact ⟨t, ⟨a⟩, b⟩
theorem bfz {w : World} {g : Nat} {t : TypeId} {cs : Array Value} (b : Aside0 (w.heap[g]? = some (.cells cs t (0, 0)))) (i : Nat) : w.frozen? ⟨g, i, none⟩ = false := blk_frozen b.out i
theorem bf_ {w W : World} {g : Nat} {o : Obj} (b : Aside0 (w.heap[g]? = some o)) (s : w.heap[g]? = some o → W.heap[g]? = some o := by intro h; repeat (first | (with_reducible refine bu ?_) | (refine blk_far ?_ (Aside0.out (by with_reducible assumption)) _) | exact h)) : Aside0 (W.heap[g]? = some o) := ⟨s b.out⟩
theorem rcx {α : Type} {d : Kd α} {e base c n : Nat} {ok : Nat → Prop} {w W : World} {A : Option Addr} {xs : List α} (b : Aside0 (d.R e w base ok (.slice A n c) xs)) (s : d.C w A xs.length xs → d.C W A xs.length xs := by intro h; repeat (first | exact h | (with_reducible refine Kd.C_alloc ?_ _) | (with_reducible refine Kd.C_drewN ?_ _) | (with_reducible refine Kd.C_drew ?_))) : d.C W A xs.length xs := s (Kd.R_reads' b.out).2.2
theorem ckp_ {W W2 : World} {S : Nat → Prop} {a : Addr} {v : Value} (hc : W.cell? a = some v) (hk : Kept W W2 S) (hne : ¬ S a.block) : W2.cell? a = some v := cell_kept hc hk hne
def bm (n k : Nat) : Array Bool := ((List.range n).map fun i => k.testBit i).toArray
theorem fi_ {p : Prop} (h : p := by first | rfl | (simp [errW_none, errW_some] <;> rfl) | (simp [*, errW_none, errW_some] <;> rfl)) : p := h
theorem hr_ {p : Prop} (h : p := by first | (go_simp; done) | (go_simp; rfl)) : p := h
theorem gwE {w W W' : World} {g : Nat} (b : Aside0 (Below w.heap.size w W)) (hg : g = W'.heap.size) (s : Below w.heap.size w W → Below w.heap.size w W' := by intro h; repeat (first | (with_reducible first | exact h | apply below_alloc | apply pw_below_drewN | apply below_drew1 | refine below_set ?_ (Aside0.out (by with_reducible assumption))) | exact h)) : Aside0 (w.heap.size ≤ g) := ⟨hg ▸ below_size (s b.out)⟩
theorem hbS {w W W' W2 : World} (b : Aside0 (Below w.heap.size w W)) (hb : Below W'.heap.size W' W2) (s : Below w.heap.size w W → Below w.heap.size w W' := by intro h; repeat (first | (with_reducible first | exact h | apply below_alloc | apply pw_below_drewN | apply below_drew1 | refine below_set ?_ (Aside0.out (by with_reducible assumption))) | exact h)) : Aside0 (Below w.heap.size w W2) := ⟨below_step (s b.out) hb⟩
theorem neL {w W : World} {g g' : Nat} {o : Obj} (b : Aside0 (w.heap[g]? = some o)) (hg : g' = W.heap.size) (s : w.heap[g]? = some o → W.heap[g]? = some o := by intro h; (with_reducible repeat (first | refine blk_drewN ?_ _ | refine blk_drew ?_ | refine blk_alloc ?_ _)); exact h) : Aside0 (g ≠ g') := ⟨hg ▸ Nat.ne_of_lt (blk_lt (s b.out))⟩
theorem neG {w W : World} {g g' : Nat} {o : Obj} (b : Aside0 (w.heap[g]? = some o)) (hg : g' = W.heap.size) (s : w.heap[g]? = some o → W.heap[g]? = some o := by intro h; (with_reducible repeat (first | refine blk_drewN ?_ _ | refine blk_drew ?_ | refine blk_alloc ?_ _)); exact h) : Aside0 (g' ≠ g) := ⟨hg ▸ Nat.ne_of_gt (blk_lt (s b.out))⟩
theorem bcell {w : World} {g : Nat} {cs : Array Value} {t : TypeId} (b : Aside0 (w.heap[g]? = some (.cells cs t (0, 0)))) (i : Nat) {v : Value} (h : cs.toList[i]? = some v := by exact rfl) : w.cell? ⟨g, i, none⟩ = some v := (blk_cell b.out i).trans (by rw [← Array.getElem?_toList]; exact h)
theorem gL {P : Program} {ops : Array Oper} {rest : List Oper} {Q : Exit → Act → World → Prop} {oi : Oper} {a : Act} {w : World} (N : Option Tmp) {f : FuncId} {fn : Func} {ar : Array Operand} {ts : Array TypeId} (hf : P.funcs[f]? = some fn) (args : Array Value)
    (h : Calls P f args w fun e w' => ∃ v, e = .returned v ∧ wpList P ops Q rest (a.put N v) w')
    (hd : oi.dst = N := by exact rfl) (hg : oi.guard = none := by exact rfl) (hname : (fn.name == "runtime.NumGoroutine") = false := by kernel_rfl) (hb : fn.body.isSome = true := by exact rfl)
    (hop : oi.op = .call { callee := .value (.func f), args := ar, argTypes := ts } := by exact rfl) (hargs : ar.map a.eval = args := by (try simp only [List.map_toArray, List.map_cons, List.map_nil]); first | done | rfl | (simp only [List.length_drop, List.length_take]; rfl)) :
    wpList P ops Q (oi :: rest) a w := goesL_ N hd hg hf hname hb args hop hargs h
theorem gR {P : Program} {ops : Array Oper} {Q : Exit → Act → World → Prop} {oi : Oper} {N : Option Tmp} {a : Act} {w : World} {K : Act → World → Prop} {f : FuncId} {fn : Func} {ar : Array Operand} {ts : Array TypeId} (hf : P.funcs[f]? = some fn) (args : Array Value)
    (h : Calls P f args w fun e w' => ∃ v, e = .returned v ∧ K (a.put N v) w')
    (hname : (fn.name == "runtime.NumGoroutine") = false := by kernel_rfl) (hb : fn.body.isSome = true := by exact rfl) (hw : Region.wanted oi (yielded ops a.tmps) = true := by rfl) (hN : oi.dst = N := by exact rfl)
    (hop : oi.op = .call { callee := .value (.func f), args := ar, argTypes := ts } := by exact rfl) (hargs : ar.map a.eval = args := by (try simp only [List.map_toArray, List.map_cons, List.map_nil]); first | done | rfl | (simp only [List.length_drop, List.length_take]; rfl)) :
    if Region.wanted oi (yielded ops a.tmps) = true then Oper.wp P oi a w K Q else K (a.put N undef) w := goes_ hf hname hb args hw hN hop hargs h
theorem bcl {w W : World} (b : Aside0 (Below w.heap.size w W)) {a : Addr} {v : Value} (h : w.cell? a = some v) : W.cell? a = some v := (b.out.cell (World.block_lt_of_cell? w _ h)).trans h
theorem bch {w W : World} (b : Below w.heap.size w W) {a : Addr} {v : Value} (h : w.cell? a = some v) : W.cell? a = some v := (b.cell (World.block_lt_of_cell? w _ h)).trans h
theorem da_ {p : Prop} (h : p := by first | (with_reducible assumption) | assumption) : p := h
theorem isE_ne (l : List UInt8) : l.isEmpty = !(l != []) := by cases l <;> rfl
theorem rs_ {p : Prop} (h : p := by first | rfl | (simp; done) | (simp [*]; done) | (simp; exact isE_ne _)) : p := h
theorem ok_ {p q : Nat → Prop} (h : ∀ k, p k → q k := by intro k hk; first | exact hk | trivial | (simp only [hk, ne_eq, not_false_eq_true, and_self])) : ∀ k, p k → q k := h
section
variable {P : Program} {ops : Array Oper} {Q : Exit → Act → World → Prop} {md : Region.Mode} {S : World → Prop} {ds : List Nat} {oi : Oper} {v : Value} {fuel : Nat} {l : Array Bool} {a a' : Act} {w : World}
theorem pu_ (i : Nat) (N : Option Tmp) (l' : Array Bool) (h : wpAnyLast P md ops Q S ds fuel l' a' w) (hi : ops[i]? = some oi := by exact rfl) (hN : oi.dst = N := by exact rfl)
    (hc : anyB md ops l l' i = true := by first | exact any_of HT_.out (by kernel_rfl) | kernel_rfl) (hQ : ∀ c a w, Q (.panic c) (a.put oi.dst v) w → Q (.panic c) a w := by exact fun _ _ _ h => h)
    (hy : Yields P ops oi v a := by (refine Or.inl ⟨by rfl, ?_⟩; intro w'; go_simp; with_reducible rfl)) (ha : a.put N v = a' := by (simp only [Act.put, List.setIfInBounds_toArray, List.set_cons_zero, List.set_cons_succ, i64_w, i32_w]; rfl)) :
    wpAnyLast P md ops Q S ds (fuel + 1) l a w := pure_ l' hi hN hc hQ hy ha h
theorem pv_ (i : Nat) (N : Option Tmp) (l' : Array Bool) (h : wpAnyLast P md ops Q S ds fuel l' a' w) (hi : ops[i]? = some oi := by exact rfl) (hN : oi.dst = N := by exact rfl)
    (hc : anyB md ops l l' i = true := by first | exact any_of HT_.out (by kernel_rfl) | kernel_rfl) (hQ : ∀ c a w, Q (.panic c) (a.put oi.dst undef) w → Q (.panic c) a w := by exact fun _ _ _ h => h)
    (hy : Yields P ops oi undef a := by exact Or.inr ⟨by rfl, rfl⟩) (ha : a.put N undef = a' := by (simp only [Act.put, List.setIfInBounds_toArray, List.set_cons_zero, List.set_cons_succ, i64_w, i32_w]; rfl)) :
    wpAnyLast P md ops Q S ds (fuel + 1) l a w := pure_ l' hi hN hc hQ hy ha h
theorem tk_ (i : Nat) (N : Option Tmp) (l' : Array Bool) (hi : ops[i]? = some oi) (hy : YieldsIf P ops S oi v a) (h : wpAnyLast P md ops Q S ds fuel l' a' w) (hN : oi.dst = N := by exact rfl)
    (hc : takeB md ops ds l l' i = true := by first | exact take_ofW HT_.out HW_.out (by kernel_rfl) | kernel_rfl) (hQ : ∀ c a w, Q (.panic c) (a.put oi.dst v) w → Q (.panic c) a w := by exact fun _ _ _ h => h)
    (hS : S w := by exact hHeld) (ha : a.put N v = a' := by (simp only [Act.put, List.setIfInBounds_toArray, List.set_cons_zero, List.set_cons_succ, i64_w, i32_w]; rfl)) :
    wpAnyLast P md ops Q S ds (fuel + 1) l a w := take_ l' hi hN hc hQ hy hS ha h
theorem nm_ (h : wpAnyLast P md ops Q S ds fuel l a' w) (ha : a = a' := by (show Act.put _ (some _) _ = _; simp only [Act.put, List.setIfInBounds_toArray, List.set_cons_zero, List.set_cons_succ, i64_w, i32_w]; rfl)) : wpAnyLast P md ops Q S ds fuel l a w := norm_ ha h
theorem on_ (i : Nat) (N : Option Tmp) (l' : Array Bool)
    (h : ∀ K : Act → World → Prop, Shut (∀ a' w', S w' → (S w' → wpAnyLast P md ops Q S ds fuel l' a' w') → K a' w') → if Region.wanted oi (yielded ops a.tmps) = true then Oper.wp P oi a w K Q else K (a.put N undef) w)
    (hi : ops[i]? = some oi := by exact rfl) (hN : oi.dst = N := by exact rfl) (hc : readyB md ops l l' i = true := by exact one_of HT_.out (by kernel_rfl)) (hd : i ∉ ds := by decide) :
    wpAnyLast P md ops Q S ds (fuel + 1) l a w := one_ l' hi hN hc hd h
end
theorem m0_ {p : Prop} (h : p := by repeat (first | (with_reducible first | exact HB.out | apply below_alloc | apply pw_below_drewN | apply below_drew1) | exact HB.out)) : p := h
theorem m1_ {p : Prop} (h : p := by repeat (first | exact (Kd.C_below HR0.out HB.out) | (with_reducible refine Kd.C_alloc ?_ _) | (with_reducible refine Kd.C_drewN ?_ _) | (with_reducible refine Kd.C_drew ?_))) : p := h
theorem m2_ {p : Prop} (h : p := by repeat (first | (with_reducible first | exact HB.out | apply below_alloc | apply pw_below_drewN | apply below_drew1 | refine below_set ?_ (Aside0.out (by with_reducible assumption))) | exact HB.out)) : p := h
theorem m3_ {p : Prop} (h : p := by (rintro w' ⟨s0, s1⟩; go_simp; with_reducible rfl)) : p := h
theorem m4_ {p : Prop} (h : p := by repeat (first | exact (Kd.C_below HR0_0.out HB.out) | (with_reducible refine Kd.C_alloc ?_ _) | (with_reducible refine Kd.C_drewN ?_ _) | (with_reducible refine Kd.C_drew ?_))) : p := h
theorem m6_ {p : Prop} (h : p := by repeat (first | (with_reducible first | exact HI270.out | apply IsS84.alloc | apply IsS84.drewN | apply IsS84.drew | apply IsS84.set_1 | refine IsS84.far ?_ (Aside0.out (by with_reducible assumption)) _) | exact HI270.out)) : p := h
theorem m7_ {p : Prop} (h : p := by repeat (first | (with_reducible first | exact HB.out | apply below_alloc | apply pw_below_drewN | apply below_drew1 | refine below_set ?_ (IsS84.ge HI270.out) | refine below_set ?_ (Aside0.out (by with_reducible assumption))) | exact HB.out)) : p := h
theorem m8_ {p : Prop} (h : p := by repeat (first | exact (Kd.C_below HR121.out HB.out) | (with_reducible refine Kd.C_alloc ?_ _) | (with_reducible refine Kd.C_drewN ?_ _) | (with_reducible refine Kd.C_drew ?_))) : p := h
theorem m9_ {p : Prop} (h : p := by (rintro w' ⟨s0, s1, s2, s3, s4⟩; go_simp; with_reducible rfl)) : p := h
theorem m10_ {p : Prop} (h : p := by (rintro w' ⟨s0, s1, s2⟩; go_simp; with_reducible rfl)) : p := h
theorem m11_ {p : Prop} (h : p := by repeat (first | exact (Kd.C_below HR298.out HB.out) | (with_reducible refine Kd.C_alloc ?_ _) | (with_reducible refine Kd.C_drewN ?_ _) | (with_reducible refine Kd.C_drew ?_))) : p := h
theorem m12_ {p : Prop} (h : p := by repeat (first | exact HR463.out | (with_reducible refine Kd.C_alloc ?_ _) | (with_reducible refine Kd.C_drewN ?_ _) | (with_reducible refine Kd.C_drew ?_))) : p := h
theorem m13_ {p : Prop} (h : p := by repeat (first | exact HR1.out | (with_reducible refine Kd.C_alloc ?_ _) | (with_reducible refine Kd.C_drewN ?_ _) | (with_reducible refine Kd.C_drew ?_))) : p := h
theorem m15_ {p : Prop} (h : p := by repeat (first | (with_reducible first | exact HK.out | apply Kept.alloc | apply Kept.drewN | apply Kept.drew) | exact HK.out)) : p := h
theorem m16_ {p : Prop} (h : p := by repeat (first | (with_reducible first | exact HK.out | apply Kept.alloc | apply Kept.drewN | apply Kept.drew | refine Kept.setCell (w := w) ?_ (.inr (Aside0.out (by with_reducible assumption))) _) | exact HK.out)) : p := h
theorem m17_ {p : Prop} (h : p := by repeat (first | (with_reducible first | exact HI591.out | apply IsS84.alloc | apply IsS84.drewN | apply IsS84.drew | apply IsS84.set_1 | refine IsS84.far ?_ (Aside0.out (by with_reducible assumption)) _) | exact HI591.out)) : p := h
theorem m18_ {p : Prop} (h : p := by repeat (first | (with_reducible first | exact HB.out | apply below_alloc | apply pw_below_drewN | apply below_drew1 | refine below_set ?_ (IsS84.ge HI591.out) | refine below_set ?_ (Aside0.out (by with_reducible assumption))) | exact HB.out)) : p := h
theorem m19_ {p : Prop} (h : p := by repeat (first | (with_reducible first | exact HI675.out | apply IsS84.alloc | apply IsS84.drewN | apply IsS84.drew | apply IsS84.set_1 | refine IsS84.far ?_ (Aside0.out (by with_reducible assumption)) _) | exact HI675.out)) : p := h
theorem m20_ {p : Prop} (h : p := by repeat (first | (with_reducible first | exact HB.out | apply below_alloc | apply pw_below_drewN | apply below_drew1 | refine below_set ?_ (IsS84.ge HI675.out) | refine below_set ?_ (Aside0.out (by with_reducible assumption))) | exact HB.out)) : p := h
theorem m21_ {p : Prop} (h : p := by repeat (first | (with_reducible first | exact HBW.out | apply below_alloc | apply pw_below_drewN | apply below_drew1) | exact HBW.out)) : p := h
theorem m22_ {p : Prop} (h : p := by repeat (first | (with_reducible first | exact HBW.out | apply below_alloc | apply pw_below_drewN | apply below_drew1 | refine below_set ?_ (Aside0.out (by with_reducible assumption))) | exact HBW.out)) : p := h
theorem m23_ {p : Prop} (h : p := by repeat (first | (with_reducible first | exact HB.out | apply below_alloc | apply pw_below_drewN | apply below_drew1 | refine below_set ?_ (IsS84.ge HI0.out)) | exact HB.out)) : p := h
theorem m24_ {p : Prop} (h : p := by repeat (first | (with_reducible first | exact HK.out | apply KeepBut.set_ | apply keep_drewN | apply keep_drew | apply keep_alloc) | exact HK.out)) : p := h
theorem m25_ {p : Prop} (h : p := by repeat (first | (with_reducible first | exact HI0.out | apply IsS84.alloc | apply IsS84.drewN | apply IsS84.drew | apply IsS84.set_1) | exact HI0.out)) : p := h
theorem m26_ {p : Prop} (h : p := by repeat (first | (with_reducible first | exact HB.out | apply below_alloc | apply pw_below_drewN | apply below_drew1 | refine below_set ?_ (IsS84.ge HI0.out) | refine below_set ?_ (Aside0.out (by with_reducible assumption))) | exact HB.out)) : p := h
theorem m27_ {p : Prop} (h : p := by repeat (first | (with_reducible first | exact HK.out | apply KeepBut.set_ | apply keep_drewN | apply keep_drew | apply keep_alloc | refine keep_far (w := w) ?_ (Aside0.out (by with_reducible assumption)) _) | exact HK.out)) : p := h
theorem m28_ {p : Prop} (h : p := by repeat (first | (with_reducible first | exact HI0.out | apply IsS84.alloc | apply IsS84.drewN | apply IsS84.drew | apply IsS84.set_1 | refine IsS84.far ?_ (Aside0.out (by with_reducible assumption)) _) | exact HI0.out)) : p := h
theorem m30_ {p : Prop} (h : p := by repeat (first | (with_reducible first | exact HI575.out | apply IsS84.alloc | apply IsS84.drewN | apply IsS84.drew | apply IsS84.set_1) | exact HI575.out)) : p := h
theorem m31_ {p : Prop} (h : p := by repeat (first | (with_reducible first | exact HB.out | apply below_alloc | apply pw_below_drewN | apply below_drew1 | refine below_set ?_ (IsS84.ge HI575.out)) | exact HB.out)) : p := h
theorem gC {P : Program} {ops : Array Oper} {Q : Exit → Act → World → Prop} {o : Oper} {rest : List Oper} {a : Act} {W : World} (f : FuncId) {aa : Array Operand} {ts : Array TypeId} (_ho : o.op = .call { callee := .value (.func f), args := aa, argTypes := ts }) (h : wpList P ops Q (o :: rest) a W) : wpList P ops Q (o :: rest) a W := h
theorem gD {P : Program} {ops : Array Oper} {Q : Exit → Act → World → Prop} {o : Oper} {rest : List Oper} {a : Act} {W : World} (N : Tmp) (_hN : o.dst = some N) (h : wpList P ops Q (o :: rest) a W) : wpList P ops Q (o :: rest) a W := h
theorem fr_ {p : Prop} (h : p := by first | rfl | (simp; done) | (simp [*]; done)) : p := h
theorem dn_ {v w : World} (h : Drawn0 v w := by repeat (first | exact Drawn0.refl _ | apply Drawn0.step)) : Drawn0 v w := h
end Go.Proofs.YtffmbccgcaghjaaGreatDoor.P
namespace Go.Proofs.YtffmbccgcaghjaaGreatDoor.P
open Go.Proofs.YtffmbccgcaghjaaGreatDoorUFnRwrStays.PrintLast Go.Proofs.YtffmbccgcaghjaaGreatDoorUFnRwrStays.PrintMore Go.Proofs.YtffmbccgcaghjaaGreatDoorUFnRwrStays.PrintWords Go.RowKit
set_option linter.unusedVariables false
set_option linter.unusedSimpArgs false
section
attribute [local go_sem] max2_int min2_int max_two min_two max_three min_three max_four min_four
attribute [local go_sem high] eqA34
def laws_haEnds.l0 : Nat → List (S34) → List (S34) → Int → Option (Bool)
 | 0,_,_,_=>none
 | k + 1,x0,x1,x5=>if x5 < (x0.length : Int) then (if 0 ≤ x5 then (if x5 < (x1.length : Int) then (if (!(((rd_T34 x0 x5).f0) == ((rd_T34 x1 x5).f0)) || (!(((rd_T34 x0 x5).f1) == ((rd_T34 x1 x5).f1)))) = true then (some false) else (laws_haEnds.l0 k x0 x1 (wrap64 (x5 + 1)))) else (none)) else (none)) else (some true)
def laws_haEnds.f (k : Nat) (l0 : List (S34)) (l1 : List (S34)) : Option (Bool):=if (l0.length : Int) = (l1.length : Int) then (laws_haEnds.l0 k l0 l1 0) else (some false)
theorem laws_haEnds.mono_l : ∀ k,(∀ y0 y1 y2,LeO (laws_haEnds.l0 k y0 y1 y2) (laws_haEnds.l0 (k + 1) y0 y1 y2))
 | 0=>fun _ _ _ r h=>by simp [laws_haEnds.l0] at h
 | k + 1=>by
  have ih0:=laws_haEnds.mono_l k
  ·intro y0 y1 y2
   unfold laws_haEnds.l0
   repeat' first | (with_reducible first | exact ih0 _ _ _ | exact LeO.refl _ | exact LeO.none _ | refine LeO.ite ?_ ?_ | refine LeO.bind ?_ (fun _=>?_)) | exact ih0 _ _ _ | exact LeO.none _ | refine LeO.ite ?_ ?_ | refine LeO.bind ?_ (fun _=>?_)
theorem laws_haEnds.mono : ∀ a0 a1 k,LeO (laws_haEnds.f k a0 a1) (laws_haEnds.f (k + 1) a0 a1):=by
 intro a0 a1 k
 have ih0:=laws_haEnds.mono_l k
 unfold laws_haEnds.f
 repeat' first | (with_reducible first | exact ih0 _ _ _ | exact LeO.refl _ | exact LeO.none _ | refine LeO.ite ?_ ?_ | refine LeO.bind ?_ (fun _=>?_)) | exact ih0 _ _ _ | exact LeO.none _ | refine LeO.ite ?_ ?_ | refine LeO.bind ?_ (fun _=>?_)
set_option maxHeartbeats 8000000 in
set_option maxRecDepth 100000 in
theorem laws_haEnds.calls (k : Nat) (A0 : Option Addr) (c0 : Nat) (l0 : List (S34)) (A1 : Option Addr) (c1 : Nat) (l1 : List (S34)) (r : Bool) (w : World) (hr0 : Kd.C k34 w A0 l0.length l0) (hc0 : l0.length ≤ c0) (hr1 : Kd.C k34 w A1 l1.length l1) (hc1 : l1.length ≤ c1) (h : laws_haEnds.f k l0 l1 = some r) :
  Calls Tryz.prog 15 #[.slice A0 l0.length c0,.slice A1 l1.length c1] w fun e w'=>e = .returned (.bool r) ∧ Drawn0 w w':=by
 have hu34:=Tryz.underlying34
 have HR0:=am hr0
 have HC0:=am hc0
 clear hr0 hc0
 have HR1:=am hr1
 have HC1:=am hc1
 clear hr1 hc1
 have H : (if (l0.length : Int) = (l1.length : Int) then (laws_haEnds.l0 k l0 l1 0) else (some false)) = some r:=h
 clear h
 by_cases c3 : (l0.length : Int) = (l1.length : Int)
 ·rw [if_pos c3] at H
  have c3b0 : ((l0.length : Int) == (l1.length : Int)) = true:=beq_iff_eq.mpr c3
  have c3b1 : ((l0.length : Int) != (l1.length : Int)) = false:=bne_eq_false_iff_eq.mpr c3
  have c3b2 : (l0.length == l1.length) = true:=by first | simpa using c3 | (simp at c3 ⊢;omega)
  clear c3
  have H':=am H
  clear H
  go_enter Tryz.func15,Tryz.ntmps15
  go_wp2
  repeat (go_quiet (fail);try go_wp2)
  go_loopg [5] k (fun kq v5 w'=>∃ (x5_1 : Int),v5 = .int .i64 x5_1 ∧ Aside0 (laws_haEnds.l0 kq l0 l1 x5_1 = some r) ∧ Aside0 (kq ≤ k) ∧ Drawn0 w w')
  case atStart=>exact ⟨(0),rs_,H',⟨Nat.le_refl _⟩,by repeat (first | exact Drawn0.refl _ | apply Drawn0.step)⟩
  case round=>
   clear H'
   try clear c1
   try clear p2
   try clear c3
   try clear c3b0
   try clear c3b1
   try clear c3b2
   obtain ⟨x5_1,rfl,HA,HK1,⟨m1,rfl⟩⟩:=hrel
   cases gk with
   | zero=>exact absurd HA.out (by simp [laws_haEnds.l0])
   | succ k1=>
    have H:=HA.out
    clear HA
    simp only [laws_haEnds.l0] at H
    by_cases c4 : x5_1 < (l0.length : Int)
    ·rw [if_pos c4] at H
     have c4b0 : decide (x5_1 < (l0.length : Int)) = true:=decide_eq_true c4
     clear c4
     by_cases c5 : 0 ≤ x5_1
     ·rw [if_pos c5] at H
      have c5b0 : decide (0 ≤ x5_1) = true:=decide_eq_true c5
      clear c5
      by_cases c6 : x5_1 < (l1.length : Int)
      ·rw [if_pos c6] at H
       have c6b0 : decide (x5_1 < (l1.length : Int)) = true:=decide_eq_true c6
       clear c6
       by_cases c7 : (!(((rd_T34 l0 x5_1).f0) == ((rd_T34 l1 x5_1).f0)) || (!(((rd_T34 l0 x5_1).f1) == ((rd_T34 l1 x5_1).f1)))) = true
       ·rw [if_pos c7] at H
        have c7b0 : (!(((rd_T34 l0 x5_1).f0) == ((rd_T34 l1 x5_1).f0)) || (!(((rd_T34 l0 x5_1).f1) == ((rd_T34 l1 x5_1).f1)))) = true:=c7
        clear c7
        obtain rfl:=Option.some.inj H
        have p457 : 0 ≤ (x5_1 : Int):=of_decide_eq_true da_
        have q457 : x5_1 < (l0.length : Int):=of_decide_eq_true da_
        obtain ⟨ad457,e457,hx457_0,hx457_1⟩:=at_T34 HR0.out x5_1 p457 q457
        cases e457
        replace p457:=eq_true p457
        replace q457:=eq_true q457
        have p458 : 0 ≤ (x5_1 : Int):=of_decide_eq_true da_
        have q458 : x5_1 < (l1.length : Int):=of_decide_eq_true da_
        obtain ⟨ad458,e458,hx458_0,hx458_1⟩:=at_T34 HR1.out x5_1 p458 q458
        cases e458
        replace p458:=eq_true p458
        replace q458:=eq_true q458
        go_wp2
        repeat (go_quiet (fail);try go_wp2)
        go_ret
        exact ⟨fr_,dn_⟩
       ·rw [if_neg c7] at H
        have c7b0 : (!(((rd_T34 l0 x5_1).f0) == ((rd_T34 l1 x5_1).f0)) || (!(((rd_T34 l0 x5_1).f1) == ((rd_T34 l1 x5_1).f1)))) = false:=by simpa using c7
        clear c7
        have H':=am H
        clear H
        have p457 : 0 ≤ (x5_1 : Int):=of_decide_eq_true da_
        have q457 : x5_1 < (l0.length : Int):=of_decide_eq_true da_
        obtain ⟨ad457,e457,hx457_0,hx457_1⟩:=at_T34 HR0.out x5_1 p457 q457
        cases e457
        replace p457:=eq_true p457
        replace q457:=eq_true q457
        have p458 : 0 ≤ (x5_1 : Int):=of_decide_eq_true da_
        have q458 : x5_1 < (l1.length : Int):=of_decide_eq_true da_
        obtain ⟨ad458,e458,hx458_0,hx458_1⟩:=at_T34 HR1.out x5_1 p458 q458
        cases e458
        replace p458:=eq_true p458
        replace q458:=eq_true q458
        go_wp2
        repeat (go_quiet (fail);try go_wp2)
        go_roundg k1
        case measure=>have:=HK1.out;omega
        case rel=>exact ⟨(wrap64 (x5_1 + 1)),rs_,H',⟨by have:=HK1.out;omega⟩,by repeat (first | exact Drawn0.refl _ | apply Drawn0.step)⟩
      ·rw [if_neg c6] at H
       exact absurd H (by simp)
     ·rw [if_neg c5] at H
      exact absurd H (by simp)
    ·rw [if_neg c4] at H
     have c4b0 : decide (x5_1 < (l0.length : Int)) = false:=decide_eq_false c4
     clear c4
     obtain rfl:=Option.some.inj H
     go_wp2
     repeat (go_quiet (fail);try go_wp2)
     go_ret
     exact ⟨fr_,dn_⟩
 ·rw [if_neg c3] at H
  have c3b0 : ((l0.length : Int) == (l1.length : Int)) = false:=beq_eq_false_iff_ne.mpr c3
  have c3b1 : ((l0.length : Int) != (l1.length : Int)) = true:=bne_iff_ne.mpr c3
  have c3b2 : (l0.length == l1.length) = false:=by first | simpa using c3 | (simp at c3 ⊢;omega)
  obtain rfl:=Option.some.inj H
  go_enter Tryz.func15,Tryz.ntmps15
  go_wp2
  repeat (go_quiet (fail);try go_wp2)
  go_ret
  exact ⟨fr_,dn_⟩
end
section
attribute [local go_sem] max2_int min2_int max_two min_two max_three min_three max_four min_four
def spec_l1In.f (a0 : Int) (a1 : Int) (a2 : Int) : Option (Bool):=if a0 ≥ a1 then (some (decide (a0 ≤ a2))) else (some false)
set_option maxHeartbeats 8000000 in
set_option maxRecDepth 100000 in
theorem spec_l1In.calls (a0 : Int) (a1 : Int) (a2 : Int) (r : Bool) (w : World) (h : spec_l1In.f a0 a1 a2 = some r) :
  Calls Tryz.prog 81 #[.int .i64 a0,.int .i64 a1,.int .i64 a2] w fun e w'=>e = .returned (.bool r) ∧ Drawn0 w w':=by
 have H : (if a0 ≥ a1 then (some (decide (a0 ≤ a2))) else (some false)) = some r:=h
 clear h
 by_cases c4 : a0 ≥ a1
 ·rw [if_pos c4] at H
  have c4b0 : decide (a1 ≤ a0) = true:=decide_eq_true c4
  clear c4
  obtain rfl:=Option.some.inj H
  go_enter Tryz.func81,Tryz.ntmps81
  go_wp2
  go_ret
  exact ⟨fr_,dn_⟩
 ·rw [if_neg c4] at H
  have c4b0 : decide (a1 ≤ a0) = false:=decide_eq_false c4
  clear c4
  obtain rfl:=Option.some.inj H
  go_enter Tryz.func81,Tryz.ntmps81
  go_wp2
  go_ret
  exact ⟨fr_,dn_⟩
def spec_EndInside.f (a0_0 : Int) (a0_1 : Int) : Option (Bool):=(spec_l1In.f a0_0 1 9).bind fun t110=>(if t110 = true then ((spec_l1In.f a0_1 1 999).bind fun t111=>(some t111)) else (some false))
set_option maxHeartbeats 8000000 in
set_option maxRecDepth 100000 in
theorem spec_EndInside.calls (a0_0 : Int) (a0_1 : Int) (r : Bool) (w : World) (h : spec_EndInside.f a0_0 a0_1 = some r) :
  Calls Tryz.prog 48 #[.agg #[.int .i64 a0_0,.int .i64 a0_1]] w fun e w'=>e = .returned (.bool r) ∧ Below w.heap.size w w':=by
 have hu34:=Tryz.underlying34
 have HB:=am (Below.refl w.heap.size w)
 have H : ((spec_l1In.f a0_0 1 9).bind fun t110=>(if t110 = true then ((spec_l1In.f a0_1 1 999).bind fun t111=>(some t111)) else (some false))) = some r:=h
 clear h
 obtain ⟨t110,A2,H⟩:=bse H
 try dsimp only at H
 by_cases c3 : t110 = true
 ·subst c3
  have H1 : ((spec_l1In.f a0_1 1 999).bind fun t111=>(some t111)) = some r:=by rw [if_pos rfl] at H;exact H
  clear H
  have H:=H1
  clear H1
  obtain ⟨t111,A4,H⟩:=bse H
  try dsimp only at H
  obtain rfl:=Option.some.inj H
  go_enter Tryz.func48,Tryz.ntmps48
  go_wp2_with (first | ((with_reducible refine gD 1 rfl ?_);refine box_event rfl (N:=1) rfl (cs:=#[.int .i64 a0_0,.int .i64 a0_1]) (t:=34) hr_ ?_;intro gb109 hg w5 hbox hb;have BK109:=am hbox;have GW109:=gwE HB hg;have GE109:=gwE HB hg;replace HB:=hbS HB hb;clear hb hbox hg;have:=bcell BK109 0;have:=bcell BK109 1;have:=bfz BK109 0;have:=bfz BK109 1) | ((with_reducible refine gC 81 rfl ?_);refine gL (some 5) Tryz.func81 #[.int .i64 a0_0,.int .i64 1,.int .i64 9] ?_;(with_reducible refine (spec_l1In.calls a0_0 1 9 true _ A2.out).mono ?_);rintro e w' ⟨rfl,⟨nd,rfl⟩⟩;refine ⟨_,rfl,?_⟩) | (go_at_call 81;(with_reducible refine (spec_l1In.calls a0_1 1 999 t111 _ A4.out).mono ?_);rintro e w' ⟨rfl,⟨nd,rfl⟩⟩))
  go_ret
  exact ⟨fi_,m2_⟩
 ·replace c3:=Bool.eq_false_iff.mpr c3
  subst c3
  have H1 : (some false) = some r:=by rw [if_neg (show ¬ (false = true) by decide)] at H;exact H
  clear H
  have H:=H1
  clear H1
  obtain rfl:=Option.some.inj H
  go_enter Tryz.func48,Tryz.ntmps48
  go_wp2_with (first | ((with_reducible refine gD 1 rfl ?_);refine box_event rfl (N:=1) rfl (cs:=#[.int .i64 a0_0,.int .i64 a0_1]) (t:=34) hr_ ?_;intro gb109 hg w7 hbox hb;have BK109:=am hbox;have GW109:=gwE HB hg;have GE109:=gwE HB hg;replace HB:=hbS HB hb;clear hb hbox hg;have:=bcell BK109 0;have:=bcell BK109 1;have:=bfz BK109 0;have:=bfz BK109 1) | ((with_reducible refine gC 81 rfl ?_);refine gL (some 5) Tryz.func81 #[.int .i64 a0_0,.int .i64 1,.int .i64 9] ?_;(with_reducible refine (spec_l1In.calls a0_0 1 9 false _ A2.out).mono ?_);rintro e w' ⟨rfl,⟨nd,rfl⟩⟩;refine ⟨_,rfl,?_⟩))
  go_ret
  exact ⟨fi_,m2_⟩
end
section
attribute [local go_sem] max2_int min2_int max_two min_two max_three min_three max_four min_four
attribute [local go_sem high] eqA34
def spec_l3Find.l0 : Nat → Int → List (S34) → Int → Int → Option (Int)
 | 0,_,_,_,_=>none
 | k + 1,x5,x113000,x114000,x114001=>if x5 < (x113000.length : Int) then (if 0 ≤ x5 then (if (((rd_T34 x113000 x5).f0) == x114000 && (((rd_T34 x113000 x5).f1) == x114001)) = true then (some x5) else (spec_l3Find.l0 k (wrap64 (x5 + 1)) x113000 x114000 x114001)) else (none)) else (some (-1))
def spec_l3Find.f (k : Nat) (l0_0 : List (S34)) (a1_0 : Int) (a1_1 : Int) : Option (Int):=spec_l3Find.l0 k 0 l0_0 a1_0 a1_1
theorem spec_l3Find.mono_l : ∀ k,(∀ y0 y1 y2 y3,LeO (spec_l3Find.l0 k y0 y1 y2 y3) (spec_l3Find.l0 (k + 1) y0 y1 y2 y3))
 | 0=>fun _ _ _ _ r h=>by simp [spec_l3Find.l0] at h
 | k + 1=>by
  have ih0:=spec_l3Find.mono_l k
  ·intro y0 y1 y2 y3
   unfold spec_l3Find.l0
   repeat' first | (with_reducible first | exact ih0 _ _ _ _ | exact LeO.refl _ | exact LeO.none _ | refine LeO.ite ?_ ?_ | refine LeO.bind ?_ (fun _=>?_)) | exact ih0 _ _ _ _ | exact LeO.none _ | refine LeO.ite ?_ ?_ | refine LeO.bind ?_ (fun _=>?_)
theorem spec_l3Find.mono : ∀ a0 a1 a2 k,LeO (spec_l3Find.f k a0 a1 a2) (spec_l3Find.f (k + 1) a0 a1 a2):=by
 intro a0 a1 a2 k
 have ih0:=spec_l3Find.mono_l k
 unfold spec_l3Find.f
 repeat' first | (with_reducible first | exact ih0 _ _ _ _ | exact LeO.refl _ | exact LeO.none _ | refine LeO.ite ?_ ?_ | refine LeO.bind ?_ (fun _=>?_)) | exact ih0 _ _ _ _ | exact LeO.none _ | refine LeO.ite ?_ ?_ | refine LeO.bind ?_ (fun _=>?_)
set_option maxHeartbeats 8000000 in
set_option maxRecDepth 100000 in
theorem spec_l3Find.calls (k : Nat) (A0_0 : Option Addr) (c0_0 : Nat) (l0_0 : List (S34)) (a1_0 : Int) (a1_1 : Int) (r : Int) (w : World) (hr0_0 : Kd.C k34 w A0_0 l0_0.length l0_0) (hc0_0 : l0_0.length ≤ c0_0) (h : spec_l3Find.f k l0_0 a1_0 a1_1 = some r) :
  Calls Tryz.prog 49 #[.agg #[.slice A0_0 l0_0.length c0_0],.agg #[.int .i64 a1_0,.int .i64 a1_1]] w fun e w'=>e = .returned (.int .i64 r) ∧ Below w.heap.size w w':=by
 have hu25:=Tryz.underlying25
 have hu34:=Tryz.underlying34
 have HR0_0:=am hr0_0
 have HC0_0:=am hc0_0
 clear hr0_0 hc0_0
 have HB:=am (Below.refl w.heap.size w)
 have H : (spec_l3Find.l0 k 0 l0_0 a1_0 a1_1) = some r:=h
 clear h
 have H':=am H
 clear H
 go_enter Tryz.func49,Tryz.ntmps49
 iterate 4 ((try go_quiet (fail));(try go_wp2_with (first | ((with_reducible refine gD 2 rfl ?_);refine box_event rfl (N:=2) rfl (cs:=#[.slice A0_0 l0_0.length c0_0]) (t:=25) hr_ ?_;intro gb112 hg w3 hbox hb;have BK112:=am hbox;have GW112:=gwE HB hg;have GE112:=gwE HB hg;replace HB:=hbS HB hb;clear hb hbox hg) | ((with_reducible refine gD 3 rfl ?_);refine box_event rfl (N:=3) rfl (cs:=#[.int .i64 a1_0,.int .i64 a1_1]) (t:=34) hr_ ?_;intro gb113 hg w4 hbox hb;have BK113:=am hbox;have GW113:=gwE HB hg;have GE113:=gwE HB hg;replace HB:=hbS HB hb;have NB112_113:=neL BK112 hg;have NB113_112:=neG BK112 hg;replace BK112:=bkB BK112 hb;clear hb hbox hg))))
 go_loopg [5] k (fun kq v5 w'=>∃ (x5_1 : Int),v5 = .int .i64 x5_1 ∧ Aside0 (spec_l3Find.l0 kq x5_1 l0_0 a1_0 a1_1 = some r) ∧ Aside0 (kq ≤ k) ∧ Aside0 (w'.heap[gb112]? = some (.cells #[(.slice A0_0 l0_0.length c0_0)] 25 (0,0))) ∧ Aside0 (w'.heap[gb113]? = some (.cells #[.int .i64 a1_0,.int .i64 a1_1] 34 (0,0))) ∧ Aside0 (Below w.heap.size w w'))
 case atStart=>exact ⟨(0),rs_,H',⟨Nat.le_refl _⟩,⟨bk BK112⟩,⟨bk BK113⟩,⟨m2_⟩⟩
 case round=>
  clear H'
  try clear p2
  try clear c4
  obtain ⟨x5_1,rfl,HA,HK1,BK112,BK113,HB⟩:=hrel
  cases gk with
  | zero=>exact absurd HA.out (by simp [spec_l3Find.l0])
  | succ k1=>
   have H:=HA.out
   clear HA
   simp only [spec_l3Find.l0] at H
   by_cases c5 : x5_1 < (l0_0.length : Int)
   ·rw [if_pos c5] at H
    have c5b0 : decide (x5_1 < (l0_0.length : Int)) = true:=decide_eq_true c5
    clear c5
    by_cases c6 : 0 ≤ x5_1
    ·rw [if_pos c6] at H
     have c6b0 : decide (0 ≤ x5_1) = true:=decide_eq_true c6
     clear c6
     by_cases c7 : (((rd_T34 l0_0 x5_1).f0) == a1_0 && (((rd_T34 l0_0 x5_1).f1) == a1_1)) = true
     ·rw [if_pos c7] at H
      have c7b0 : (((rd_T34 l0_0 x5_1).f0) == a1_0 && (((rd_T34 l0_0 x5_1).f1) == a1_1)) = true:=c7
      (try (have c7b1 : decide (((rd_T34 l0_0 x5_1).f0) = a1_0 && (((rd_T34 l0_0 x5_1).f1) == a1_1)) = true:=by simpa using c7))
      (try (have c7b2 : (((rd_T34 l0_0 x5_1).f0) == a1_0 && (((rd_T34 l0_0 x5_1).f1) == a1_1)) = true:=by simpa using c7))
      clear c7
      obtain rfl:=Option.some.inj H
      have:=NB112_113.out
      have:=NB113_112.out
      have:=bcell BK112 0
      have:=bfz BK112 0
      have p114 : 0 ≤ (x5_1 : Int):=of_decide_eq_true da_
      have q114 : x5_1 < (l0_0.length : Int):=of_decide_eq_true da_
      obtain ⟨ad114,e114,hx114_0,hx114_1⟩:=at_T34 HR0_0.out x5_1 p114 q114
      cases e114
      replace hx114_0:=bcl HB hx114_0
      replace hx114_1:=bcl HB hx114_1
      replace p114:=eq_true p114
      replace q114:=eq_true q114
      have:=bcell BK113 0
      have:=bcell BK113 1
      have:=bfz BK113 0
      have:=bfz BK113 1
      go_wp2
      repeat (go_quiet (fail);try go_wp2)
      go_ret
      exact ⟨fi_,m2_⟩
     ·rw [if_neg c7] at H
      have c7b0 : (((rd_T34 l0_0 x5_1).f0) == a1_0 && (((rd_T34 l0_0 x5_1).f1) == a1_1)) = false:=by simpa using c7
      (try (have c7b1 : decide (((rd_T34 l0_0 x5_1).f0) = a1_0 && (((rd_T34 l0_0 x5_1).f1) == a1_1)) = false:=by simpa using c7))
      (try (have c7b2 : (((rd_T34 l0_0 x5_1).f0) == a1_0 && (((rd_T34 l0_0 x5_1).f1) == a1_1)) = false:=by simpa using c7))
      (try (have c7b3 : ¬ (((rd_T34 l0_0 x5_1).f0) = a1_0 && (((rd_T34 l0_0 x5_1).f1) == a1_1)):=by simpa using c7))
      clear c7
      have H':=am H
      clear H
      have:=NB112_113.out
      have:=NB113_112.out
      have:=bcell BK112 0
      have:=bfz BK112 0
      have p114 : 0 ≤ (x5_1 : Int):=of_decide_eq_true da_
      have q114 : x5_1 < (l0_0.length : Int):=of_decide_eq_true da_
      obtain ⟨ad114,e114,hx114_0,hx114_1⟩:=at_T34 HR0_0.out x5_1 p114 q114
      cases e114
      replace hx114_0:=bcl HB hx114_0
      replace hx114_1:=bcl HB hx114_1
      replace p114:=eq_true p114
      replace q114:=eq_true q114
      have:=bcell BK113 0
      have:=bcell BK113 1
      have:=bfz BK113 0
      have:=bfz BK113 1
      go_wp2
      repeat (go_quiet (fail);try go_wp2)
      go_roundg k1
      case measure=>have:=HK1.out;omega
      case rel=>exact ⟨(wrap64 (x5_1 + 1)),rs_,H',⟨by have:=HK1.out;omega⟩,⟨bk BK112⟩,⟨bk BK113⟩,⟨m2_⟩⟩
    ·rw [if_neg c6] at H
     exact absurd H (by simp)
   ·rw [if_neg c5] at H
    have c5b0 : decide (x5_1 < (l0_0.length : Int)) = false:=decide_eq_false c5
    clear c5
    obtain rfl:=Option.some.inj H
    have:=NB112_113.out
    have:=NB113_112.out
    have:=bcell BK112 0
    have:=bfz BK112 0
    go_wp2
    repeat (go_quiet (fail);try go_wp2)
    go_ret
    exact ⟨fi_,m2_⟩
end
section
attribute [local go_sem] max2_int min2_int max_two min_two max_three min_three max_four min_four
def spec_MapOk.l0 : Nat → Int → List (S34) → Option (Bool)
 | 0,_,_=>none
 | k + 1,x3,x116000=>if x3 < (x116000.length : Int) then (if 0 ≤ x3 then ((spec_EndInside.f ((rd_T34 x116000 x3).f0) ((rd_T34 x116000 x3).f1)).bind fun t117=>(if t117 = true then (if x3 ≤ (x116000.length : Int) then ((spec_l3Find.f k (x116000.take (x3 : Int).toNat) ((rd_T34 x116000 x3).f0) ((rd_T34 x116000 x3).f1)).bind fun t123=>(if t123 ≥ 0 then (some false) else (spec_MapOk.l0 k (wrap64 (x3 + 1)) x116000))) else (none)) else (some false))) else (none)) else (some true)
def spec_MapOk.f (k : Nat) (l0_0 : List (S34)) : Option (Bool):=if (l0_0.length : Int) > 6 then (some false) else (spec_MapOk.l0 k 0 l0_0)
theorem spec_MapOk.mono_l : ∀ k,(∀ y0 y1,LeO (spec_MapOk.l0 k y0 y1) (spec_MapOk.l0 (k + 1) y0 y1))
 | 0=>fun _ _ r h=>by simp [spec_MapOk.l0] at h
 | k + 1=>by
  have ih0:=spec_MapOk.mono_l k
  ·intro y0 y1
   unfold spec_MapOk.l0
   repeat' first | (with_reducible first | exact ih0 _ _ | exact spec_l3Find.mono _ _ _ _ | exact LeO.refl _ | exact LeO.none _ | refine LeO.ite ?_ ?_ | refine LeO.bind ?_ (fun _=>?_)) | exact ih0 _ _ | exact spec_l3Find.mono _ _ _ _ | exact LeO.none _ | refine LeO.ite ?_ ?_ | refine LeO.bind ?_ (fun _=>?_)
theorem spec_MapOk.mono : ∀ a0 k,LeO (spec_MapOk.f k a0) (spec_MapOk.f (k + 1) a0):=by
 intro a0 k
 have ih0:=spec_MapOk.mono_l k
 unfold spec_MapOk.f
 repeat' first | (with_reducible first | exact ih0 _ _ | exact spec_l3Find.mono _ _ _ _ | exact LeO.refl _ | exact LeO.none _ | refine LeO.ite ?_ ?_ | refine LeO.bind ?_ (fun _=>?_)) | exact ih0 _ _ | exact spec_l3Find.mono _ _ _ _ | exact LeO.none _ | refine LeO.ite ?_ ?_ | refine LeO.bind ?_ (fun _=>?_)
def spec_MapOk.T6 : Bool × List (List Nat × List Nat):=(true,[([],[]),([0],[0]),([],[]),([1,2],[1,2]),([3],[3]),([4],[4]),([5],[5]),([6,5],[6]),([7],[7]),([8,7],[7,8]),([7],[7]),([9,10,7],[7,9,10]),([11,7],[7,11]),([7],[7]),([13,7],[7,13]),([7],[7]),([14,15,7],[7,14,15]),([16,7],[7,16]),([12,17,7,7],[7,12,17]),([18,7],[7,18]),([7,19],[7,19])])
def spec_MapOk.B6 : List Nat:=[0,1,0,7,15,31,63,127,255,511,255,2047,4095,255,8447,255,57599,123135,262143,524287,1048575]
theorem spec_MapOk.tab6 : rtab .any (opsOf Tryz.f16 6) = spec_MapOk.T6:=by kernel_rfl
theorem spec_MapOk.bits6 : waitsOk spec_MapOk.T6.2 spec_MapOk.B6 = true:=by kernel_rfl
set_option maxHeartbeats 8000000 in
set_option maxRecDepth 100000 in
theorem spec_MapOk.calls (k : Nat) (A0_0 : Option Addr) (c0_0 : Nat) (l0_0 : List (S34)) (r : Bool) (w : World) (hr0_0 : Kd.C k34 w A0_0 l0_0.length l0_0) (hc0_0 : l0_0.length ≤ c0_0) (h : spec_MapOk.f k l0_0 = some r) :
  Calls Tryz.prog 16 #[.agg #[.slice A0_0 l0_0.length c0_0]] w fun e w'=>e = .returned (.bool r) ∧ Below w.heap.size w w':=by
 have hu25:=Tryz.underlying25
 have hu34:=Tryz.underlying34
 have HR0_0:=am hr0_0
 have HC0_0:=am hc0_0
 clear hr0_0 hc0_0
 have HB:=am (Below.refl w.heap.size w)
 have H : (if (l0_0.length : Int) > 6 then (some false) else (spec_MapOk.l0 k 0 l0_0)) = some r:=h
 clear h
 by_cases c2 : (l0_0.length : Int) > 6
 ·rw [if_pos c2] at H
  have c2b0 : decide (6 < (l0_0.length : Int)) = true:=decide_eq_true c2
  have c2b1 : decide (6 < l0_0.length) = true:=decide_eq_true (by omega)
  clear c2
  obtain rfl:=Option.some.inj H
  go_enter Tryz.func16,Tryz.ntmps16
  go_wp2_with (first | ((with_reducible refine gD 1 rfl ?_);refine box_event rfl (N:=1) rfl (cs:=#[.slice A0_0 l0_0.length c0_0]) (t:=25) hr_ ?_;intro gb115 hg w3 hbox hb;have BK115:=am hbox;have GW115:=gwE HB hg;have GE115:=gwE HB hg;replace HB:=hbS HB hb;clear hb hbox hg;have hcz4_0:=bcell BK115 0;have hfz4_0:=blk_frozen BK115.out 0))
  go_ret
  exact ⟨fi_,m2_⟩
 ·rw [if_neg c2] at H
  have c2b0 : decide (6 < (l0_0.length : Int)) = false:=decide_eq_false c2
  have c2b1 : decide (6 < l0_0.length) = false:=decide_eq_false (by omega)
  clear c2
  have H':=am H
  clear H
  go_enter Tryz.func16,Tryz.ntmps16
  go_wp2_with (first | ((with_reducible refine gD 1 rfl ?_);refine box_event rfl (N:=1) rfl (cs:=#[.slice A0_0 l0_0.length c0_0]) (t:=25) hr_ ?_;intro gb115 hg w5 hbox hb;have BK115:=am hbox;have GW115:=gwE HB hg;have GE115:=gwE HB hg;replace HB:=hbS HB hb;clear hb hbox hg;have hcz6_0:=bcell BK115 0;have hfz6_0:=blk_frozen BK115.out 0))
  go_loopg [3] k (fun kq v3 w'=>∃ (x3_1 : Int),v3 = .int .i64 x3_1 ∧ Aside0 (spec_MapOk.l0 kq x3_1 l0_0 = some r) ∧ Aside0 (kq ≤ k) ∧ Aside0 (w'.heap[gb115]? = some (.cells #[(.slice A0_0 l0_0.length c0_0)] 25 (0,0))) ∧ Aside0 (Below w.heap.size w w'))
  case atStart=>exact ⟨(0),rs_,H',⟨Nat.le_refl _⟩,⟨bk BK115⟩,⟨m2_⟩⟩
  case round=>
   clear H'
   try clear c1
   try clear c2
   try clear c2b0
   try clear c2b1
   try clear p2
   try clear hcz4_0
   try clear hcz6_0
   try clear hfz4_0
   try clear hfz6_0
   obtain ⟨x3_1,rfl,HA,HK1,BK115,HB⟩:=hrel
   cases gk with
   | zero=>exact absurd HA.out (by simp [spec_MapOk.l0])
   | succ k1=>
    have H:=HA.out
    clear HA
    simp only [spec_MapOk.l0] at H
    by_cases c7 : x3_1 < (l0_0.length : Int)
    ·rw [if_pos c7] at H
     have c7b0 : decide (x3_1 < (l0_0.length : Int)) = true:=decide_eq_true c7
     clear c7
     by_cases c8 : 0 ≤ x3_1
     ·rw [if_pos c8] at H
      have c8b0 : decide (0 ≤ x3_1) = true:=decide_eq_true c8
      clear c8
      obtain ⟨t117,A9,H⟩:=bse H
      try dsimp only at H
      by_cases c10 : t117 = true
      ·subst c10
       have H1 : (if x3_1 ≤ (l0_0.length : Int) then ((spec_l3Find.f k1 (l0_0.take (x3_1 : Int).toNat) ((rd_T34 l0_0 x3_1).f0) ((rd_T34 l0_0 x3_1).f1)).bind fun t123=>(if t123 ≥ 0 then (some false) else (spec_MapOk.l0 k1 (wrap64 (x3_1 + 1)) l0_0))) else (none)) = some r:=by rw [if_pos rfl] at H;exact H
       clear H
       have H:=H1
       clear H1
       have c11b0:=eq_true (of_decide_eq_true da_ : 0 ≤ x3_1)
       by_cases c12 : x3_1 ≤ (l0_0.length : Int)
       ·rw [if_pos c12] at H
        have c12b0:=eq_true c12
        have c12b1 : decide (x3_1 ≤ (l0_0.length : Int)) = true:=decide_eq_true c12
        clear c12
        obtain ⟨y118,hy118⟩ : ∃ y_ : List (S34),y_ = (l0_0.take (x3_1 : Int).toNat):=⟨_,rfl⟩
        replace H : ((spec_l3Find.f k1 y118 ((rd_T34 l0_0 x3_1).f0) ((rd_T34 l0_0 x3_1).f1)).bind fun t123=>(if t123 ≥ 0 then (some false) else (spec_MapOk.l0 k1 (wrap64 (x3_1 + 1)) l0_0))) = some r:=by first | (rw [hy118];with_reducible exact H) | (have H2_:=(Option.bind_some _ _).symm.trans H;rw [hy118];with_reducible exact H2_) | (have H2_:=(Option.bind_some _ _).symm.trans H;with_reducible exact H2_) | with_reducible exact H | (rw [hy118];exact H) | exact H
        have Ny118:=am hy118
        clear hy118
        obtain ⟨t123,A13,H⟩:=bse H
        try dsimp only at H
        by_cases c14 : t123 ≥ 0
        ·rw [if_pos c14] at H
         have c14b0 : decide (0 ≤ t123) = true:=decide_eq_true c14
         clear c14
         obtain rfl:=Option.some.inj H
         have:=bcell BK115 0
         have:=bfz BK115 0
         try go_wp2
         replace BK115:=am (blk_drew BK115.out)
         replace HB:=am (below_drew1 HB.out)
         have p116 : 0 ≤ (x3_1 : Int):=of_decide_eq_true da_
         have q116 : x3_1 < (l0_0.length : Int):=of_decide_eq_true da_
         obtain ⟨ad116,e116,hx116_0,hx116_1⟩:=at_T34 HR0_0.out x3_1 p116 q116
         have hw116_1:=hx116_1
         have hw116_0:=hx116_0
         cases e116
         replace hx116_0:=bcl HB hx116_0
         replace hx116_1:=bcl HB hx116_1
         replace p116:=eq_true p116
         replace q116:=eq_true q116
         have p122 : 0 ≤ (x3_1 : Int):=of_decide_eq_true da_
         have q122 : x3_1 < (l0_0.length : Int):=of_decide_eq_true da_
         obtain ⟨ad122,e122,hx122_0,hx122_1⟩:=at_T34 HR0_0.out x3_1 p122 q122
         have hw122_1:=hx122_1
         have hw122_0:=hx122_0
         obtain rfl : ad116 = ad122:=(by injection e122)
         replace hx122_0:=bcl HB hx122_0
         replace hx122_1:=bcl HB hx122_1
         replace p122:=eq_true p122
         replace q122:=eq_true q122
         refine start_ (n:=21) (S:=fun w'=>w'.cell? ⟨gb115,0,none⟩ = some (.slice (some ad116) l0_0.length c0_0) ∧ w'.cell? (ad116.add ((x3_1).toNat * 2)) = some (.int .i64 ((rd_T34 l0_0 x3_1).f0)) ∧ w'.cell? ⟨(ad116.add ((x3_1).toNat * 2)).block,(ad116.add ((x3_1).toNat * 2)).off + 1,none⟩ = some (.int .i64 ((rd_T34 l0_0 x3_1).f1)) ∧ w'.cell? (ad116.add ((x3_1).toNat * 2)) = some (.int .i64 ((rd_T34 l0_0 x3_1).f0)) ∧ w'.cell? ⟨(ad116.add ((x3_1).toNat * 2)).block,(ad116.add ((x3_1).toNat * 2)).off + 1,none⟩ = some (.int .i64 ((rd_T34 l0_0 x3_1).f1))) (ds:=[]) #[false,false,false,false,false,false,false,false,false,false,false,false,false,false,false,false,false,false,false,false,false] (by kernel_rfl) rfl rfl ⟨bcell BK115 0,(bcl HB hw116_0),(bcl HB hw116_1),(bcl HB hw122_0),(bcl HB hw122_1)⟩ (fun hHeld=>?_);refine with_tabW spec_MapOk.tab6 spec_MapOk.bits6 (fun HT_ HW_=>?_)
         generalize wr.drew = w16 at BK115 HB hx116_0 hx116_1 hx122_0 hx122_1 hHeld ⊢
         refine pu_ 0 (some 15) (bm 21 1) ?_
         refine pu_ 2 (some 17) (bm 21 5) ?_
         refine tk_ 1 (some 16) (bm 21 7) rfl (.inl ⟨rfl,m9_⟩) ?_
         refine pu_ 3 (some 18) (bm 21 15) ?_
         refine tk_ 4 (some 19) (bm 21 31) rfl (.inl ⟨rfl,m9_⟩) ?_
         refine on_ 5 (some 20) (bm 21 63) (fun K hK=>?_)
         refine gR Tryz.func48 #[.agg #[.int .i64 ((rd_T34 l0_0 x3_1).f0),.int .i64 ((rd_T34 l0_0 x3_1).f1)]] ?_
         with_reducible refine (spec_EndInside.calls ((rd_T34 l0_0 x3_1).f0) ((rd_T34 l0_0 x3_1).f1) true _ A9.out).mono ?_
         rintro e w17 ⟨rfl,hb⟩
         refine ⟨_,rfl,?_⟩
         replace BK115:=bkB BK115 hb
         replace HB:=hbS HB hb
         (try clear hb)
         (try clear hb2)
         (try clear hk)
         (try clear hi)
         have q18 : (x3_1 : Int) ≤ ((l0_0.length : Int) : Int):=of_decide_eq_true da_
         obtain ⟨i018,hi018,_,hsz18,_⟩:=info_parts info34
         have hroom18 : l0_0.length ≤ c0_0:=HC0_0.out
         have hC18 : Kd.C k34 _ (some ad116) l0_0.length l0_0:=HR0_0.out
         have hcut18:=cut_to (P:=Tryz.prog) 23 34 .i64 Tryz.underlying23 hi018 (some ad116) l0_0.length c0_0 x3_1 (of_decide_eq_true da_) q18 hroom18
         have hr18:=Kd.C_take (m:=(x3_1 : Int).toNat) hC18 (by omega)
         have hy18 : y118.length = (x3_1 : Int).toNat:=(by rw [Ny118.out,List.length_take];omega)
         rw [← Ny118.out] at hr18
         rw [← hy18] at hcut18
         have HR121:=am hr18
         have HC121:=am (show y118.length ≤ c0_0 from by omega)
         clear hr18 hC18 hroom18 hi018 hsz18
         have KY18:=am hy18
         clear hy18
         replace q18:=eq_true q18
         refine hK.out _ _ ⟨bcell BK115 0,(bcl HB hw116_0),(bcl HB hw116_1),(bcl HB hw122_0),(bcl HB hw122_1)⟩ (fun hHeld=>?_)
         clear hK K
         refine nm_ ?_
         refine pu_ 6 (some 21) (bm 21 127) ?_
         refine pu_ 7 (some 22) (bm 21 255) ?_
         refine pu_ 8 (some 23) (bm 21 511) ?_
         refine pu_ 10 (some 25) (bm 21 1535) ?_
         refine pu_ 13 (some 28) (bm 21 9727) ?_
         refine pu_ 15 (some 30) (bm 21 42495) ?_
         refine tk_ 9 (some 24) (bm 21 43007) rfl (.inl ⟨rfl,m9_⟩) ?_
         refine pu_ 11 (some 26) (bm 21 45055) ?_
         refine pu_ 12 (some 27) (bm 21 49151) ?_
         refine tk_ 14 (some 29) (bm 21 65535) rfl (.inl ⟨rfl,m9_⟩) ?_
         refine pu_ 16 (some 31) (bm 21 131071) ?_
         refine tk_ 17 (some 32) (bm 21 262143) rfl (.inl ⟨rfl,m9_⟩) ?_
         refine on_ 18 (some 33) (bm 21 524287) (fun K hK=>?_)
         refine gR Tryz.func49 #[.agg #[.slice (some ad116) y118.length c0_0],.agg #[.int .i64 ((rd_T34 l0_0 x3_1).f0),.int .i64 ((rd_T34 l0_0 x3_1).f1)]] ?_
         with_reducible refine (spec_l3Find.calls k1 _ _ y118 ((rd_T34 l0_0 x3_1).f0) ((rd_T34 l0_0 x3_1).f1) t123 _ ?side1 ?side2 A13.out).mono ?_
         (case side1=>exact m8_)
         (case side2=>exact HC121.out)
         rintro e w19 ⟨rfl,hb⟩
         refine ⟨_,rfl,?_⟩
         replace BK115:=bkB BK115 hb
         replace HB:=hbS HB hb
         (try clear hb)
         (try clear hb2)
         (try clear hk)
         (try clear hi)
         refine hK.out _ _ ⟨bcell BK115 0,(bcl HB hw116_0),(bcl HB hw116_1),(bcl HB hw122_0),(bcl HB hw122_1)⟩ (fun hHeld=>?_)
         clear hK K
         refine nm_ ?_
         refine pu_ 19 (some 34) (bm 21 1048575) ?_
         refine pu_ 20 (some 35) (bm 21 2097151) ?_
         refine done_ (done_of HT_.out (by kernel_rfl)) ?_
         try go_wp2
         go_ret
         exact ⟨fi_,m2_⟩
        ·rw [if_neg c14] at H
         have c14b0 : decide (0 ≤ t123) = false:=decide_eq_false c14
         clear c14
         have H':=am H
         clear H
         have:=bcell BK115 0
         have:=bfz BK115 0
         try go_wp2
         replace BK115:=am (blk_drew BK115.out)
         replace HB:=am (below_drew1 HB.out)
         have p116 : 0 ≤ (x3_1 : Int):=of_decide_eq_true da_
         have q116 : x3_1 < (l0_0.length : Int):=of_decide_eq_true da_
         obtain ⟨ad116,e116,hx116_0,hx116_1⟩:=at_T34 HR0_0.out x3_1 p116 q116
         have hw116_1:=hx116_1
         have hw116_0:=hx116_0
         cases e116
         replace hx116_0:=bcl HB hx116_0
         replace hx116_1:=bcl HB hx116_1
         replace p116:=eq_true p116
         replace q116:=eq_true q116
         have p122 : 0 ≤ (x3_1 : Int):=of_decide_eq_true da_
         have q122 : x3_1 < (l0_0.length : Int):=of_decide_eq_true da_
         obtain ⟨ad122,e122,hx122_0,hx122_1⟩:=at_T34 HR0_0.out x3_1 p122 q122
         have hw122_1:=hx122_1
         have hw122_0:=hx122_0
         obtain rfl : ad116 = ad122:=(by injection e122)
         replace hx122_0:=bcl HB hx122_0
         replace hx122_1:=bcl HB hx122_1
         replace p122:=eq_true p122
         replace q122:=eq_true q122
         refine start_ (n:=21) (S:=fun w'=>w'.cell? ⟨gb115,0,none⟩ = some (.slice (some ad116) l0_0.length c0_0) ∧ w'.cell? (ad116.add ((x3_1).toNat * 2)) = some (.int .i64 ((rd_T34 l0_0 x3_1).f0)) ∧ w'.cell? ⟨(ad116.add ((x3_1).toNat * 2)).block,(ad116.add ((x3_1).toNat * 2)).off + 1,none⟩ = some (.int .i64 ((rd_T34 l0_0 x3_1).f1)) ∧ w'.cell? (ad116.add ((x3_1).toNat * 2)) = some (.int .i64 ((rd_T34 l0_0 x3_1).f0)) ∧ w'.cell? ⟨(ad116.add ((x3_1).toNat * 2)).block,(ad116.add ((x3_1).toNat * 2)).off + 1,none⟩ = some (.int .i64 ((rd_T34 l0_0 x3_1).f1))) (ds:=[]) #[false,false,false,false,false,false,false,false,false,false,false,false,false,false,false,false,false,false,false,false,false] (by kernel_rfl) rfl rfl ⟨bcell BK115 0,(bcl HB hw116_0),(bcl HB hw116_1),(bcl HB hw122_0),(bcl HB hw122_1)⟩ (fun hHeld=>?_);refine with_tabW spec_MapOk.tab6 spec_MapOk.bits6 (fun HT_ HW_=>?_)
         generalize wr.drew = w21 at BK115 HB hx116_0 hx116_1 hx122_0 hx122_1 hHeld ⊢
         refine pu_ 0 (some 15) (bm 21 1) ?_
         refine pu_ 2 (some 17) (bm 21 5) ?_
         refine tk_ 1 (some 16) (bm 21 7) rfl (.inl ⟨rfl,m9_⟩) ?_
         refine pu_ 3 (some 18) (bm 21 15) ?_
         refine tk_ 4 (some 19) (bm 21 31) rfl (.inl ⟨rfl,m9_⟩) ?_
         refine on_ 5 (some 20) (bm 21 63) (fun K hK=>?_)
         refine gR Tryz.func48 #[.agg #[.int .i64 ((rd_T34 l0_0 x3_1).f0),.int .i64 ((rd_T34 l0_0 x3_1).f1)]] ?_
         with_reducible refine (spec_EndInside.calls ((rd_T34 l0_0 x3_1).f0) ((rd_T34 l0_0 x3_1).f1) true _ A9.out).mono ?_
         rintro e w22 ⟨rfl,hb⟩
         refine ⟨_,rfl,?_⟩
         replace BK115:=bkB BK115 hb
         replace HB:=hbS HB hb
         (try clear hb)
         (try clear hb2)
         (try clear hk)
         (try clear hi)
         have q23 : (x3_1 : Int) ≤ ((l0_0.length : Int) : Int):=of_decide_eq_true da_
         obtain ⟨i023,hi023,_,hsz23,_⟩:=info_parts info34
         have hroom23 : l0_0.length ≤ c0_0:=HC0_0.out
         have hC23 : Kd.C k34 _ (some ad116) l0_0.length l0_0:=HR0_0.out
         have hcut23:=cut_to (P:=Tryz.prog) 23 34 .i64 Tryz.underlying23 hi023 (some ad116) l0_0.length c0_0 x3_1 (of_decide_eq_true da_) q23 hroom23
         have hr23:=Kd.C_take (m:=(x3_1 : Int).toNat) hC23 (by omega)
         have hy23 : y118.length = (x3_1 : Int).toNat:=(by rw [Ny118.out,List.length_take];omega)
         rw [← Ny118.out] at hr23
         rw [← hy23] at hcut23
         have HR121:=am hr23
         have HC121:=am (show y118.length ≤ c0_0 from by omega)
         clear hr23 hC23 hroom23 hi023 hsz23
         have KY23:=am hy23
         clear hy23
         replace q23:=eq_true q23
         refine hK.out _ _ ⟨bcell BK115 0,(bcl HB hw116_0),(bcl HB hw116_1),(bcl HB hw122_0),(bcl HB hw122_1)⟩ (fun hHeld=>?_)
         clear hK K
         refine nm_ ?_
         refine pu_ 6 (some 21) (bm 21 127) ?_
         refine pu_ 7 (some 22) (bm 21 255) ?_
         refine pu_ 8 (some 23) (bm 21 511) ?_
         refine pu_ 10 (some 25) (bm 21 1535) ?_
         refine pu_ 13 (some 28) (bm 21 9727) ?_
         refine pu_ 15 (some 30) (bm 21 42495) ?_
         refine tk_ 9 (some 24) (bm 21 43007) rfl (.inl ⟨rfl,m9_⟩) ?_
         refine pu_ 11 (some 26) (bm 21 45055) ?_
         refine pu_ 12 (some 27) (bm 21 49151) ?_
         refine tk_ 14 (some 29) (bm 21 65535) rfl (.inl ⟨rfl,m9_⟩) ?_
         refine pu_ 16 (some 31) (bm 21 131071) ?_
         refine tk_ 17 (some 32) (bm 21 262143) rfl (.inl ⟨rfl,m9_⟩) ?_
         refine on_ 18 (some 33) (bm 21 524287) (fun K hK=>?_)
         refine gR Tryz.func49 #[.agg #[.slice (some ad116) y118.length c0_0],.agg #[.int .i64 ((rd_T34 l0_0 x3_1).f0),.int .i64 ((rd_T34 l0_0 x3_1).f1)]] ?_
         with_reducible refine (spec_l3Find.calls k1 _ _ y118 ((rd_T34 l0_0 x3_1).f0) ((rd_T34 l0_0 x3_1).f1) t123 _ ?side1 ?side2 A13.out).mono ?_
         (case side1=>exact m8_)
         (case side2=>exact HC121.out)
         rintro e w24 ⟨rfl,hb⟩
         refine ⟨_,rfl,?_⟩
         replace BK115:=bkB BK115 hb
         replace HB:=hbS HB hb
         (try clear hb)
         (try clear hb2)
         (try clear hk)
         (try clear hi)
         refine hK.out _ _ ⟨bcell BK115 0,(bcl HB hw116_0),(bcl HB hw116_1),(bcl HB hw122_0),(bcl HB hw122_1)⟩ (fun hHeld=>?_)
         clear hK K
         refine nm_ ?_
         refine pu_ 19 (some 34) (bm 21 1048575) ?_
         refine pu_ 20 (some 35) (bm 21 2097151) ?_
         refine done_ (done_of HT_.out (by kernel_rfl)) ?_
         try go_wp2
         go_roundg k1
         case measure=>have:=HK1.out;omega
         case rel=>exact ⟨(wrap64 (x3_1 + 1)),rs_,H',⟨by have:=HK1.out;omega⟩,⟨bk BK115⟩,⟨m2_⟩⟩
       ·rw [if_neg c12] at H
        exact absurd H (by simp)
      ·replace c10:=Bool.eq_false_iff.mpr c10
       subst c10
       have H1 : (some false) = some r:=by rw [if_neg (show ¬ (false = true) by decide)] at H;exact H
       clear H
       have H:=H1
       clear H1
       obtain rfl:=Option.some.inj H
       have:=bcell BK115 0
       have:=bfz BK115 0
       try go_wp2
       replace BK115:=am (blk_drew BK115.out)
       replace HB:=am (below_drew1 HB.out)
       have p116 : 0 ≤ (x3_1 : Int):=of_decide_eq_true da_
       have q116 : x3_1 < (l0_0.length : Int):=of_decide_eq_true da_
       obtain ⟨ad116,e116,hx116_0,hx116_1⟩:=at_T34 HR0_0.out x3_1 p116 q116
       have hw116_1:=hx116_1
       have hw116_0:=hx116_0
       cases e116
       replace hx116_0:=bcl HB hx116_0
       replace hx116_1:=bcl HB hx116_1
       replace p116:=eq_true p116
       replace q116:=eq_true q116
       refine start_ (n:=21) (S:=fun w'=>w'.cell? ⟨gb115,0,none⟩ = some (.slice (some ad116) l0_0.length c0_0) ∧ w'.cell? (ad116.add ((x3_1).toNat * 2)) = some (.int .i64 ((rd_T34 l0_0 x3_1).f0)) ∧ w'.cell? ⟨(ad116.add ((x3_1).toNat * 2)).block,(ad116.add ((x3_1).toNat * 2)).off + 1,none⟩ = some (.int .i64 ((rd_T34 l0_0 x3_1).f1))) (ds:=[]) #[false,false,false,false,false,false,false,false,false,false,false,false,false,false,false,false,false,false,false,false,false] (by kernel_rfl) rfl rfl ⟨bcell BK115 0,(bcl HB hw116_0),(bcl HB hw116_1)⟩ (fun hHeld=>?_);refine with_tabW spec_MapOk.tab6 spec_MapOk.bits6 (fun HT_ HW_=>?_)
       generalize wr.drew = w26 at BK115 HB hx116_0 hx116_1 hHeld ⊢
       refine pu_ 0 (some 15) (bm 21 1) ?_
       refine pu_ 2 (some 17) (bm 21 5) ?_
       refine tk_ 1 (some 16) (bm 21 7) rfl (.inl ⟨rfl,m10_⟩) ?_
       refine pu_ 3 (some 18) (bm 21 15) ?_
       refine tk_ 4 (some 19) (bm 21 31) rfl (.inl ⟨rfl,m10_⟩) ?_
       refine on_ 5 (some 20) (bm 21 63) (fun K hK=>?_)
       refine gR Tryz.func48 #[.agg #[.int .i64 ((rd_T34 l0_0 x3_1).f0),.int .i64 ((rd_T34 l0_0 x3_1).f1)]] ?_
       with_reducible refine (spec_EndInside.calls ((rd_T34 l0_0 x3_1).f0) ((rd_T34 l0_0 x3_1).f1) false _ A9.out).mono ?_
       rintro e w27 ⟨rfl,hb⟩
       refine ⟨_,rfl,?_⟩
       replace BK115:=bkB BK115 hb
       replace HB:=hbS HB hb
       (try clear hb)
       (try clear hb2)
       (try clear hk)
       (try clear hi)
       refine hK.out _ _ ⟨bcell BK115 0,(bcl HB hw116_0),(bcl HB hw116_1)⟩ (fun hHeld=>?_)
       clear hK K
       refine nm_ ?_
       refine pu_ 6 (some 21) (bm 21 127) ?_
       refine pu_ 7 (some 22) (bm 21 255) ?_
       refine pv_ 8 (some 23) (bm 21 511) ?_
       refine pv_ 9 (some 24) (bm 21 1023) ?_
       refine pv_ 10 (some 25) (bm 21 2047) ?_
       refine pv_ 11 (some 26) (bm 21 4095) ?_
       refine pv_ 12 (some 27) (bm 21 8191) ?_
       refine pv_ 13 (some 28) (bm 21 16383) ?_
       refine pv_ 14 (some 29) (bm 21 32767) ?_
       refine pv_ 15 (some 30) (bm 21 65535) ?_
       refine pv_ 16 (some 31) (bm 21 131071) ?_
       refine pv_ 17 (some 32) (bm 21 262143) ?_
       refine pv_ 18 (some 33) (bm 21 524287) ?_
       refine pv_ 19 (some 34) (bm 21 1048575) ?_
       refine pu_ 20 (some 35) (bm 21 2097151) ?_
       refine done_ (done_of HT_.out (by kernel_rfl)) ?_
       try go_wp2
       go_ret
       exact ⟨fi_,m2_⟩
     ·rw [if_neg c8] at H
      exact absurd H (by simp)
    ·rw [if_neg c7] at H
     have c7b0 : decide (x3_1 < (l0_0.length : Int)) = false:=decide_eq_false c7
     clear c7
     obtain rfl:=Option.some.inj H
     have:=bcell BK115 0
     have:=bfz BK115 0
     go_wp2
     go_ret
     exact ⟨fi_,m2_⟩
def impl_lineByte.f (a0 : Int) : Option (Bool):=if a0 ≥ 97 then (if a0 ≤ 122 then (some true) else (if a0 ≥ 48 then (if a0 ≤ 57 then (some true) else (some (a0 == 32))) else (some (a0 == 32)))) else (if a0 ≥ 48 then (if a0 ≤ 57 then (some true) else (some (a0 == 32))) else (some (a0 == 32)))
set_option maxHeartbeats 8000000 in
set_option maxRecDepth 100000 in
theorem impl_lineByte.calls (a0 : Int) (r : Bool) (w : World) (h : impl_lineByte.f a0 = some r) :
  Calls Tryz.prog 54 #[.int .u8 a0] w fun e w'=>e = .returned (.bool r) ∧ Drawn0 w w':=by
 have H : (if a0 ≥ 97 then (if a0 ≤ 122 then (some true) else (if a0 ≥ 48 then (if a0 ≤ 57 then (some true) else (some (a0 == 32))) else (some (a0 == 32)))) else (if a0 ≥ 48 then (if a0 ≤ 57 then (some true) else (some (a0 == 32))) else (some (a0 == 32)))) = some r:=h
 clear h
 by_cases c2 : a0 ≥ 97
 ·rw [if_pos c2] at H
  have c2b0 : decide (97 ≤ a0) = true:=decide_eq_true c2
  clear c2
  by_cases c3 : a0 ≤ 122
  ·rw [if_pos c3] at H
   have c3b0 : decide (a0 ≤ 122) = true:=decide_eq_true c3
   clear c3
   obtain rfl:=Option.some.inj H
   go_enter Tryz.func54,Tryz.ntmps54
   go_wp2
   go_ret
   exact ⟨fr_,dn_⟩
  ·rw [if_neg c3] at H
   have c3b0 : decide (a0 ≤ 122) = false:=decide_eq_false c3
   clear c3
   by_cases c4 : a0 ≥ 48
   ·rw [if_pos c4] at H
    have c4b0 : decide (48 ≤ a0) = true:=decide_eq_true c4
    clear c4
    by_cases c5 : a0 ≤ 57
    ·rw [if_pos c5] at H
     have c5b0 : decide (a0 ≤ 57) = true:=decide_eq_true c5
     clear c5
     obtain rfl:=Option.some.inj H
     go_enter Tryz.func54,Tryz.ntmps54
     go_wp2
     go_ret
     exact ⟨fr_,dn_⟩
    ·rw [if_neg c5] at H
     have c5b0 : decide (a0 ≤ 57) = false:=decide_eq_false c5
     clear c5
     obtain rfl:=Option.some.inj H
     go_enter Tryz.func54,Tryz.ntmps54
     go_wp2
     go_ret
     exact ⟨fr_,dn_⟩
   ·rw [if_neg c4] at H
    have c4b0 : decide (48 ≤ a0) = false:=decide_eq_false c4
    clear c4
    obtain rfl:=Option.some.inj H
    go_enter Tryz.func54,Tryz.ntmps54
    go_wp2
    go_ret
    exact ⟨fr_,dn_⟩
 ·rw [if_neg c2] at H
  have c2b0 : decide (97 ≤ a0) = false:=decide_eq_false c2
  clear c2
  by_cases c6 : a0 ≥ 48
  ·rw [if_pos c6] at H
   have c6b0 : decide (48 ≤ a0) = true:=decide_eq_true c6
   clear c6
   by_cases c7 : a0 ≤ 57
   ·rw [if_pos c7] at H
    have c7b0 : decide (a0 ≤ 57) = true:=decide_eq_true c7
    clear c7
    obtain rfl:=Option.some.inj H
    go_enter Tryz.func54,Tryz.ntmps54
    go_wp2
    go_ret
    exact ⟨fr_,dn_⟩
   ·rw [if_neg c7] at H
    have c7b0 : decide (a0 ≤ 57) = false:=decide_eq_false c7
    clear c7
    obtain rfl:=Option.some.inj H
    go_enter Tryz.func54,Tryz.ntmps54
    go_wp2
    go_ret
    exact ⟨fr_,dn_⟩
  ·rw [if_neg c6] at H
   have c6b0 : decide (48 ≤ a0) = false:=decide_eq_false c6
   clear c6
   obtain rfl:=Option.some.inj H
   go_enter Tryz.func54,Tryz.ntmps54
   go_wp2
   go_ret
   exact ⟨fr_,dn_⟩
end
def lb (b : Int) : Bool := (97 ≤ b && b ≤ 122) || ((48 ≤ b && b ≤ 57) || b == 32)
theorem lb_f (b : Int) : impl_lineByte.f b = some (lb b) := by
  unfold impl_lineByte.f lb
  by_cases h1 : 97 ≤ b <;> by_cases h2 : b ≤ 122 <;> by_cases h3 : 48 ≤ b <;> by_cases h4 : b ≤ 57 <;> simp [h1, h2, h3, h4]
def bys (s : ByteArray) : List Int := s.data.toList.map fun b => (b.toNat : Int)
def linOk (s : ByteArray) : Bool := (bys s).all lb && decide (s.size ≤ 16)
def impl_LinOk.f (s : ByteArray) : Option Bool := if s.size ≤ 140737488351232 then some (linOk s) else none
theorem bys_get (s : ByteArray) (k : Nat) (h : k < s.size) : ((s.data.toList.getD k 0).toNat : Int) = (bys s)[k]'(by simpa [bys] using h) := by
  have h' : k < s.data.toList.length := by simpa using h
  simp [bys, List.getD, List.getElem?_eq_getElem h']
theorem below_bytes (w : World) (e : TypeId) (s : ByteArray) : Below w.heap.size w (Lib.bytesWorld w e s) :=
  ⟨rfl, rfl, rfl, by rw [Lib.bytesWorld_size]; omega, fun i hi => Lib.bytesWorld_at_old w e s i hi⟩
set_option maxHeartbeats 1000000 in
set_option maxRecDepth 100000 in
theorem impl_LinOk.calls (a0 : ByteArray) (r : Bool) (w : World) (h : impl_LinOk.f a0 = some r) :
    Calls Tryz.prog 22 #[.string a0] w fun e w' => e = .returned (.bool r) ∧ Below w.heap.size w w' := by
  have hs : a0.size ≤ 140737488351232 := by
    unfold impl_LinOk.f at h
    split at h
    · assumption
    · cases h
  have hr : r = linOk a0 := by
    unfold impl_LinOk.f at h
    rw [if_pos hs] at h
    exact (Option.some.inj h).symm
  have HR := Lib.hid hr
  clear hr h
  have hcv := fun (w : World) => Lib.run_convert_string_bytes (P := Tryz.prog) w 9 22 5 a0 Tryz.underlying9 Tryz.underlying22 Tryz.underlying5
  go_enter Tryz.func22, Tryz.ntmps22
  go_wp2_with fail
  obtain ⟨W0, hW0⟩ : ∃ W0, Lib.bytesWorld w 5 a0 = W0 := ⟨_, rfl⟩
  have hbw : Below w.heap.size w W0 := by rw [← hW0]; exact below_bytes w 5 a0
  have hcW := Lib.hid (fun k (hk : k < a0.size) => (by rw [← hW0]; exact Lib.bytesWorld_cell w 5 a0 k hk : W0.cell? ⟨w.heap.size, k, none⟩ = some (.int .u8 (a0.data.toList.getD k 0).toNat)))
  have HBW := Lib.hid hbw
  rw [hW0]
  clear hW0 hcv hbw
  go_loopw [4, 8] (fun b i wr => ∃ k : Nat, k ≤ a0.size ∧ i = .int .i64 k ∧ Aside0 (((bys a0).take k).all lb = true) ∧ Aside0 (Drawn0 W0 wr)) (fun _ i _ => a0.size - (intOf i).toNat)
  case atStart => exact ⟨0, Nat.zero_le _, rfl, ⟨by simp⟩, ⟨Drawn0.refl _⟩⟩
  case round =>
    obtain ⟨k, hk, rfl, ha, hd⟩ := hrel
    by_cases hlt : k < a0.size
    · obtain ⟨nd, hnd⟩ := hd.out.out
      subst hnd
      have hg := bys_get a0 k hlt
      have hc0 := hcW.out k hlt
      obtain ⟨x, hx⟩ : ∃ x : Int, ((a0.data.toList.getD k 0).toNat : Int) = x := ⟨_, rfl⟩
      rw [hx] at hg hc0
      have hc : (W0.drewN nd).cell? ⟨w.heap.size, k, none⟩ = some (.int .u8 x) := hc0
      have hlen : (bys a0).length = a0.size := by simp [bys]
      have htk : (bys a0).take (k + 1) = (bys a0).take k ++ [x] := by
        rw [List.take_succ_eq_append_getElem (by omega), ← hg]
      have HT := Lib.hid htk
      have HL := Lib.hid hlen
      have HG := Lib.hid hg
      clear hx hg hc0 htk hlen
      cases hb : lb x with
      | true =>
        have HL' := Lib.hid hb
        have hfb : impl_lineByte.f x = some true := by rw [lb_f, hb]
        have HF := Lib.hid hfb
        clear hb hfb
        go_wp2_with (go_at_call 54; refine (impl_lineByte.calls _ true _ HF.out).mono ?_; rintro e wq ⟨rfl, ⟨nq, rfl⟩⟩)
        go_roundw
        case rel => exact ⟨k + 1, by omega, by go_num, ⟨by rw [HT.out, List.all_append, ha.out]; simp [HL'.out]⟩, ⟨⟨⟨_, rfl⟩⟩⟩⟩
        case measure => simp [intOf]; omega
      | false =>
        have HL' := Lib.hid hb
        have hfb : impl_lineByte.f x = some false := by rw [lb_f, hb]
        have HF := Lib.hid hfb
        clear hb hfb
        go_wp2_with (go_at_call 54; refine (impl_lineByte.calls _ false _ HF.out).mono ?_; rintro e wq ⟨rfl, ⟨nq, rfl⟩⟩)
        go_ret
        have hfl : linOk a0 = false := by
          unfold linOk
          have : (bys a0).all lb = false := by
            rw [List.all_eq_false]
            exact ⟨x, by rw [HG.out]; exact List.getElem_mem _, by simp [HL'.out]⟩
          simp [this]
        exact ⟨by rw [HR.out, hfl]; rfl, HBW.out.trans ((Drawn0.below ⟨⟨_, rfl⟩⟩).mono HBW.out.size)⟩
    · obtain ⟨nd, hnd⟩ := hd.out.out
      subst hnd
      have hk2 : k = a0.size := by omega
      subst hk2
      have hlen : (bys a0).length = a0.size := by simp [bys]
      have hall : (bys a0).all lb = true := by have := ha.out; rwa [List.take_of_length_le (by omega)] at this
      have HA := Lib.hid hall
      clear hall hlen
      have hfin : linOk a0 = decide ((a0.size : Int) ≤ 16) := by
        rw [linOk, HA.out, Bool.true_and]
        exact decide_eq_decide.mpr (by omega)
      have HFIN := Lib.hid hfin
      clear hfin
      by_cases h16 : (a0.size : Int) ≤ 16
      · go_wp2
        go_ret
        exact ⟨by rw [HR.out, HFIN.out, decide_eq_true h16]; rfl, HBW.out.trans ((Drawn0.below hd.out).mono HBW.out.size)⟩
      · go_wp2
        go_ret
        exact ⟨by rw [HR.out, HFIN.out, decide_eq_false (by omega)]; rfl, HBW.out.trans ((Drawn0.below hd.out).mono HBW.out.size)⟩
section
attribute [local go_sem] max2_int min2_int max_two min_two max_three min_three max_four min_four
def laws_haOk.f  : Option (Bool):=(impl_LinOk.f (⟨#[97]⟩ : ByteArray)).bind fun t459=>(some t459)
set_option maxHeartbeats 8000000 in
set_option maxRecDepth 100000 in
theorem laws_haOk.calls  (r : Bool) (w : World) (h : laws_haOk.f  = some r) :
  Calls Tryz.prog 18 #[] w fun e w'=>e = .returned (.bool r) ∧ Below w.heap.size w w':=by
 have HB:=am (Below.refl w.heap.size w)
 have H : ((impl_LinOk.f (⟨#[97]⟩ : ByteArray)).bind fun t459=>(some t459)) = some r:=h
 clear h
 obtain ⟨t459,A1,H⟩:=bse H
 try dsimp only at H
 obtain rfl:=Option.some.inj H
 go_enter Tryz.func18,Tryz.ntmps18
 go_wp2_with (first | ((with_reducible refine gC 22 rfl ?_);refine gL (some 1) Tryz.func22 #[.string (⟨#[97]⟩ : ByteArray)] ?_;(with_reducible refine (impl_LinOk.calls (⟨#[97]⟩ : ByteArray) t459 _ A1.out).mono ?_);rintro e w2 ⟨rfl,hb⟩;refine ⟨_,rfl,?_⟩;replace HB:=hbS HB hb;(try clear hb)))
 go_ret
 exact ⟨fi_,m0_⟩
def impl_within.f (a0 : Int) (a1 : Int) (a2 : Int) : Option (Bool):=if a0 ≥ a1 then (some (decide (a0 ≤ a2))) else (some false)
set_option maxHeartbeats 8000000 in
set_option maxRecDepth 100000 in
theorem impl_within.calls (a0 : Int) (a1 : Int) (a2 : Int) (r : Bool) (w : World) (h : impl_within.f a0 a1 a2 = some r) :
  Calls Tryz.prog 111 #[.int .i64 a0,.int .i64 a1,.int .i64 a2] w fun e w'=>e = .returned (.bool r) ∧ Drawn0 w w':=by
 have H : (if a0 ≥ a1 then (some (decide (a0 ≤ a2))) else (some false)) = some r:=h
 clear h
 by_cases c4 : a0 ≥ a1
 ·rw [if_pos c4] at H
  have c4b0 : decide (a1 ≤ a0) = true:=decide_eq_true c4
  clear c4
  obtain rfl:=Option.some.inj H
  go_enter Tryz.func111,Tryz.ntmps111
  go_wp2
  go_ret
  exact ⟨fr_,dn_⟩
 ·rw [if_neg c4] at H
  have c4b0 : decide (a1 ≤ a0) = false:=decide_eq_false c4
  clear c4
  obtain rfl:=Option.some.inj H
  go_enter Tryz.func111,Tryz.ntmps111
  go_wp2
  go_ret
  exact ⟨fr_,dn_⟩
def impl_inside.f (a0 : Int) : Option (Bool):=(impl_within.f a0 1 9).bind fun t282=>(some t282)
set_option maxHeartbeats 8000000 in
set_option maxRecDepth 100000 in
theorem impl_inside.calls (a0 : Int) (r : Bool) (w : World) (h : impl_inside.f a0 = some r) :
  Calls Tryz.prog 84 #[.int .i64 a0] w fun e w'=>e = .returned (.bool r) ∧ Drawn0 w w':=by
 have H : ((impl_within.f a0 1 9).bind fun t282=>(some t282)) = some r:=h
 clear h
 obtain ⟨t282,A2,H⟩:=bse H
 try dsimp only at H
 obtain rfl:=Option.some.inj H
 go_enter Tryz.func84,Tryz.ntmps84
 go_wp2_with (first | ((with_reducible refine gC 111 rfl ?_);refine gL (some 4) Tryz.func111 #[.int .i64 a0,.int .i64 1,.int .i64 9] ?_;(with_reducible refine (impl_within.calls a0 1 9 t282 _ A2.out).mono ?_);rintro e w' ⟨rfl,⟨nd,rfl⟩⟩;refine ⟨_,rfl,?_⟩))
 go_ret
 exact ⟨fr_,dn_⟩
def impl_portOk.f (a0 : Int) : Option (Bool):=(impl_within.f a0 1 999).bind fun t283=>(some t283)
set_option maxHeartbeats 8000000 in
set_option maxRecDepth 100000 in
theorem impl_portOk.calls (a0 : Int) (r : Bool) (w : World) (h : impl_portOk.f a0 = some r) :
  Calls Tryz.prog 85 #[.int .i64 a0] w fun e w'=>e = .returned (.bool r) ∧ Drawn0 w w':=by
 have H : ((impl_within.f a0 1 999).bind fun t283=>(some t283)) = some r:=h
 clear h
 obtain ⟨t283,A2,H⟩:=bse H
 try dsimp only at H
 obtain rfl:=Option.some.inj H
 go_enter Tryz.func85,Tryz.ntmps85
 go_wp2_with (first | ((with_reducible refine gC 111 rfl ?_);refine gL (some 4) Tryz.func111 #[.int .i64 a0,.int .i64 1,.int .i64 999] ?_;(with_reducible refine (impl_within.calls a0 1 999 t283 _ A2.out).mono ?_);rintro e w' ⟨rfl,⟨nd,rfl⟩⟩;refine ⟨_,rfl,?_⟩))
 go_ret
 exact ⟨fr_,dn_⟩
def impl_EndInside.f (a0_0 : Int) (a0_1 : Int) : Option (Bool):=(impl_inside.f a0_0).bind fun t285=>(if t285 = true then ((impl_portOk.f a0_1).bind fun t286=>(some t286)) else (some false))
set_option maxHeartbeats 8000000 in
set_option maxRecDepth 100000 in
theorem impl_EndInside.calls (a0_0 : Int) (a0_1 : Int) (r : Bool) (w : World) (h : impl_EndInside.f a0_0 a0_1 = some r) :
  Calls Tryz.prog 52 #[.agg #[.int .i64 a0_0,.int .i64 a0_1]] w fun e w'=>e = .returned (.bool r) ∧ Below w.heap.size w w':=by
 have hu34:=Tryz.underlying34
 have HB:=am (Below.refl w.heap.size w)
 have H : ((impl_inside.f a0_0).bind fun t285=>(if t285 = true then ((impl_portOk.f a0_1).bind fun t286=>(some t286)) else (some false))) = some r:=h
 clear h
 obtain ⟨t285,A2,H⟩:=bse H
 try dsimp only at H
 by_cases c3 : t285 = true
 ·subst c3
  have H1 : ((impl_portOk.f a0_1).bind fun t286=>(some t286)) = some r:=by rw [if_pos rfl] at H;exact H
  clear H
  have H:=H1
  clear H1
  obtain ⟨t286,A4,H⟩:=bse H
  try dsimp only at H
  obtain rfl:=Option.some.inj H
  go_enter Tryz.func52,Tryz.ntmps52
  go_wp2_with (first | ((with_reducible refine gD 1 rfl ?_);refine box_event rfl (N:=1) rfl (cs:=#[.int .i64 a0_0,.int .i64 a0_1]) (t:=34) hr_ ?_;intro gb284 hg w5 hbox hb;have BK284:=am hbox;have GW284:=gwE HB hg;have GE284:=gwE HB hg;replace HB:=hbS HB hb;clear hb hbox hg;have:=bcell BK284 0;have:=bcell BK284 1;have:=bfz BK284 0;have:=bfz BK284 1) | ((with_reducible refine gC 84 rfl ?_);refine gL (some 5) Tryz.func84 #[.int .i64 a0_0] ?_;(with_reducible refine (impl_inside.calls a0_0 true _ A2.out).mono ?_);rintro e w' ⟨rfl,⟨nd,rfl⟩⟩;refine ⟨_,rfl,?_⟩) | (go_at_call 85;(with_reducible refine (impl_portOk.calls a0_1 t286 _ A4.out).mono ?_);rintro e w' ⟨rfl,⟨nd,rfl⟩⟩))
  go_ret
  exact ⟨fi_,m2_⟩
 ·replace c3:=Bool.eq_false_iff.mpr c3
  subst c3
  have H1 : (some false) = some r:=by rw [if_neg (show ¬ (false = true) by decide)] at H;exact H
  clear H
  have H:=H1
  clear H1
  obtain rfl:=Option.some.inj H
  go_enter Tryz.func52,Tryz.ntmps52
  go_wp2_with (first | ((with_reducible refine gD 1 rfl ?_);refine box_event rfl (N:=1) rfl (cs:=#[.int .i64 a0_0,.int .i64 a0_1]) (t:=34) hr_ ?_;intro gb284 hg w7 hbox hb;have BK284:=am hbox;have GW284:=gwE HB hg;have GE284:=gwE HB hg;replace HB:=hbS HB hb;clear hb hbox hg;have:=bcell BK284 0;have:=bcell BK284 1;have:=bfz BK284 0;have:=bfz BK284 1) | ((with_reducible refine gC 84 rfl ?_);refine gL (some 5) Tryz.func84 #[.int .i64 a0_0] ?_;(with_reducible refine (impl_inside.calls a0_0 false _ A2.out).mono ?_);rintro e w' ⟨rfl,⟨nd,rfl⟩⟩;refine ⟨_,rfl,?_⟩))
  go_ret
  exact ⟨fi_,m2_⟩
def impl_outside.f (a0 : Int) : Option (Bool):=(impl_within.f a0 100 109).bind fun t303=>(some t303)
set_option maxHeartbeats 8000000 in
set_option maxRecDepth 100000 in
theorem impl_outside.calls (a0 : Int) (r : Bool) (w : World) (h : impl_outside.f a0 = some r) :
  Calls Tryz.prog 88 #[.int .i64 a0] w fun e w'=>e = .returned (.bool r) ∧ Drawn0 w w':=by
 have H : ((impl_within.f a0 100 109).bind fun t303=>(some t303)) = some r:=h
 clear h
 obtain ⟨t303,A2,H⟩:=bse H
 try dsimp only at H
 obtain rfl:=Option.some.inj H
 go_enter Tryz.func88,Tryz.ntmps88
 go_wp2_with (first | ((with_reducible refine gC 111 rfl ?_);refine gL (some 4) Tryz.func111 #[.int .i64 a0,.int .i64 100,.int .i64 109] ?_;(with_reducible refine (impl_within.calls a0 100 109 t303 _ A2.out).mono ?_);rintro e w' ⟨rfl,⟨nd,rfl⟩⟩;refine ⟨_,rfl,?_⟩))
 go_ret
 exact ⟨fr_,dn_⟩
end
def inB (n lo hi : Int) : Bool := decide (lo ≤ n) && decide (n ≤ hi)
theorem within_f (n lo hi : Int) : impl_within.f n lo hi = some (inB n lo hi) := by
  unfold impl_within.f inB
  by_cases h : lo ≤ n <;> simp [h]
theorem inside_f (n : Int) : impl_inside.f n = some (inB n 1 9) := by unfold impl_inside.f; rw [within_f]; rfl
theorem outside_f (n : Int) : impl_outside.f n = some (inB n 100 109) := by unfold impl_outside.f; rw [within_f]; rfl
theorem portOk_f (n : Int) : impl_portOk.f n = some (inB n 1 999) := by unfold impl_portOk.f; rw [within_f]; rfl
def endIn (a p : Int) : Bool := inB a 1 9 && inB p 1 999
def endOut (a p : Int) : Bool := inB a 100 109 && inB p 1 999
theorem EndInside_f (a p : Int) : impl_EndInside.f a p = some (endIn a p) := by
  unfold impl_EndInside.f endIn
  rw [inside_f, Option.bind_some]
  cases h : inB a 1 9 <;> simp [portOk_f]
def endOkB (a p : Int) : Bool := (inB a 1 9 || inB a 100 109 || decide (a = 50)) && inB p 1 999
def etext (a p : Int) : ByteArray := if endOkB a p then (numB a ++ (⟨#[32]⟩ : ByteArray)) ++ numB p else ⟨#[]⟩
def cutW (s : ByteArray) : ByteArray × ByteArray := (⟨(Lib.cut s.data.toList [32]).1.toArray⟩, ⟨(Lib.cut s.data.toList [32]).2.1.toArray⟩)
def readEndW (t : ByteArray) : Option (Int × Int) := (atoiO (cutW t).1).bind fun a => (atoiO (cutW t).2).bind fun p => if etext a p = t then some (a, p) else none
def portL : List UInt8 := [112, 111, 114, 116, 32]
def trimW (s : ByteArray) : ByteArray := ⟨(Lib.trimPrefix s.data.toList portL).toArray⟩
def saidW (s : ByteArray) : Int × Int × Bool := match readEndW (trimW s) with
  | some (a, p) => (a, p, Lib.hasPrefix s.data.toList portL)
  | none => (0, 0, false)
theorem endOkB_le {a p : Int} (h : endOkB a p = true) : (1 ≤ a ∧ a ≤ 109) ∧ (1 ≤ p ∧ p ≤ 999) := by
  simp only [endOkB, inB, Bool.and_eq_true, Bool.or_eq_true, decide_eq_true_eq] at h
  omega
section
attribute [local go_sem] max2_int min2_int max_two min_two max_three min_three max_four min_four
def impl_EndOk.f (a0_0 : Int) (a0_1 : Int) : Option (Bool):=(impl_inside.f a0_0).bind fun t305=>(if t305 = true then ((impl_portOk.f a0_1).bind fun t306=>(some t306)) else ((impl_outside.f a0_0).bind fun t307=>(if t307 = true then ((impl_portOk.f a0_1).bind fun t308=>(some t308)) else (if a0_0 = 50 then ((impl_portOk.f a0_1).bind fun t309=>(some t309)) else (some false)))))
set_option maxHeartbeats 8000000 in
set_option maxRecDepth 100000 in
theorem impl_EndOk.calls (a0_0 : Int) (a0_1 : Int) (r : Bool) (w : World) (h : impl_EndOk.f a0_0 a0_1 = some r) :
  Calls Tryz.prog 56 #[.agg #[.int .i64 a0_0,.int .i64 a0_1]] w fun e w'=>e = .returned (.bool r) ∧ Below w.heap.size w w':=by
 have hu34:=Tryz.underlying34
 have HB:=am (Below.refl w.heap.size w)
 have H : ((impl_inside.f a0_0).bind fun t305=>(if t305 = true then ((impl_portOk.f a0_1).bind fun t306=>(some t306)) else ((impl_outside.f a0_0).bind fun t307=>(if t307 = true then ((impl_portOk.f a0_1).bind fun t308=>(some t308)) else (if a0_0 = 50 then ((impl_portOk.f a0_1).bind fun t309=>(some t309)) else (some false)))))) = some r:=h
 clear h
 obtain ⟨t305,A2,H⟩:=bse H
 try dsimp only at H
 by_cases c3 : t305 = true
 ·subst c3
  have H1 : ((impl_portOk.f a0_1).bind fun t306=>(some t306)) = some r:=by rw [if_pos rfl] at H;exact H
  clear H
  have H:=H1
  clear H1
  obtain ⟨t306,A4,H⟩:=bse H
  try dsimp only at H
  obtain rfl:=Option.some.inj H
  go_enter Tryz.func56,Tryz.ntmps56
  go_wp2_with (first | ((with_reducible refine gD 1 rfl ?_);refine box_event rfl (N:=1) rfl (cs:=#[.int .i64 a0_0,.int .i64 a0_1]) (t:=34) hr_ ?_;intro gb304 hg w5 hbox hb;have BK304:=am hbox;have GW304:=gwE HB hg;have GE304:=gwE HB hg;replace HB:=hbS HB hb;clear hb hbox hg;have:=bcell BK304 0;have:=bcell BK304 1;have:=bfz BK304 0;have:=bfz BK304 1) | ((with_reducible refine gC 84 rfl ?_);refine gL (some 5) Tryz.func84 #[.int .i64 a0_0] ?_;(with_reducible refine (impl_inside.calls a0_0 true _ A2.out).mono ?_);rintro e w' ⟨rfl,⟨nd,rfl⟩⟩;refine ⟨_,rfl,?_⟩) | (go_at_call 85;(with_reducible refine (impl_portOk.calls a0_1 t306 _ A4.out).mono ?_);rintro e w' ⟨rfl,⟨nd,rfl⟩⟩))
  go_ret
  exact ⟨fi_,m2_⟩
 ·replace c3:=Bool.eq_false_iff.mpr c3
  subst c3
  have H1 : ((impl_outside.f a0_0).bind fun t307=>(if t307 = true then ((impl_portOk.f a0_1).bind fun t308=>(some t308)) else (if a0_0 = 50 then ((impl_portOk.f a0_1).bind fun t309=>(some t309)) else (some false)))) = some r:=by rw [if_neg (show ¬ (false = true) by decide)] at H;exact H
  clear H
  have H:=H1
  clear H1
  obtain ⟨t307,A7,H⟩:=bse H
  try dsimp only at H
  by_cases c8 : t307 = true
  ·subst c8
   have H1 : ((impl_portOk.f a0_1).bind fun t308=>(some t308)) = some r:=by rw [if_pos rfl] at H;exact H
   clear H
   have H:=H1
   clear H1
   obtain ⟨t308,A9,H⟩:=bse H
   try dsimp only at H
   obtain rfl:=Option.some.inj H
   go_enter Tryz.func56,Tryz.ntmps56
   go_wp2_with (first | ((with_reducible refine gD 1 rfl ?_);refine box_event rfl (N:=1) rfl (cs:=#[.int .i64 a0_0,.int .i64 a0_1]) (t:=34) hr_ ?_;intro gb304 hg w10 hbox hb;have BK304:=am hbox;have GW304:=gwE HB hg;have GE304:=gwE HB hg;replace HB:=hbS HB hb;clear hb hbox hg;have:=bcell BK304 0;have:=bcell BK304 1;have:=bfz BK304 0;have:=bfz BK304 1) | ((with_reducible refine gC 84 rfl ?_);refine gL (some 5) Tryz.func84 #[.int .i64 a0_0] ?_;(with_reducible refine (impl_inside.calls a0_0 false _ A2.out).mono ?_);rintro e w' ⟨rfl,⟨nd,rfl⟩⟩;refine ⟨_,rfl,?_⟩) | (go_at_call 88;(with_reducible refine (impl_outside.calls a0_0 true _ A7.out).mono ?_);rintro e w' ⟨rfl,⟨nd,rfl⟩⟩) | (go_at_call 85;(with_reducible refine (impl_portOk.calls a0_1 t308 _ A9.out).mono ?_);rintro e w' ⟨rfl,⟨nd,rfl⟩⟩))
   go_ret
   exact ⟨fi_,m2_⟩
  ·replace c8:=Bool.eq_false_iff.mpr c8
   subst c8
   have H1 : (if a0_0 = 50 then ((impl_portOk.f a0_1).bind fun t309=>(some t309)) else (some false)) = some r:=by rw [if_neg (show ¬ (false = true) by decide)] at H;exact H
   clear H
   have H:=H1
   clear H1
   by_cases c12 : a0_0 = 50
   ·rw [if_pos c12] at H
    have c12b0 : (a0_0 == 50) = true:=beq_iff_eq.mpr c12
    have c12b1 : (a0_0 != 50) = false:=bne_eq_false_iff_eq.mpr c12
    clear c12
    obtain ⟨t309,A13,H⟩:=bse H
    try dsimp only at H
    obtain rfl:=Option.some.inj H
    go_enter Tryz.func56,Tryz.ntmps56
    go_wp2_with (first | ((with_reducible refine gD 1 rfl ?_);refine box_event rfl (N:=1) rfl (cs:=#[.int .i64 a0_0,.int .i64 a0_1]) (t:=34) hr_ ?_;intro gb304 hg w14 hbox hb;have BK304:=am hbox;have GW304:=gwE HB hg;have GE304:=gwE HB hg;replace HB:=hbS HB hb;clear hb hbox hg;have:=bcell BK304 0;have:=bcell BK304 1;have:=bfz BK304 0;have:=bfz BK304 1) | ((with_reducible refine gC 84 rfl ?_);refine gL (some 5) Tryz.func84 #[.int .i64 a0_0] ?_;(with_reducible refine (impl_inside.calls a0_0 false _ A2.out).mono ?_);rintro e w' ⟨rfl,⟨nd,rfl⟩⟩;refine ⟨_,rfl,?_⟩) | (go_at_call 88;(with_reducible refine (impl_outside.calls a0_0 false _ A7.out).mono ?_);rintro e w' ⟨rfl,⟨nd,rfl⟩⟩) | (go_at_call 85;(with_reducible refine (impl_portOk.calls a0_1 t309 _ A13.out).mono ?_);rintro e w' ⟨rfl,⟨nd,rfl⟩⟩))
    go_ret
    exact ⟨fi_,m2_⟩
   ·rw [if_neg c12] at H
    have c12b0 : (a0_0 == 50) = false:=beq_eq_false_iff_ne.mpr c12
    have c12b1 : (a0_0 != 50) = true:=bne_iff_ne.mpr c12
    obtain rfl:=Option.some.inj H
    go_enter Tryz.func56,Tryz.ntmps56
    go_wp2_with (first | ((with_reducible refine gD 1 rfl ?_);refine box_event rfl (N:=1) rfl (cs:=#[.int .i64 a0_0,.int .i64 a0_1]) (t:=34) hr_ ?_;intro gb304 hg w16 hbox hb;have BK304:=am hbox;have GW304:=gwE HB hg;have GE304:=gwE HB hg;replace HB:=hbS HB hb;clear hb hbox hg;have:=bcell BK304 0;have:=bcell BK304 1;have:=bfz BK304 0;have:=bfz BK304 1) | ((with_reducible refine gC 84 rfl ?_);refine gL (some 5) Tryz.func84 #[.int .i64 a0_0] ?_;(with_reducible refine (impl_inside.calls a0_0 false _ A2.out).mono ?_);rintro e w' ⟨rfl,⟨nd,rfl⟩⟩;refine ⟨_,rfl,?_⟩) | (go_at_call 88;(with_reducible refine (impl_outside.calls a0_0 false _ A7.out).mono ?_);rintro e w' ⟨rfl,⟨nd,rfl⟩⟩))
    go_ret
    exact ⟨fi_,m2_⟩
end
end Go.Proofs.YtffmbccgcaghjaaGreatDoor.P
namespace Go.Proofs.YtffmbccgcaghjaaGreatDoor.P
open Go Go.Proofs.YtffmbccgcaghjaaGreatDoorUFnRwrStays.PrintLast Go.Proofs.YtffmbccgcaghjaaGreatDoorUFnRwrStays.PrintMore Go.Proofs.YtffmbccgcaghjaaGreatDoorUFnRwrStays.PrintWords Go.RowKit Go.Sort
set_option linter.unusedVariables false
def strconv_Itoa_89.f (n : Int) : Option ByteArray := if 0 ≤ n ∧ n ≤ 999 then some (numB n) else none
theorem strconv_Itoa_89.calls (a0 : Int) (r : ByteArray) (w : World) (h : strconv_Itoa_89.f a0 = some r) (hE : EnvT w) :
    Calls Tryz.prog 89 #[.int .i64 a0] w fun e w' => e = .returned (.string r) ∧ Below w.heap.size w w' := by
  unfold strconv_Itoa_89.f at h
  by_cases hq : 0 ≤ a0 ∧ a0 ≤ 999
  · rw [if_pos hq] at h
    refine (num_calls a0 hq.1 hq.2 w hE).mono ?_
    rintro e w' ⟨b, rfl, hb, _, hB⟩
    cases h
    exact ⟨by rw [hb], hB⟩
  · rw [if_neg hq] at h; cases h
end Go.Proofs.YtffmbccgcaghjaaGreatDoor.P
namespace Go.Proofs.YtffmbccgcaghjaaGreatDoor.P
open Go.Proofs.YtffmbccgcaghjaaGreatDoorUFnRwrStays.PrintLast Go.Proofs.YtffmbccgcaghjaaGreatDoorUFnRwrStays.PrintMore Go.Proofs.YtffmbccgcaghjaaGreatDoorUFnRwrStays.PrintWords Go.RowKit
set_option linter.unusedVariables false
set_option linter.unusedSimpArgs false
section
attribute [local go_sem] max2_int min2_int max_two min_two max_three min_three max_four min_four
def impl_EndText.f (a0_0 : Int) (a0_1 : Int) : Option (ByteArray):=(impl_EndOk.f a0_0 a0_1).bind fun t330=>(if t330 = true then ((strconv_Itoa_89.f a0_0).bind fun t331=>(if t331.size + 1 ≤ 9223372036854775807 then ((strconv_Itoa_89.f a0_1).bind fun t332=>(if (t331 ++ (⟨#[32]⟩ : ByteArray)).size + t332.size ≤ 9223372036854775807 then (some ((t331 ++ (⟨#[32]⟩ : ByteArray)) ++ t332)) else (none))) else (none))) else (some (⟨#[]⟩ : ByteArray)))
def impl_EndText.T3 : Bool × List (List Nat × List Nat):=(true,[([],[]),([0],[0]),([1],[1]),([2],[2]),([],[]),([4],[4]),([5,2],[5]),([3,6],[3,6]),([7,6,0,1,2,3,4,5,6,7],[7])])
def impl_EndText.B3 : List Nat:=[0,1,3,7,0,16,55,127,255]
theorem impl_EndText.tab3 : rtab .any (opsOf Tryz.f57 3) = impl_EndText.T3:=by kernel_rfl
theorem impl_EndText.bits3 : waitsOk impl_EndText.T3.2 impl_EndText.B3 = true:=by kernel_rfl
set_option maxHeartbeats 8000000 in
set_option maxRecDepth 100000 in
theorem impl_EndText.calls (a0_0 : Int) (a0_1 : Int) (r : ByteArray) (w : World) (h : impl_EndText.f a0_0 a0_1 = some r) (hE : EnvT w) :
  Calls Tryz.prog 57 #[.agg #[.int .i64 a0_0,.int .i64 a0_1]] w fun e w'=>e = .returned (.string r) ∧ Below w.heap.size w w':=by
 have hu34:=Tryz.underlying34
 have HB:=am (Below.refl w.heap.size w)
 have H : ((impl_EndOk.f a0_0 a0_1).bind fun t330=>(if t330 = true then ((strconv_Itoa_89.f a0_0).bind fun t331=>(if t331.size + 1 ≤ 9223372036854775807 then ((strconv_Itoa_89.f a0_1).bind fun t332=>(if (t331 ++ (⟨#[32]⟩ : ByteArray)).size + t332.size ≤ 9223372036854775807 then (some ((t331 ++ (⟨#[32]⟩ : ByteArray)) ++ t332)) else (none))) else (none))) else (some (⟨#[]⟩ : ByteArray)))) = some r:=h
 clear h
 obtain ⟨t330,A2,H⟩:=bse H
 try dsimp only at H
 by_cases c3 : t330 = true
 ·subst c3
  have H1 : ((strconv_Itoa_89.f a0_0).bind fun t331=>(if t331.size + 1 ≤ 9223372036854775807 then ((strconv_Itoa_89.f a0_1).bind fun t332=>(if (t331 ++ (⟨#[32]⟩ : ByteArray)).size + t332.size ≤ 9223372036854775807 then (some ((t331 ++ (⟨#[32]⟩ : ByteArray)) ++ t332)) else (none))) else (none))) = some r:=by rw [if_pos rfl] at H;exact H
  clear H
  have H:=H1
  clear H1
  obtain ⟨t331,A4,H⟩:=bse H
  try dsimp only at H
  by_cases c5 : t331.size + 1 ≤ 9223372036854775807
  ·rw [if_pos c5] at H
   have c5b0:=eq_true c5
   have c5b1 : decide (t331.size + 1 ≤ 9223372036854775807) = true:=decide_eq_true c5
   try have c5b2 : (9223372036854775807 < t331.size + 1) = False:=eq_false (Nat.not_lt.2 c5)
   obtain ⟨t332,A6,H⟩:=bse H
   try dsimp only at H
   by_cases c7 : (t331 ++ (⟨#[32]⟩ : ByteArray)).size + t332.size ≤ 9223372036854775807
   ·rw [if_pos c7] at H
    have c7b0:=eq_true c7
    have c7b1 : decide ((t331 ++ (⟨#[32]⟩ : ByteArray)).size + t332.size ≤ 9223372036854775807) = true:=decide_eq_true c7
    try have c7b2 : (9223372036854775807 < (t331 ++ (⟨#[32]⟩ : ByteArray)).size + t332.size) = False:=eq_false (Nat.not_lt.2 c7)
    try have c7b3 : (9223372036854775807 < t331.size + 1 + t332.size) = False:=(by have z_:=c7b2;simp only [ByteArray.size_append] at z_;exact z_)
    obtain rfl:=Option.some.inj H
    go_enter Tryz.func57,Tryz.ntmps57
    try go_wp2_with (first | ((with_reducible refine gD 1 rfl ?_);refine box_event rfl (N:=1) rfl (cs:=#[.int .i64 a0_0,.int .i64 a0_1]) (t:=34) hr_ ?_;intro gb329 hg w8 hbox hb;have BK329:=am hbox;have GW329:=gwE HB hg;have GE329:=gwE HB hg;replace HB:=hbS HB hb;clear hb hbox hg;have:=bcell BK329 0;have:=bcell BK329 1;have:=bfz BK329 0;have:=bfz BK329 1) | ((with_reducible refine gC 56 rfl ?_);refine gL (some 4) Tryz.func56 #[.agg #[.int .i64 a0_0,.int .i64 a0_1]] ?_;(with_reducible refine (impl_EndOk.calls a0_0 a0_1 true _ A2.out).mono ?_);rintro e w10 ⟨rfl,hb⟩;refine ⟨_,rfl,?_⟩;replace BK329:=bkB BK329 hb;replace HB:=hbS HB hb;(try clear hb)))
    replace BK329:=am (blk_drew BK329.out)
    replace HB:=am (below_drew1 HB.out)
    refine start_ (n:=9) (S:=fun w'=>w'.cell? ⟨gb329,0,none⟩ = some (.int .i64 a0_0) ∧ w'.cell? ⟨gb329,1,none⟩ = some (.int .i64 a0_1)) (ds:=[]) #[false,false,false,false,false,false,false,false,false] (by kernel_rfl) rfl rfl ⟨bcell BK329 0,bcell BK329 1⟩ (fun hHeld=>?_);refine with_tabW impl_EndText.tab3 impl_EndText.bits3 (fun HT_ HW_=>?_)
    generalize w10.drew = w11 at BK329 HB hHeld ⊢
    refine pu_ 0 (some 6) (bm 9 1) ?_
    refine pu_ 4 (some 10) (bm 9 17) ?_
    refine tk_ 1 (some 7) (bm 9 19) rfl (.inl ⟨rfl,m3_⟩) ?_
    refine tk_ 5 (some 11) (bm 9 51) rfl (.inl ⟨rfl,m3_⟩) ?_
    refine on_ 2 (some 8) (bm 9 55) (fun K hK=>?_)
    refine gR Tryz.func89 #[.int .i64 a0_0] ?_
    with_reducible refine (strconv_Itoa_89.calls a0_0 t331 _ A4.out (EnvT.below hE (bl HB))).mono ?_
    rintro e w12 ⟨rfl,hb⟩
    refine ⟨_,rfl,?_⟩
    replace BK329:=bkB BK329 hb
    replace HB:=hbS HB hb
    (try clear hb)
    (try clear hb2)
    (try clear hk)
    (try clear hi)
    refine hK.out _ _ ⟨bcell BK329 0,bcell BK329 1⟩ (fun hHeld=>?_)
    clear hK K
    refine nm_ ?_
    refine pu_ 3 (some 9) (bm 9 63) ?_
    refine on_ 6 (some 12) (bm 9 127) (fun K hK=>?_)
    refine gR Tryz.func89 #[.int .i64 a0_1] ?_
    with_reducible refine (strconv_Itoa_89.calls a0_1 t332 _ A6.out (EnvT.below hE (bl HB))).mono ?_
    rintro e w13 ⟨rfl,hb⟩
    refine ⟨_,rfl,?_⟩
    replace BK329:=bkB BK329 hb
    replace HB:=hbS HB hb
    (try clear hb)
    (try clear hb2)
    (try clear hk)
    (try clear hi)
    refine hK.out _ _ ⟨bcell BK329 0,bcell BK329 1⟩ (fun hHeld=>?_)
    clear hK K
    refine nm_ ?_
    refine pu_ 7 (some 13) (bm 9 255) ?_
    refine pu_ 8 (some 2) (bm 9 511) ?_
    refine done_ (done_of HT_.out (by kernel_rfl)) ?_
    try go_wp2
    go_ret
    exact ⟨fi_,m2_⟩
   ·rw [if_neg c7] at H
    exact absurd H (by simp)
  ·rw [if_neg c5] at H
   exact absurd H (by simp)
 ·replace c3:=Bool.eq_false_iff.mpr c3
  subst c3
  have H1 : (some (⟨#[]⟩ : ByteArray)) = some r:=by rw [if_neg (show ¬ (false = true) by decide)] at H;exact H
  clear H
  have H:=H1
  clear H1
  obtain rfl:=Option.some.inj H
  go_enter Tryz.func57,Tryz.ntmps57
  go_wp2_with (first | ((with_reducible refine gD 1 rfl ?_);refine box_event rfl (N:=1) rfl (cs:=#[.int .i64 a0_0,.int .i64 a0_1]) (t:=34) hr_ ?_;intro gb329 hg w14 hbox hb;have BK329:=am hbox;have GW329:=gwE HB hg;have GE329:=gwE HB hg;replace HB:=hbS HB hb;clear hb hbox hg;have:=bcell BK329 0;have:=bcell BK329 1;have:=bfz BK329 0;have:=bfz BK329 1) | ((with_reducible refine gC 56 rfl ?_);refine gL (some 4) Tryz.func56 #[.agg #[.int .i64 a0_0,.int .i64 a0_1]] ?_;(with_reducible refine (impl_EndOk.calls a0_0 a0_1 false _ A2.out).mono ?_);rintro e w16 ⟨rfl,hb⟩;refine ⟨_,rfl,?_⟩;replace BK329:=bkB BK329 hb;replace HB:=hbS HB hb;(try clear hb)))
  go_ret
  exact ⟨fi_,m2_⟩
end
theorem set_ne {W : World} {g i k : Nat} {v : Value} (hk : k ≠ g) : (W.setCell ⟨g, i, none⟩ v).heap[k]? = W.heap[k]? := Below.heap_setCell W ⟨g, i, none⟩ v k hk
theorem put2 {W : World} {g : Nat} {t : TypeId} {c0 c1 : Value} (h : W.heap[g]? = some (.cells #[c0, c1] t (0, 0))) (v0 v1 : Value) {W' : World}
    (hw : W' = (W.setCell ⟨g, 0, none⟩ v0).setCell ⟨g, 1, none⟩ v1) :
    W'.heap[g]? = some (.cells #[v0, v1] t (0, 0)) ∧ (∀ k, k ≠ g → W'.heap[k]? = W.heap[k]?) ∧ (∀ w : World, w.heap.size ≤ g → Below w.heap.size w W → Below w.heap.size w W') := by
  subst hw
  refine ⟨?_, ?_, ?_⟩
  · refine blk_put (cs := #[v0, c1]) ?_ 1 _ rfl
    exact blk_put h 0 _ rfl
  · intro k hk
    simp only [set_ne hk]
  · intro w hg hb
    exact below_set (below_set hb hg) hg
theorem cell_lt {w : World} {g : Nat} {v : Value} (h : w.cell? ⟨g, 0, none⟩ = some v) : g < w.heap.size := by
  simp only [World.cell?] at h
  cases hk : w.heap[g]? with
  | none => rw [hk] at h; simp at h
  | some o => exact (Array.getElem?_eq_some_iff.1 hk).1
theorem cut_calls (s : ByteArray) (hs : s.size < 4294967281) (w : World) (hE : Env w) :
    Calls Tryz.prog 102 #[.string s, .string (⟨#[32]⟩ : ByteArray)] w fun e w' => ∃ fl : Bool, e = .returned (.tuple #[.string (cutW s).1, .string (cutW s).2, .bool fl]) ∧ Below w.heap.size w w' := by
  obtain ⟨m, hm⟩ := hE.max
  refine (Tryz.strings_Cut s _ m w hs hm).mono ?_
  rintro e w' ⟨rfl, n, rfl⟩
  exact ⟨_, rfl, Go.below_drewN (Below.refl _ _) n⟩
theorem cutW_size (s : ByteArray) : (cutW s).1.size ≤ s.size ∧ (cutW s).2.size ≤ s.size := by
  have hl : s.data.toList.length = s.size := by rw [Array.length_toList]; rfl
  unfold cutW Lib.cut
  by_cases h : 0 ≤ Lib.index s.data.toList [32]
  · rw [if_pos h]
    simp only [ByteArray.size, List.size_toArray, List.length_take, List.length_drop]
    rw [hl]
    show _ ≤ s.size ∧ _ ≤ s.size
    omega
  · rw [if_neg h]
    show s.data.toList.toArray.size ≤ s.size ∧ ([] : List UInt8).toArray.size ≤ s.size
    rw [List.size_toArray, hl]
    exact ⟨Nat.le_refl _, Nat.zero_le _⟩
theorem EndOk_f (a p : Int) : impl_EndOk.f a p = some (endOkB a p) := by
  unfold impl_EndOk.f endOkB
  simp only [inside_f, outside_f, portOk_f, Option.bind_some]
  by_cases h3 : a = 50 <;> cases inB a 1 9 <;> cases inB a 100 109 <;> cases inB p 1 999 <;> simp [h3]
theorem EndText_f (a p : Int) : impl_EndText.f a p = some (etext a p) := by
  unfold impl_EndText.f etext
  rw [EndOk_f, Option.bind_some]
  cases hk : endOkB a p with
  | false => simp
  | true =>
    have hb := endOkB_le hk
    have h1 := numB_size (n := a) (by omega) (by omega)
    have h2 := numB_size (n := p) (by omega) (by omega)
    have h3 : ((⟨#[32]⟩ : ByteArray)).size = 1 := rfl
    unfold strconv_Itoa_89.f
    rw [if_pos rfl, if_pos ⟨by omega, by omega⟩, Option.bind_some, if_pos (by omega), if_pos ⟨by omega, by omega⟩, Option.bind_some, if_pos (by rw [ByteArray.size_append]; omega)]
    rfl
set_option maxHeartbeats 8000000 in
set_option maxRecDepth 100000 in
theorem readEnd_noA (s : ByteArray) (hs : s.size ≤ 4000000000) (ha : atoiO (cutW s).1 = none) (w : World) (hE : EnvE w) :
    Calls Tryz.prog 83 #[.string s] w fun e w' => ∃ t p, e = .returned (.tuple #[.agg #[.int .i64 0, .int .i64 0], .iface t p]) ∧ Below w.heap.size w w' := by
  obtain ⟨te, pe, he⟩ := hE.err
  have herr : ∀ w' : World, Below w.heap.size w w' → w'.cell? ⟨0, 0, none⟩ = some (.iface te pe) := fun w' b => cell_below he b
  have HLT := Aside0.mk (cell_lt he)
  clear he
  have HS := Aside0.mk hs
  have HE := Aside0.mk hE
  have HZ := Aside0.mk (cutW_size s)
  have HB := Aside0.mk (Below.refl w.heap.size w)
  have hu := Tryz.underlying34
  have HA := Aside0.mk ha
  clear ha
  clear hs hE
  go_enter Tryz.func83, Tryz.ntmps83
  go_wp2_with (first
      | ((with_reducible refine gate_dst (N := 2) rfl ?_)
         refine box_event ?hg (N := 2) ?hd (cs := #[.int .i64 0, .int .i64 0]) (t := 34) ?hr ?_
         (case hd => rfl)
         (case hg => rfl)
         (case hr => first | (go_simp; done) | (go_simp; rfl))
         intro g2 hg w1 hbox hb
         have GE2 : Aside0 (w.heap.size ≤ g2) := ⟨by rw [hg]; exact below_size (bl HB)⟩
         have BK2 := Aside0.mk hbox
         have n0_ := Aside0.mk (below_step (bl HB) hb)
         clear HB 
         have HB := n0_
         clear n0_ 
         clear hb hbox hg)
      | (go_at_call 102; refine (cut_calls _ (by have := HS.out; omega) _ (Env.below HE.out.e (bl HB))).mono ?_; rintro e w2 ⟨fl, rfl, hb⟩
         have n0_ := Aside0.mk (below_step (bl HB) hb)
         have m0_ := bkB BK2 hb
         clear HB BK2
         have HB := n0_
         have BK2 := m0_
         clear n0_ m0_
         clear hb)
      | (go_at_call 110; (with_reducible refine (atoi_no (cutW s).1 (by have := HS.out; have := HZ.out; omega) HA.out _ (Env.below HE.out.e (bl HB))).mono ?_); rintro e w3 ⟨v1, t1, p1, rfl, hb⟩
         have n0_ := Aside0.mk (below_step (bl HB) hb)
         have m0_ := bkB BK2 hb
         clear HB BK2
         have HB := n0_
         have BK2 := m0_
         clear n0_ m0_
         clear hb)
      | (go_at_call 110; (with_reducible refine (atoi_calls (cutW s).2 (by have := HS.out; have := HZ.out; omega) _ (Env.below HE.out.e (bl HB))).mono ?_); rintro e w4 ⟨v2, ev2, rfl, hev, hb⟩
         have n0_ := Aside0.mk (below_step (bl HB) hb)
         have m0_ := bkB BK2 hb
         clear HB BK2
         have HB := n0_
         have BK2 := m0_
         clear n0_ m0_
         clear hb hev)
      | ((with_reducible refine gate_dst (N := 11) rfl ?_)
         refine box_event ?hg (N := 11) ?hd (cs := #[.int .i64 0, .int .i64 0]) (t := 34) ?hr ?_
         (case hd => rfl)
         (case hg => rfl)
         (case hr => first | (go_simp; done) | (go_simp; rfl))
         intro g11 hg w5 hbox hb
         have GE11 : Aside0 (w.heap.size ≤ g11) := ⟨by rw [hg]; exact below_size (bl HB)⟩
         have NE : Aside0 (g2 ≠ g11) := ⟨by rw [hg]; have := bkL BK2; omega⟩
         have BK11 := Aside0.mk hbox
         have zc0 := (blk_cell BK11.out 0).trans rfl
         have zf0 := blk_frozen BK11.out 0
         have zc1 := (blk_cell BK11.out 1).trans rfl
         have zf1 := blk_frozen BK11.out 1
         have n0_ := Aside0.mk (below_step (bl HB) hb)
         have m0_ := bkB BK2 hb
         clear HB BK2
         have HB := n0_
         have BK2 := m0_
         clear n0_ m0_
         clear hb hbox hg))
  have hp := put2 BK11.out (.int .i64 v1) (.int .i64 v2) rfl
  have kb := Aside0.mk (hp.2.2 w GE11.out HB.out)
  have k2 := (hp.2.1 _ NE.out).trans BK2.out
  have he2 := herr _ kb.out
  clear herr
  generalize (w5.setCell ⟨g11, 0, none⟩ (.int .i64 v1)).setCell ⟨g11, 1, none⟩ (.int .i64 v2) = X at kb k2 he2 ⊢
  have KB := Aside0.mk (blk_drew k2)
  have hne : g2 ≠ 0 := by have := GE2.out; have := HLT.out; omega
  have hne' := hne.symm
  have xc0 := (blk_cell k2 0).trans rfl
  have xc1 := (blk_cell k2 1).trans rfl
  have xf0 := blk_frozen k2 0
  have xf1 := blk_frozen k2 1
  clear k2
  go_region
  all_goals go_wp2
  all_goals
    have hq := put2 KB.out (.int .i64 0) (.int .i64 0) rfl
    refine bodyPost_ret (results_ct rfl _ _ g2 34 #[.int .i64 0, .int .i64 0] (0, 0) _ rfl hq.1 Tryz.underlying34 rfl (by kernel_rfl)) rfl ?_
    exact ⟨_, _, rfl, hq.2.2 w GE2.out (below_drew1 kb.out)⟩
set_option maxHeartbeats 8000000 in
set_option maxRecDepth 100000 in
theorem readEnd_noB (s : ByteArray) (hs : s.size ≤ 4000000000) (x : Int) (ha : atoiO (cutW s).1 = some x) (ha2 : atoiO (cutW s).2 = none) (w : World) (hE : EnvE w) :
    Calls Tryz.prog 83 #[.string s] w fun e w' => ∃ t p, e = .returned (.tuple #[.agg #[.int .i64 0, .int .i64 0], .iface t p]) ∧ Below w.heap.size w w' := by
  obtain ⟨te, pe, he⟩ := hE.err
  have herr : ∀ w' : World, Below w.heap.size w w' → w'.cell? ⟨0, 0, none⟩ = some (.iface te pe) := fun w' b => cell_below he b
  have HLT := Aside0.mk (cell_lt he)
  clear he
  have HS := Aside0.mk hs
  have HE := Aside0.mk hE
  have HZ := Aside0.mk (cutW_size s)
  have HB := Aside0.mk (Below.refl w.heap.size w)
  have hu := Tryz.underlying34
  have HA := Aside0.mk ha
  have HA2 := Aside0.mk ha2
  clear ha ha2
  clear hs hE
  go_enter Tryz.func83, Tryz.ntmps83
  go_wp2_with (first
      | ((with_reducible refine gate_dst (N := 2) rfl ?_)
         refine box_event ?hg (N := 2) ?hd (cs := #[.int .i64 0, .int .i64 0]) (t := 34) ?hr ?_
         (case hd => rfl)
         (case hg => rfl)
         (case hr => first | (go_simp; done) | (go_simp; rfl))
         intro g2 hg w1 hbox hb
         have GE2 : Aside0 (w.heap.size ≤ g2) := ⟨by rw [hg]; exact below_size (bl HB)⟩
         have BK2 := Aside0.mk hbox
         have n0_ := Aside0.mk (below_step (bl HB) hb)
         clear HB 
         have HB := n0_
         clear n0_ 
         clear hb hbox hg)
      | (go_at_call 102; refine (cut_calls _ (by have := HS.out; omega) _ (Env.below HE.out.e (bl HB))).mono ?_; rintro e w2 ⟨fl, rfl, hb⟩
         have n0_ := Aside0.mk (below_step (bl HB) hb)
         have m0_ := bkB BK2 hb
         clear HB BK2
         have HB := n0_
         have BK2 := m0_
         clear n0_ m0_
         clear hb)
      | (go_at_call 110; (with_reducible refine (atoi_ok (cutW s).1 (by have := HS.out; have := HZ.out; omega) x HA.out _ (Env.below HE.out.e (bl HB))).mono ?_); rintro e w3 ⟨rfl, hb⟩
         have n0_ := Aside0.mk (below_step (bl HB) hb)
         have m0_ := bkB BK2 hb
         clear HB BK2
         have HB := n0_
         have BK2 := m0_
         clear n0_ m0_
         clear hb)
      | (go_at_call 110; (with_reducible refine (atoi_no (cutW s).2 (by have := HS.out; have := HZ.out; omega) HA2.out _ (Env.below HE.out.e (bl HB))).mono ?_); rintro e w4 ⟨v2, t2, p2, rfl, hb⟩
         have n0_ := Aside0.mk (below_step (bl HB) hb)
         have m0_ := bkB BK2 hb
         clear HB BK2
         have HB := n0_
         have BK2 := m0_
         clear n0_ m0_
         clear hb)
      | ((with_reducible refine gate_dst (N := 11) rfl ?_)
         refine box_event ?hg (N := 11) ?hd (cs := #[.int .i64 0, .int .i64 0]) (t := 34) ?hr ?_
         (case hd => rfl)
         (case hg => rfl)
         (case hr => first | (go_simp; done) | (go_simp; rfl))
         intro g11 hg w5 hbox hb
         have GE11 : Aside0 (w.heap.size ≤ g11) := ⟨by rw [hg]; exact below_size (bl HB)⟩
         have NE : Aside0 (g2 ≠ g11) := ⟨by rw [hg]; have := bkL BK2; omega⟩
         have BK11 := Aside0.mk hbox
         have zc0 := (blk_cell BK11.out 0).trans rfl
         have zf0 := blk_frozen BK11.out 0
         have zc1 := (blk_cell BK11.out 1).trans rfl
         have zf1 := blk_frozen BK11.out 1
         have n0_ := Aside0.mk (below_step (bl HB) hb)
         have m0_ := bkB BK2 hb
         clear HB BK2
         have HB := n0_
         have BK2 := m0_
         clear n0_ m0_
         clear hb hbox hg))
  have hp := put2 BK11.out (.int .i64 x) (.int .i64 v2) rfl
  have kb := Aside0.mk (hp.2.2 w GE11.out HB.out)
  have k2 := (hp.2.1 _ NE.out).trans BK2.out
  have he2 := herr _ kb.out
  clear herr
  generalize (w5.setCell ⟨g11, 0, none⟩ (.int .i64 x)).setCell ⟨g11, 1, none⟩ (.int .i64 v2) = X at kb k2 he2 ⊢
  have KB := Aside0.mk (blk_drew k2)
  have hne : g2 ≠ 0 := by have := GE2.out; have := HLT.out; omega
  have hne' := hne.symm
  have xc0 := (blk_cell k2 0).trans rfl
  have xc1 := (blk_cell k2 1).trans rfl
  have xf0 := blk_frozen k2 0
  have xf1 := blk_frozen k2 1
  clear k2
  go_region
  all_goals go_wp2
  all_goals
    have hq := put2 KB.out (.int .i64 0) (.int .i64 0) rfl
    refine bodyPost_ret (results_ct rfl _ _ g2 34 #[.int .i64 0, .int .i64 0] (0, 0) _ rfl hq.1 Tryz.underlying34 rfl (by kernel_rfl)) rfl ?_
    exact ⟨_, _, rfl, hq.2.2 w GE2.out (below_drew1 kb.out)⟩
set_option maxHeartbeats 8000000 in
set_option maxRecDepth 100000 in
theorem readEnd_noC (s : ByteArray) (hs : s.size ≤ 4000000000) (x y : Int) (ha : atoiO (cutW s).1 = some x) (ha2 : atoiO (cutW s).2 = some y) (hq : etext x y ≠ s) (w : World) (hE : EnvE w) :
    Calls Tryz.prog 83 #[.string s] w fun e w' => ∃ t p, e = .returned (.tuple #[.agg #[.int .i64 0, .int .i64 0], .iface t p]) ∧ Below w.heap.size w w' := by
  obtain ⟨te, pe, he⟩ := hE.err
  have herr : ∀ w' : World, Below w.heap.size w w' → w'.cell? ⟨0, 0, none⟩ = some (.iface te pe) := fun w' b => cell_below he b
  have HLT := Aside0.mk (cell_lt he)
  clear he
  have HS := Aside0.mk hs
  have HE := Aside0.mk hE
  have HZ := Aside0.mk (cutW_size s)
  have HB := Aside0.mk (Below.refl w.heap.size w)
  have hu := Tryz.underlying34
  have HA := Aside0.mk ha
  have HA2 := Aside0.mk ha2
  obtain ⟨T, hT⟩ : ∃ T, etext x y = T := ⟨_, rfl⟩
  have HT := Aside0.mk (show impl_EndText.f x y = some T from hT ▸ EndText_f x y)
  rw [hT] at hq
  clear hT ha ha2
  have hq1 : (T.toList == s.toList) = false := beq_eq_false_iff_ne.mpr (fun e => hq (toList_inj e))
  have hq2 : (T.toList != s.toList) = true := by rw [bne, hq1]; rfl
  clear hq
  clear hs hE
  go_enter Tryz.func83, Tryz.ntmps83
  go_wp2_with (first
      | ((with_reducible refine gate_dst (N := 2) rfl ?_)
         refine box_event ?hg (N := 2) ?hd (cs := #[.int .i64 0, .int .i64 0]) (t := 34) ?hr ?_
         (case hd => rfl)
         (case hg => rfl)
         (case hr => first | (go_simp; done) | (go_simp; rfl))
         intro g2 hg w1 hbox hb
         have GE2 : Aside0 (w.heap.size ≤ g2) := ⟨by rw [hg]; exact below_size (bl HB)⟩
         have BK2 := Aside0.mk hbox
         have n0_ := Aside0.mk (below_step (bl HB) hb)
         clear HB 
         have HB := n0_
         clear n0_ 
         clear hb hbox hg)
      | (go_at_call 102; refine (cut_calls _ (by have := HS.out; omega) _ (Env.below HE.out.e (bl HB))).mono ?_; rintro e w2 ⟨fl, rfl, hb⟩
         have n0_ := Aside0.mk (below_step (bl HB) hb)
         have m0_ := bkB BK2 hb
         clear HB BK2
         have HB := n0_
         have BK2 := m0_
         clear n0_ m0_
         clear hb)
      | (go_at_call 110; (with_reducible refine (atoi_ok (cutW s).1 (by have := HS.out; have := HZ.out; omega) x HA.out _ (Env.below HE.out.e (bl HB))).mono ?_); rintro e w3 ⟨rfl, hb⟩
         have n0_ := Aside0.mk (below_step (bl HB) hb)
         have m0_ := bkB BK2 hb
         clear HB BK2
         have HB := n0_
         have BK2 := m0_
         clear n0_ m0_
         clear hb)
      | (go_at_call 110; (with_reducible refine (atoi_ok (cutW s).2 (by have := HS.out; have := HZ.out; omega) y HA2.out _ (Env.below HE.out.e (bl HB))).mono ?_); rintro e w4 ⟨rfl, hb⟩
         have n0_ := Aside0.mk (below_step (bl HB) hb)
         have m0_ := bkB BK2 hb
         clear HB BK2
         have HB := n0_
         have BK2 := m0_
         clear n0_ m0_
         clear hb)
      | ((with_reducible refine gate_dst (N := 11) rfl ?_)
         refine box_event ?hg (N := 11) ?hd (cs := #[.int .i64 0, .int .i64 0]) (t := 34) ?hr ?_
         (case hd => rfl)
         (case hg => rfl)
         (case hr => first | (go_simp; done) | (go_simp; rfl))
         intro g11 hg w5 hbox hb
         have GE11 : Aside0 (w.heap.size ≤ g11) := ⟨by rw [hg]; exact below_size (bl HB)⟩
         have NE : Aside0 (g2 ≠ g11) := ⟨by rw [hg]; have := bkL BK2; omega⟩
         have BK11 := Aside0.mk hbox
         have zc0 := (blk_cell BK11.out 0).trans rfl
         have zf0 := blk_frozen BK11.out 0
         have zc1 := (blk_cell BK11.out 1).trans rfl
         have zf1 := blk_frozen BK11.out 1
         have n0_ := Aside0.mk (below_step (bl HB) hb)
         have m0_ := bkB BK2 hb
         clear HB BK2
         have HB := n0_
         have BK2 := m0_
         clear n0_ m0_
         clear hb hbox hg)
      | (go_at_call 57; have hp := put2 BK11.out (.int .i64 x) (.int .i64 y) rfl; refine (impl_EndText.calls _ _ T _ HT.out (EnvT.below HE.out.e.t (hp.2.2 w GE11.out HB.out))).mono ?_; rintro e w6 ⟨rfl, hb⟩
         have n0_ := Aside0.mk (below_step (hp.2.2 w GE11.out HB.out) hb)
         have m0_ := Aside0.mk (blk_below ((hp.2.1 _ NE.out).trans BK2.out) hb)
         have m1_ := Aside0.mk (blk_below hp.1 hb)
         clear HB BK2 BK11 hp hb zc0 zf0 zc1 zf1
         have HB := n0_
         have BK2 := m0_
         have BK11 := m1_
         clear n0_ m0_ m1_))
  have kb := HB
  have k2 := BK2.out
  have he2 := herr _ kb.out
  clear herr
  generalize w6 = X at kb k2 he2 ⊢
  have KB := Aside0.mk (blk_drew k2)
  have hne : g2 ≠ 0 := by have := GE2.out; have := HLT.out; omega
  have hne' := hne.symm
  have xc0 := (blk_cell k2 0).trans rfl
  have xc1 := (blk_cell k2 1).trans rfl
  have xf0 := blk_frozen k2 0
  have xf1 := blk_frozen k2 1
  clear k2
  go_region
  all_goals go_wp2
  all_goals
    have hq := put2 KB.out (.int .i64 0) (.int .i64 0) rfl
    refine bodyPost_ret (results_ct rfl _ _ g2 34 #[.int .i64 0, .int .i64 0] (0, 0) _ rfl hq.1 Tryz.underlying34 rfl (by kernel_rfl)) rfl ?_
    exact ⟨_, _, rfl, hq.2.2 w GE2.out (below_drew1 kb.out)⟩
set_option maxHeartbeats 8000000 in
set_option maxRecDepth 100000 in
theorem readEnd_ok (s : ByteArray) (hs : s.size ≤ 4000000000) (x y : Int) (ha : atoiO (cutW s).1 = some x) (ha2 : atoiO (cutW s).2 = some y) (hq : etext x y = s) (w : World) (hE : EnvE w) :
    Calls Tryz.prog 83 #[.string s] w fun e w' => e = .returned (.tuple #[.agg #[.int .i64 x, .int .i64 y], .nilIface]) ∧ Below w.heap.size w w' := by
  obtain ⟨te, pe, he⟩ := hE.err
  have herr : ∀ w' : World, Below w.heap.size w w' → w'.cell? ⟨0, 0, none⟩ = some (.iface te pe) := fun w' b => cell_below he b
  have HLT := Aside0.mk (cell_lt he)
  clear he
  have HS := Aside0.mk hs
  have HE := Aside0.mk hE
  have HZ := Aside0.mk (cutW_size s)
  have HB := Aside0.mk (Below.refl w.heap.size w)
  have hu := Tryz.underlying34
  have HA := Aside0.mk ha
  have HA2 := Aside0.mk ha2
  obtain ⟨T, hT⟩ : ∃ T, etext x y = T := ⟨_, rfl⟩
  have HT := Aside0.mk (show impl_EndText.f x y = some T from hT ▸ EndText_f x y)
  rw [hT] at hq
  clear hT ha ha2
  have hq1 : (T.toList == s.toList) = true := by rw [hq]; exact beq_self_eq_true _
  have hq2 : (T.toList != s.toList) = false := by rw [bne, hq1]; rfl
  clear hq
  clear hs hE
  go_enter Tryz.func83, Tryz.ntmps83
  go_wp2_with (first
      | ((with_reducible refine gate_dst (N := 2) rfl ?_)
         refine box_event ?hg (N := 2) ?hd (cs := #[.int .i64 0, .int .i64 0]) (t := 34) ?hr ?_
         (case hd => rfl)
         (case hg => rfl)
         (case hr => first | (go_simp; done) | (go_simp; rfl))
         intro g2 hg w1 hbox hb
         have GE2 : Aside0 (w.heap.size ≤ g2) := ⟨by rw [hg]; exact below_size (bl HB)⟩
         have BK2 := Aside0.mk hbox
         have n0_ := Aside0.mk (below_step (bl HB) hb)
         clear HB 
         have HB := n0_
         clear n0_ 
         clear hb hbox hg)
      | (go_at_call 102; refine (cut_calls _ (by have := HS.out; omega) _ (Env.below HE.out.e (bl HB))).mono ?_; rintro e w2 ⟨fl, rfl, hb⟩
         have n0_ := Aside0.mk (below_step (bl HB) hb)
         have m0_ := bkB BK2 hb
         clear HB BK2
         have HB := n0_
         have BK2 := m0_
         clear n0_ m0_
         clear hb)
      | (go_at_call 110; (with_reducible refine (atoi_ok (cutW s).1 (by have := HS.out; have := HZ.out; omega) x HA.out _ (Env.below HE.out.e (bl HB))).mono ?_); rintro e w3 ⟨rfl, hb⟩
         have n0_ := Aside0.mk (below_step (bl HB) hb)
         have m0_ := bkB BK2 hb
         clear HB BK2
         have HB := n0_
         have BK2 := m0_
         clear n0_ m0_
         clear hb)
      | (go_at_call 110; (with_reducible refine (atoi_ok (cutW s).2 (by have := HS.out; have := HZ.out; omega) y HA2.out _ (Env.below HE.out.e (bl HB))).mono ?_); rintro e w4 ⟨rfl, hb⟩
         have n0_ := Aside0.mk (below_step (bl HB) hb)
         have m0_ := bkB BK2 hb
         clear HB BK2
         have HB := n0_
         have BK2 := m0_
         clear n0_ m0_
         clear hb)
      | ((with_reducible refine gate_dst (N := 11) rfl ?_)
         refine box_event ?hg (N := 11) ?hd (cs := #[.int .i64 0, .int .i64 0]) (t := 34) ?hr ?_
         (case hd => rfl)
         (case hg => rfl)
         (case hr => first | (go_simp; done) | (go_simp; rfl))
         intro g11 hg w5 hbox hb
         have GE11 : Aside0 (w.heap.size ≤ g11) := ⟨by rw [hg]; exact below_size (bl HB)⟩
         have NE : Aside0 (g2 ≠ g11) := ⟨by rw [hg]; have := bkL BK2; omega⟩
         have BK11 := Aside0.mk hbox
         have zc0 := (blk_cell BK11.out 0).trans rfl
         have zf0 := blk_frozen BK11.out 0
         have zc1 := (blk_cell BK11.out 1).trans rfl
         have zf1 := blk_frozen BK11.out 1
         have n0_ := Aside0.mk (below_step (bl HB) hb)
         have m0_ := bkB BK2 hb
         clear HB BK2
         have HB := n0_
         have BK2 := m0_
         clear n0_ m0_
         clear hb hbox hg)
      | (go_at_call 57; have hp := put2 BK11.out (.int .i64 x) (.int .i64 y) rfl; refine (impl_EndText.calls _ _ T _ HT.out (EnvT.below HE.out.e.t (hp.2.2 w GE11.out HB.out))).mono ?_; rintro e w6 ⟨rfl, hb⟩
         have n0_ := Aside0.mk (below_step (hp.2.2 w GE11.out HB.out) hb)
         have m0_ := Aside0.mk (blk_below ((hp.2.1 _ NE.out).trans BK2.out) hb)
         have m1_ := Aside0.mk (blk_below hp.1 hb)
         clear HB BK2 BK11 hp hb zc0 zf0 zc1 zf1
         have HB := n0_
         have BK2 := m0_
         have BK11 := m1_
         clear n0_ m0_ m1_
         have xc0 := (blk_cell BK2.out 0).trans rfl
         have xf0 := blk_frozen BK2.out 0
         have xc1 := (blk_cell BK2.out 1).trans rfl
         have xf1 := blk_frozen BK2.out 1
         have yc0 := (blk_cell BK11.out 0).trans rfl
         have yf0 := blk_frozen BK11.out 0
         have yc1 := (blk_cell BK11.out 1).trans rfl
         have yf1 := blk_frozen BK11.out 1))
  have hq := put2 BK2.out (.int .i64 x) (.int .i64 y) rfl
  refine bodyPost_ret (results_ct rfl _ _ g2 34 #[.int .i64 x, .int .i64 y] (0, 0) _ rfl hq.1 Tryz.underlying34 rfl (by kernel_rfl)) rfl ?_
  exact ⟨rfl, hq.2.2 w GE2.out HB.out⟩
theorem readEnd_some (s : ByteArray) (hs : s.size ≤ 4000000000) (x y : Int) (h : readEndW s = some (x, y)) (w : World) (hE : EnvE w) :
    Calls Tryz.prog 83 #[.string s] w fun e w' => e = .returned (.tuple #[.agg #[.int .i64 x, .int .i64 y], .nilIface]) ∧ Below w.heap.size w w' := by
  unfold readEndW at h
  simp only [Option.bind_eq_some_iff] at h
  obtain ⟨x', h1, y', h2, h3⟩ := h
  by_cases ht : etext x' y' = s
  · rw [if_pos ht] at h3
    cases h3
    exact readEnd_ok s hs x y h1 h2 ht w hE
  · rw [if_neg ht] at h3; cases h3
theorem readEnd_none (s : ByteArray) (hs : s.size ≤ 4000000000) (h : readEndW s = none) (w : World) (hE : EnvE w) :
    Calls Tryz.prog 83 #[.string s] w fun e w' => ∃ t p, e = .returned (.tuple #[.agg #[.int .i64 0, .int .i64 0], .iface t p]) ∧ Below w.heap.size w w' := by
  cases h1 : atoiO (cutW s).1 with
  | none => exact readEnd_noA s hs h1 w hE
  | some x =>
    cases h2 : atoiO (cutW s).2 with
    | none => exact readEnd_noB s hs x h1 h2 w hE
    | some y =>
      refine readEnd_noC s hs x y h1 h2 (fun e => ?_) w hE
      unfold readEndW at h
      rw [h1, h2] at h
      simp only [Option.bind_some] at h
      rw [if_pos e] at h
      cases h
theorem trim_size (s : ByteArray) : (trimW s).size ≤ s.size := by
  have hl : s.data.toList.length = s.size := by rw [Array.length_toList]; rfl
  unfold trimW Lib.trimPrefix
  show (List.toArray _).size ≤ s.size
  rw [List.size_toArray]
  split
  · rw [List.length_drop]; omega
  · omega
theorem prefix_calls (s : ByteArray) (w : World) :
    Calls Tryz.prog 82 #[.string s, .string (⟨#[112, 111, 114, 116, 32]⟩ : ByteArray)] w fun e w' => e = .returned (.tuple #[.string (trimW s), .bool (Lib.hasPrefix s.data.toList portL)]) ∧ w' = w := Tryz.strings_CutPrefix s _ w
def impl_said.f (s : ByteArray) : Option (Int × Int × Bool) := if s.size ≤ 4000000000 then some (saidW s) else none
set_option maxHeartbeats 8000000 in
set_option maxRecDepth 100000 in
theorem said_some_true (s : ByteArray) (hs : s.size ≤ 4000000000) (x y : Int) (ha : readEndW (trimW s) = some (x, y)) (hp0 : Lib.hasPrefix s.data.toList portL = true) (w : World) (hE : EnvE w) :
    Calls Tryz.prog 51 #[.string s] w fun e w' => e = .returned (.tuple #[.agg #[.int .i64 x, .int .i64 y], .bool true]) ∧ Below w.heap.size w w' := by
  have HS := Aside0.mk hs
  have HE := Aside0.mk hE
  have HA := Aside0.mk ha
  have HZ := Aside0.mk (trim_size s)
  have HP := Aside0.mk hp0
  have HB := Aside0.mk (Below.refl w.heap.size w)
  have hu := Tryz.underlying34
  clear hs hE ha hp0
  go_enter Tryz.func51, Tryz.ntmps51
  go_wp2_with (first
      | ((with_reducible refine gate_dst (N := 2) rfl ?_)
         refine box_event ?hg (N := 2) ?hd (cs := #[.int .i64 0, .int .i64 0]) (t := 34) ?hr ?_
         (case hd => rfl)
         (case hg => rfl)
         (case hr => first | (go_simp; done) | (go_simp; rfl))
         intro g2 hg w1 hbox hb
         have GE2 : Aside0 (w.heap.size ≤ g2) := ⟨by rw [hg]; exact below_size (bl HB)⟩
         have BK2 := Aside0.mk hbox
         have n0_ := Aside0.mk (below_step (bl HB) hb)
         clear HB 
         have HB := n0_
         clear n0_ 
         clear hb hbox hg)
      | (go_at_call 82; refine (prefix_calls s _).mono ?_; rw [HP.out]; rintro e w2 ⟨rfl, rfl⟩)
      | (go_at_call 83; refine (readEnd_some (trimW s) (by have := HS.out; have := HZ.out; omega) x y HA.out _ (EnvE.below HE.out (bl HB))).mono ?_; rintro e w4 ⟨rfl, hb⟩
         have n0_ := Aside0.mk (below_step (bl HB) hb)
         have m0_ := bkB BK2 hb
         clear HB BK2
         have HB := n0_
         have BK2 := m0_
         clear n0_ m0_
         clear hb)
      | ((with_reducible refine gate_dst (N := 6) rfl ?_)
         refine box_event ?hg (N := 6) ?hd (cs := #[.int .i64 0, .int .i64 0]) (t := 34) ?hr ?_
         (case hd => rfl)
         (case hg => rfl)
         (case hr => first | (go_simp; done) | (go_simp; rfl))
         intro g6 hg w5 hbox hb
         have GE6 : Aside0 (w.heap.size ≤ g6) := ⟨by rw [hg]; exact below_size (bl HB)⟩
         have NE : Aside0 (g2 ≠ g6) := ⟨by rw [hg]; have := bkL BK2; omega⟩
         have BK6 := Aside0.mk hbox
         have zc0 := (blk_cell BK6.out 0).trans rfl
         have zf0 := blk_frozen BK6.out 0
         have zc1 := (blk_cell BK6.out 1).trans rfl
         have zf1 := blk_frozen BK6.out 1
         have n0_ := Aside0.mk (below_step (bl HB) hb)
         have m0_ := bkB BK2 hb
         clear HB BK2
         have HB := n0_
         have BK2 := m0_
         clear n0_ m0_
         clear hb hbox hg))
  have hp := put2 BK6.out (.int .i64 x) (.int .i64 y) rfl
  have kb := Aside0.mk (hp.2.2 w GE6.out HB.out)
  have k2 := (hp.2.1 _ NE.out).trans BK2.out
  have k6 := hp.1
  generalize (w5.setCell ⟨g6, 0, none⟩ (.int .i64 x)).setCell ⟨g6, 1, none⟩ (.int .i64 y) = X at kb k2 k6 ⊢
  clear hp zc0 zc1 zf0 zf1
  have KB := Aside0.mk (blk_drew k2)
  have hne := NE.out
  have hne' := NE.out.symm
  have xc0 := (blk_cell k2 0).trans rfl
  have xc1 := (blk_cell k2 1).trans rfl
  have xf0 := blk_frozen k2 0
  have xf1 := blk_frozen k2 1
  have yc0 := (blk_cell k6 0).trans rfl
  have yc1 := (blk_cell k6 1).trans rfl
  clear k2 k6
  go_region
  all_goals go_wp2
  all_goals
    have hq := put2 KB.out (.int .i64 x) (.int .i64 y) rfl
    refine bodyPost_ret (results_ct rfl _ _ g2 34 #[.int .i64 x, .int .i64 y] (0, 0) _ rfl hq.1 Tryz.underlying34 rfl (by kernel_rfl)) rfl ?_
    exact ⟨rfl, hq.2.2 w GE2.out (below_drew1 kb.out)⟩
set_option maxHeartbeats 8000000 in
set_option maxRecDepth 100000 in
theorem said_none_true (s : ByteArray) (hs : s.size ≤ 4000000000) (ha : readEndW (trimW s) = none) (hp0 : Lib.hasPrefix s.data.toList portL = true) (w : World) (hE : EnvE w) :
    Calls Tryz.prog 51 #[.string s] w fun e w' => e = .returned (.tuple #[.agg #[.int .i64 0, .int .i64 0], .bool false]) ∧ Below w.heap.size w w' := by
  have HS := Aside0.mk hs
  have HE := Aside0.mk hE
  have HA := Aside0.mk ha
  have HZ := Aside0.mk (trim_size s)
  have HP := Aside0.mk hp0
  have HB := Aside0.mk (Below.refl w.heap.size w)
  have hu := Tryz.underlying34
  clear hs hE ha hp0
  go_enter Tryz.func51, Tryz.ntmps51
  go_wp2_with (first
      | ((with_reducible refine gate_dst (N := 2) rfl ?_)
         refine box_event ?hg (N := 2) ?hd (cs := #[.int .i64 0, .int .i64 0]) (t := 34) ?hr ?_
         (case hd => rfl)
         (case hg => rfl)
         (case hr => first | (go_simp; done) | (go_simp; rfl))
         intro g2 hg w1 hbox hb
         have GE2 : Aside0 (w.heap.size ≤ g2) := ⟨by rw [hg]; exact below_size (bl HB)⟩
         have BK2 := Aside0.mk hbox
         have n0_ := Aside0.mk (below_step (bl HB) hb)
         clear HB 
         have HB := n0_
         clear n0_ 
         clear hb hbox hg)
      | (go_at_call 82; refine (prefix_calls s _).mono ?_; rw [HP.out]; rintro e w2 ⟨rfl, rfl⟩)
      | (go_at_call 83; refine (readEnd_none (trimW s) (by have := HS.out; have := HZ.out; omega) HA.out _ (EnvE.below HE.out (bl HB))).mono ?_; rintro e w4 ⟨t1, p1, rfl, hb⟩
         have n0_ := Aside0.mk (below_step (bl HB) hb)
         have m0_ := bkB BK2 hb
         clear HB BK2
         have HB := n0_
         have BK2 := m0_
         clear n0_ m0_
         clear hb)
      | ((with_reducible refine gate_dst (N := 6) rfl ?_)
         refine box_event ?hg (N := 6) ?hd (cs := #[.int .i64 0, .int .i64 0]) (t := 34) ?hr ?_
         (case hd => rfl)
         (case hg => rfl)
         (case hr => first | (go_simp; done) | (go_simp; rfl))
         intro g6 hg w5 hbox hb
         have GE6 : Aside0 (w.heap.size ≤ g6) := ⟨by rw [hg]; exact below_size (bl HB)⟩
         have NE : Aside0 (g2 ≠ g6) := ⟨by rw [hg]; have := bkL BK2; omega⟩
         have BK6 := Aside0.mk hbox
         have zc0 := (blk_cell BK6.out 0).trans rfl
         have zf0 := blk_frozen BK6.out 0
         have zc1 := (blk_cell BK6.out 1).trans rfl
         have zf1 := blk_frozen BK6.out 1
         have n0_ := Aside0.mk (below_step (bl HB) hb)
         have m0_ := bkB BK2 hb
         clear HB BK2
         have HB := n0_
         have BK2 := m0_
         clear n0_ m0_
         clear hb hbox hg))
  have hp := put2 BK6.out (.int .i64 0) (.int .i64 0) rfl
  have kb := Aside0.mk (hp.2.2 w GE6.out HB.out)
  have k2 := (hp.2.1 _ NE.out).trans BK2.out
  have k6 := hp.1
  generalize (w5.setCell ⟨g6, 0, none⟩ (.int .i64 0)).setCell ⟨g6, 1, none⟩ (.int .i64 0) = X at kb k2 k6 ⊢
  clear hp zc0 zc1 zf0 zf1
  have KB := Aside0.mk (blk_drew k2)
  have hne := NE.out
  have hne' := NE.out.symm
  have xc0 := (blk_cell k2 0).trans rfl
  have xc1 := (blk_cell k2 1).trans rfl
  have xf0 := blk_frozen k2 0
  have xf1 := blk_frozen k2 1
  have yc0 := (blk_cell k6 0).trans rfl
  have yc1 := (blk_cell k6 1).trans rfl
  clear k2 k6
  go_region
  all_goals go_wp2
  all_goals
    have hq := put2 KB.out (.int .i64 0) (.int .i64 0) rfl
    refine bodyPost_ret (results_ct rfl _ _ g2 34 #[.int .i64 0, .int .i64 0] (0, 0) _ rfl hq.1 Tryz.underlying34 rfl (by kernel_rfl)) rfl ?_
    exact ⟨rfl, hq.2.2 w GE2.out (below_drew1 kb.out)⟩
set_option maxHeartbeats 8000000 in
set_option maxRecDepth 100000 in
theorem said_some_false (s : ByteArray) (hs : s.size ≤ 4000000000) (x y : Int) (ha : readEndW (trimW s) = some (x, y)) (hp0 : Lib.hasPrefix s.data.toList portL = false) (w : World) (hE : EnvE w) :
    Calls Tryz.prog 51 #[.string s] w fun e w' => e = .returned (.tuple #[.agg #[.int .i64 x, .int .i64 y], .bool false]) ∧ Below w.heap.size w w' := by
  have HS := Aside0.mk hs
  have HE := Aside0.mk hE
  have HA := Aside0.mk ha
  have HZ := Aside0.mk (trim_size s)
  have HP := Aside0.mk hp0
  have HB := Aside0.mk (Below.refl w.heap.size w)
  have hu := Tryz.underlying34
  clear hs hE ha hp0
  go_enter Tryz.func51, Tryz.ntmps51
  go_wp2_with (first
      | ((with_reducible refine gate_dst (N := 2) rfl ?_)
         refine box_event ?hg (N := 2) ?hd (cs := #[.int .i64 0, .int .i64 0]) (t := 34) ?hr ?_
         (case hd => rfl)
         (case hg => rfl)
         (case hr => first | (go_simp; done) | (go_simp; rfl))
         intro g2 hg w1 hbox hb
         have GE2 : Aside0 (w.heap.size ≤ g2) := ⟨by rw [hg]; exact below_size (bl HB)⟩
         have BK2 := Aside0.mk hbox
         have n0_ := Aside0.mk (below_step (bl HB) hb)
         clear HB 
         have HB := n0_
         clear n0_ 
         clear hb hbox hg)
      | (go_at_call 82; refine (prefix_calls s _).mono ?_; rw [HP.out]; rintro e w2 ⟨rfl, rfl⟩)
      | (go_at_call 83; refine (readEnd_some (trimW s) (by have := HS.out; have := HZ.out; omega) x y HA.out _ (EnvE.below HE.out (bl HB))).mono ?_; rintro e w4 ⟨rfl, hb⟩
         have n0_ := Aside0.mk (below_step (bl HB) hb)
         have m0_ := bkB BK2 hb
         clear HB BK2
         have HB := n0_
         have BK2 := m0_
         clear n0_ m0_
         clear hb)
      | ((with_reducible refine gate_dst (N := 6) rfl ?_)
         refine box_event ?hg (N := 6) ?hd (cs := #[.int .i64 0, .int .i64 0]) (t := 34) ?hr ?_
         (case hd => rfl)
         (case hg => rfl)
         (case hr => first | (go_simp; done) | (go_simp; rfl))
         intro g6 hg w5 hbox hb
         have GE6 : Aside0 (w.heap.size ≤ g6) := ⟨by rw [hg]; exact below_size (bl HB)⟩
         have NE : Aside0 (g2 ≠ g6) := ⟨by rw [hg]; have := bkL BK2; omega⟩
         have BK6 := Aside0.mk hbox
         have zc0 := (blk_cell BK6.out 0).trans rfl
         have zf0 := blk_frozen BK6.out 0
         have zc1 := (blk_cell BK6.out 1).trans rfl
         have zf1 := blk_frozen BK6.out 1
         have n0_ := Aside0.mk (below_step (bl HB) hb)
         have m0_ := bkB BK2 hb
         clear HB BK2
         have HB := n0_
         have BK2 := m0_
         clear n0_ m0_
         clear hb hbox hg))
  have hp := put2 BK6.out (.int .i64 x) (.int .i64 y) rfl
  have kb := Aside0.mk (hp.2.2 w GE6.out HB.out)
  have k2 := (hp.2.1 _ NE.out).trans BK2.out
  have k6 := hp.1
  generalize (w5.setCell ⟨g6, 0, none⟩ (.int .i64 x)).setCell ⟨g6, 1, none⟩ (.int .i64 y) = X at kb k2 k6 ⊢
  clear hp zc0 zc1 zf0 zf1
  have KB := Aside0.mk (blk_drew k2)
  have hne := NE.out
  have hne' := NE.out.symm
  have xc0 := (blk_cell k2 0).trans rfl
  have xc1 := (blk_cell k2 1).trans rfl
  have xf0 := blk_frozen k2 0
  have xf1 := blk_frozen k2 1
  have yc0 := (blk_cell k6 0).trans rfl
  have yc1 := (blk_cell k6 1).trans rfl
  clear k2 k6
  go_region
  all_goals go_wp2
  all_goals
    have hq := put2 KB.out (.int .i64 x) (.int .i64 y) rfl
    refine bodyPost_ret (results_ct rfl _ _ g2 34 #[.int .i64 x, .int .i64 y] (0, 0) _ rfl hq.1 Tryz.underlying34 rfl (by kernel_rfl)) rfl ?_
    exact ⟨rfl, hq.2.2 w GE2.out (below_drew1 kb.out)⟩
set_option maxHeartbeats 8000000 in
set_option maxRecDepth 100000 in
theorem said_none_false (s : ByteArray) (hs : s.size ≤ 4000000000) (ha : readEndW (trimW s) = none) (hp0 : Lib.hasPrefix s.data.toList portL = false) (w : World) (hE : EnvE w) :
    Calls Tryz.prog 51 #[.string s] w fun e w' => e = .returned (.tuple #[.agg #[.int .i64 0, .int .i64 0], .bool false]) ∧ Below w.heap.size w w' := by
  have HS := Aside0.mk hs
  have HE := Aside0.mk hE
  have HA := Aside0.mk ha
  have HZ := Aside0.mk (trim_size s)
  have HP := Aside0.mk hp0
  have HB := Aside0.mk (Below.refl w.heap.size w)
  have hu := Tryz.underlying34
  clear hs hE ha hp0
  go_enter Tryz.func51, Tryz.ntmps51
  go_wp2_with (first
      | ((with_reducible refine gate_dst (N := 2) rfl ?_)
         refine box_event ?hg (N := 2) ?hd (cs := #[.int .i64 0, .int .i64 0]) (t := 34) ?hr ?_
         (case hd => rfl)
         (case hg => rfl)
         (case hr => first | (go_simp; done) | (go_simp; rfl))
         intro g2 hg w1 hbox hb
         have GE2 : Aside0 (w.heap.size ≤ g2) := ⟨by rw [hg]; exact below_size (bl HB)⟩
         have BK2 := Aside0.mk hbox
         have n0_ := Aside0.mk (below_step (bl HB) hb)
         clear HB 
         have HB := n0_
         clear n0_ 
         clear hb hbox hg)
      | (go_at_call 82; refine (prefix_calls s _).mono ?_; rw [HP.out]; rintro e w2 ⟨rfl, rfl⟩)
      | (go_at_call 83; refine (readEnd_none (trimW s) (by have := HS.out; have := HZ.out; omega) HA.out _ (EnvE.below HE.out (bl HB))).mono ?_; rintro e w4 ⟨t1, p1, rfl, hb⟩
         have n0_ := Aside0.mk (below_step (bl HB) hb)
         have m0_ := bkB BK2 hb
         clear HB BK2
         have HB := n0_
         have BK2 := m0_
         clear n0_ m0_
         clear hb)
      | ((with_reducible refine gate_dst (N := 6) rfl ?_)
         refine box_event ?hg (N := 6) ?hd (cs := #[.int .i64 0, .int .i64 0]) (t := 34) ?hr ?_
         (case hd => rfl)
         (case hg => rfl)
         (case hr => first | (go_simp; done) | (go_simp; rfl))
         intro g6 hg w5 hbox hb
         have GE6 : Aside0 (w.heap.size ≤ g6) := ⟨by rw [hg]; exact below_size (bl HB)⟩
         have NE : Aside0 (g2 ≠ g6) := ⟨by rw [hg]; have := bkL BK2; omega⟩
         have BK6 := Aside0.mk hbox
         have zc0 := (blk_cell BK6.out 0).trans rfl
         have zf0 := blk_frozen BK6.out 0
         have zc1 := (blk_cell BK6.out 1).trans rfl
         have zf1 := blk_frozen BK6.out 1
         have n0_ := Aside0.mk (below_step (bl HB) hb)
         have m0_ := bkB BK2 hb
         clear HB BK2
         have HB := n0_
         have BK2 := m0_
         clear n0_ m0_
         clear hb hbox hg))
  have hp := put2 BK6.out (.int .i64 0) (.int .i64 0) rfl
  have kb := Aside0.mk (hp.2.2 w GE6.out HB.out)
  have k2 := (hp.2.1 _ NE.out).trans BK2.out
  have k6 := hp.1
  generalize (w5.setCell ⟨g6, 0, none⟩ (.int .i64 0)).setCell ⟨g6, 1, none⟩ (.int .i64 0) = X at kb k2 k6 ⊢
  clear hp zc0 zc1 zf0 zf1
  have KB := Aside0.mk (blk_drew k2)
  have hne := NE.out
  have hne' := NE.out.symm
  have xc0 := (blk_cell k2 0).trans rfl
  have xc1 := (blk_cell k2 1).trans rfl
  have xf0 := blk_frozen k2 0
  have xf1 := blk_frozen k2 1
  have yc0 := (blk_cell k6 0).trans rfl
  have yc1 := (blk_cell k6 1).trans rfl
  clear k2 k6
  go_region
  all_goals go_wp2
  all_goals
    have hq := put2 KB.out (.int .i64 0) (.int .i64 0) rfl
    refine bodyPost_ret (results_ct rfl _ _ g2 34 #[.int .i64 0, .int .i64 0] (0, 0) _ rfl hq.1 Tryz.underlying34 rfl (by kernel_rfl)) rfl ?_
    exact ⟨rfl, hq.2.2 w GE2.out (below_drew1 kb.out)⟩
theorem impl_said.calls (a0 : ByteArray) (r1 : Int) (r2 : Int) (r3 : Bool) (w : World) (h : impl_said.f a0 = some (r1, r2, r3)) (hE : EnvE w) :
    Calls Tryz.prog 51 #[.string a0] w fun e w' => e = .returned (.tuple #[.agg #[.int .i64 r1, .int .i64 r2], .bool r3]) ∧ Below w.heap.size w w' := by
  unfold impl_said.f at h
  by_cases hs : a0.size ≤ 4000000000
  · rw [if_pos hs] at h
    have h := Option.some.inj h
    unfold saidW at h
    cases hr : readEndW (trimW a0) with
    | none =>
      rw [hr] at h
      cases h
      cases hp : Lib.hasPrefix a0.data.toList portL with
      | true => exact said_none_true a0 hs hr hp w hE
      | false => exact said_none_false a0 hs hr hp w hE
    | some r =>
      obtain ⟨x, y⟩ := r
      rw [hr] at h
      cases h
      cases hp : Lib.hasPrefix a0.data.toList portL with
      | true => exact said_some_true a0 hs _ _ hr hp w hE
      | false => exact said_some_false a0 hs _ _ hr hp w hE
  · rw [if_neg hs] at h; cases h
section
attribute [local go_sem] max2_int min2_int max_two min_two max_three min_three max_four min_four
def impl_LinSays.f (a0 : ByteArray) : Option (Int × Int × Bool):=(impl_said.f a0).bind fun bt352=>(if bt352.2.2 = true then ((impl_EndInside.f bt352.1 bt352.2.1).bind fun t356=>(if t356 = true then (some (bt352.1,bt352.2.1,true)) else (some (0,0,false)))) else (some (0,0,false)))
set_option maxHeartbeats 8000000 in
set_option maxRecDepth 100000 in
theorem impl_LinSays.calls (a0 : ByteArray) (r1 : Int) (r2 : Int) (r3 : Bool) (w : World) (h : impl_LinSays.f a0 = some (r1,r2,r3)) (hE : EnvE w) :
  Calls Tryz.prog 19 #[.string a0] w fun e w'=>e = .returned (.tuple #[.agg #[.int .i64 r1,.int .i64 r2],.bool r3]) ∧ Below w.heap.size w w':=by
 have hu34:=Tryz.underlying34
 have HB:=am (Below.refl w.heap.size w)
 have H : ((impl_said.f a0).bind fun bt352=>(if bt352.2.2 = true then ((impl_EndInside.f bt352.1 bt352.2.1).bind fun t356=>(if t356 = true then (some (bt352.1,bt352.2.1,true)) else (some (0,0,false)))) else (some (0,0,false)))) = some (r1,r2,r3):=h
 clear h
 obtain ⟨⟨t352,t353,t354⟩,A2,H⟩:=bse H
 try dsimp only at H
 by_cases c3 : t354 = true
 ·subst c3
  have H1 : ((impl_EndInside.f t352 t353).bind fun t356=>(if t356 = true then (some (t352,t353,true)) else (some (0,0,false)))) = some (r1,r2,r3):=by rw [if_pos rfl] at H;exact H
  clear H
  have H:=H1
  clear H1
  obtain ⟨t356,A4,H⟩:=bse H
  try dsimp only at H
  by_cases c5 : t356 = true
  ·subst c5
   have H1 : (some (t352,t353,true)) = some (r1,r2,r3):=by rw [if_pos rfl] at H;exact H
   clear H
   have H:=H1
   clear H1
   simp only [Option.some.injEq,Prod.mk.injEq] at H
   obtain ⟨rfl,rfl,rfl⟩:=H
   go_enter Tryz.func19,Tryz.ntmps19
   go_wp2_with (first | ((with_reducible refine gD 2 rfl ?_);refine box_event rfl (N:=2) rfl (cs:=#[.int .i64 0,.int .i64 0]) (t:=34) hr_ ?_;intro gb351 hg w6 hbox hb;have BK351:=am hbox;have GW351:=gwE HB hg;have GE351:=gwE HB hg;replace HB:=hbS HB hb;clear hb hbox hg) | ((with_reducible refine gC 51 rfl ?_);refine gL (some 8) Tryz.func51 #[.string a0] ?_;(with_reducible refine (impl_said.calls a0 t352 t353 true _ A2.out (EnvE.below hE (bl HB))).mono ?_);rintro e w7 ⟨rfl,hb⟩;refine ⟨_,rfl,?_⟩;replace BK351:=bkB BK351 hb;replace HB:=hbS HB hb;(try clear hb)) | ((with_reducible refine gD 4 rfl ?_);refine box_event rfl (N:=4) rfl (cs:=#[.int .i64 0,.int .i64 0]) (t:=34) hr_ ?_;intro gb355 hg w8 hbox hb;have BK355:=am hbox;have GW355:=gwE HB hg;have GE355:=gwE HB hg;replace HB:=hbS HB hb;have NB351_355:=neL BK351 hg;have NB355_351:=neG BK351 hg;replace BK351:=bkB BK351 hb;clear hb hbox hg;have:=NB355_351.out;have:=NB351_355.out;have:=bcell BK355 0;have:=bcell BK355 1;have:=bfz BK355 0;have:=bfz BK355 1) | (go_at_call 52;(with_reducible refine (impl_EndInside.calls t352 t353 true _ A4.out).mono ?_);rintro e w11 ⟨rfl,hb⟩;replace BK351:=am (blk_below (g:=gb351) (o:=.cells #[.int .i64 0,.int .i64 0] 34 (0,0)) (by (with_reducible repeat refine bu ?_);refine blk_far ?_ NB351_355.out _;(with_reducible repeat refine bu ?_);refine blk_far ?_ NB351_355.out _;(with_reducible repeat refine bu ?_);exact BK351.out) hb);replace BK355:=am (blk_below (g:=gb355) (o:=.cells #[.int .i64 t352,.int .i64 t353] 34 (0,0)) (by (with_reducible repeat refine bu ?_);refine blk_put (cs:=#[.int .i64 t352,.int .i64 0]) ?_ 1 _ rfl;(with_reducible repeat refine bu ?_);refine blk_put (cs:=#[.int .i64 0,.int .i64 0]) ?_ 0 _ rfl;(with_reducible repeat refine bu ?_);exact BK355.out) hb);replace HB:=hbS HB hb;(try clear hb);have:=bcell BK355 0;have:=bcell BK355 1;have:=bfz BK355 0;have:=bfz BK355 1;have:=bcell BK351 0;have:=bcell BK351 1;have:=bfz BK351 0;have:=bfz BK351 1))
   refine bodyPost_ret (results_ct rfl _ _ gb351 34 #[.int .i64 t352,.int .i64 t353] (0,0) _ rfl (by (with_reducible repeat refine bu ?_);refine blk_put (cs:=#[.int .i64 t352,.int .i64 0]) ?_ 1 _ rfl;(with_reducible repeat refine bu ?_);refine blk_put (cs:=#[.int .i64 0,.int .i64 0]) ?_ 0 _ rfl;(with_reducible repeat refine bu ?_);exact BK351.out) Tryz.underlying34 rfl (by kernel_rfl)) rfl ?_
   exact ⟨fi_,m2_⟩
  ·replace c5:=Bool.eq_false_iff.mpr c5
   subst c5
   have H1 : (some (0,0,false)) = some (r1,r2,r3):=by rw [if_neg (show ¬ (false = true) by decide)] at H;exact H
   clear H
   have H:=H1
   clear H1
   simp only [Option.some.injEq,Prod.mk.injEq] at H
   obtain ⟨rfl,rfl,rfl⟩:=H
   go_enter Tryz.func19,Tryz.ntmps19
   go_wp2_with (first | ((with_reducible refine gD 2 rfl ?_);refine box_event rfl (N:=2) rfl (cs:=#[.int .i64 0,.int .i64 0]) (t:=34) hr_ ?_;intro gb351 hg w14 hbox hb;have BK351:=am hbox;have GW351:=gwE HB hg;have GE351:=gwE HB hg;replace HB:=hbS HB hb;clear hb hbox hg) | ((with_reducible refine gC 51 rfl ?_);refine gL (some 8) Tryz.func51 #[.string a0] ?_;(with_reducible refine (impl_said.calls a0 t352 t353 true _ A2.out (EnvE.below hE (bl HB))).mono ?_);rintro e w15 ⟨rfl,hb⟩;refine ⟨_,rfl,?_⟩;replace BK351:=bkB BK351 hb;replace HB:=hbS HB hb;(try clear hb)) | ((with_reducible refine gD 4 rfl ?_);refine box_event rfl (N:=4) rfl (cs:=#[.int .i64 0,.int .i64 0]) (t:=34) hr_ ?_;intro gb355 hg w16 hbox hb;have BK355:=am hbox;have GW355:=gwE HB hg;have GE355:=gwE HB hg;replace HB:=hbS HB hb;have NB351_355:=neL BK351 hg;have NB355_351:=neG BK351 hg;replace BK351:=bkB BK351 hb;clear hb hbox hg;have:=NB355_351.out;have:=NB351_355.out;have:=bcell BK355 0;have:=bcell BK355 1;have:=bfz BK355 0;have:=bfz BK355 1) | (go_at_call 52;(with_reducible refine (impl_EndInside.calls t352 t353 false _ A4.out).mono ?_);rintro e w19 ⟨rfl,hb⟩;replace BK351:=am (blk_below (g:=gb351) (o:=.cells #[.int .i64 0,.int .i64 0] 34 (0,0)) (by (with_reducible repeat refine bu ?_);refine blk_far ?_ NB351_355.out _;(with_reducible repeat refine bu ?_);refine blk_far ?_ NB351_355.out _;(with_reducible repeat refine bu ?_);exact BK351.out) hb);replace BK355:=am (blk_below (g:=gb355) (o:=.cells #[.int .i64 t352,.int .i64 t353] 34 (0,0)) (by (with_reducible repeat refine bu ?_);refine blk_put (cs:=#[.int .i64 t352,.int .i64 0]) ?_ 1 _ rfl;(with_reducible repeat refine bu ?_);refine blk_put (cs:=#[.int .i64 0,.int .i64 0]) ?_ 0 _ rfl;(with_reducible repeat refine bu ?_);exact BK355.out) hb);replace HB:=hbS HB hb;(try clear hb);have:=bcell BK351 0;have:=bcell BK351 1;have:=bfz BK351 0;have:=bfz BK351 1))
   refine bodyPost_ret (results_ct rfl _ _ gb351 34 #[.int .i64 0,.int .i64 0] (0,0) _ rfl (by (with_reducible repeat refine bu ?_);refine blk_put (cs:=#[.int .i64 0,.int .i64 0]) ?_ 1 _ rfl;(with_reducible repeat refine bu ?_);refine blk_put (cs:=#[.int .i64 0,.int .i64 0]) ?_ 0 _ rfl;(with_reducible repeat refine bu ?_);exact BK351.out) Tryz.underlying34 rfl (by kernel_rfl)) rfl ?_
   exact ⟨fi_,m2_⟩
 ·replace c3:=Bool.eq_false_iff.mpr c3
  subst c3
  have H1 : (some (0,0,false)) = some (r1,r2,r3):=by rw [if_neg (show ¬ (false = true) by decide)] at H;exact H
  clear H
  have H:=H1
  clear H1
  simp only [Option.some.injEq,Prod.mk.injEq] at H
  obtain ⟨rfl,rfl,rfl⟩:=H
  go_enter Tryz.func19,Tryz.ntmps19
  go_wp2_with (first | ((with_reducible refine gD 2 rfl ?_);refine box_event rfl (N:=2) rfl (cs:=#[.int .i64 0,.int .i64 0]) (t:=34) hr_ ?_;intro gb351 hg w21 hbox hb;have BK351:=am hbox;have GW351:=gwE HB hg;have GE351:=gwE HB hg;replace HB:=hbS HB hb;clear hb hbox hg) | ((with_reducible refine gC 51 rfl ?_);refine gL (some 8) Tryz.func51 #[.string a0] ?_;(with_reducible refine (impl_said.calls a0 t352 t353 false _ A2.out (EnvE.below hE (bl HB))).mono ?_);rintro e w22 ⟨rfl,hb⟩;refine ⟨_,rfl,?_⟩;replace BK351:=bkB BK351 hb;replace HB:=hbS HB hb;(try clear hb)) | ((with_reducible refine gD 4 rfl ?_);refine box_event rfl (N:=4) rfl (cs:=#[.int .i64 0,.int .i64 0]) (t:=34) hr_ ?_;intro gb355 hg w23 hbox hb;have BK355:=am hbox;have GW355:=gwE HB hg;have GE355:=gwE HB hg;replace HB:=hbS HB hb;have NB351_355:=neL BK351 hg;have NB355_351:=neG BK351 hg;replace BK351:=bkB BK351 hb;clear hb hbox hg;have:=NB355_351.out;have:=NB351_355.out;have:=bcell BK355 0;have:=bcell BK355 1;have:=bfz BK355 0;have:=bfz BK355 1;have:=bcell BK351 0;have:=bcell BK351 1;have:=bfz BK351 0;have:=bfz BK351 1))
  refine bodyPost_ret (results_ct rfl _ _ gb351 34 #[.int .i64 0,.int .i64 0] (0,0) _ rfl (by (with_reducible repeat refine bu ?_);refine blk_put (cs:=#[.int .i64 0,.int .i64 0]) ?_ 1 _ rfl;(with_reducible repeat refine bu ?_);refine blk_put (cs:=#[.int .i64 0,.int .i64 0]) ?_ 0 _ rfl;(with_reducible repeat refine bu ?_);refine blk_far ?_ NB351_355.out _;(with_reducible repeat refine bu ?_);refine blk_far ?_ NB351_355.out _;(with_reducible repeat refine bu ?_);exact BK351.out) Tryz.underlying34 rfl (by kernel_rfl)) rfl ?_
  exact ⟨fi_,m2_⟩
end
end Go.Proofs.YtffmbccgcaghjaaGreatDoor.P
