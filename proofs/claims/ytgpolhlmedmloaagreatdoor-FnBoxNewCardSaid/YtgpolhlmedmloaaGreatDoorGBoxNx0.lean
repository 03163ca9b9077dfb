import Derived.Test.YtgpolhlmedmloaaGreatDoorProg
import Derived.Below
import Derived.Deep.Draws
import Derived.Deep.AppendLies
import Derived.Maps.AppendAt
import Derived.OwnWalk
import Derived.Laws.BytesArg
import Derived.Laws.MakeOwn
import Derived.Laws.OwnMore
import Derived.Deep.OwnRows
import Derived.Tactics
import Derived.Lib.ConvBytes
import Derived.Laws.Slices
import Derived.WalkKit
import Derived.KernelRfl
import Derived.RowKit3
import Derived.Deep.LoopGhost
import Derived.Deep.QuietTactic
import Derived.BigQuiet
import Derived.WideLaws
import Derived.Deep.DeepCutAuto
import Derived.Deep.CutBlock
import Derived.Deep.RegionHeld3
import Derived.Laws.Rows
import Derived.Lib.AppendStr
import Derived.ArgAppend
import Derived.Laws.IdiomCopy
import Derived.OrdersHeld
import Derived.Laws.BitsLemmas
import Derived.RowKit
import Derived.Test.YtgpolhlmedmloaaGreatDoorUBoxNWords
import Derived.Test.YtgpolhlmedmloaaGreatDoorUBoxNLast
import Derived.Test.YtgpolhlmedmloaaGreatDoorUBoxNTab
import Derived.Test.YtgpolhlmedmloaaGreatDoorUBoxNFour
import Derived.Test.YtgpolhlmedmloaaGreatDoorUBoxNQPut
import Derived.Test.YtgpolhlmedmloaaGreatDoorUBoxNApart
import Derived.Test.YtgpolhlmedmloaaGreatDoorUBoxNArr
import Derived.Test.YtgpolhlmedmloaaGreatDoorUBoxNZeros
import Derived.Test.YtgpolhlmedmloaaGreatDoorUBoxNFoot
import Derived.Test.YtgpolhlmedmloaaGreatDoorUBoxNKept
import Derived.Test.YtgpolhlmedmloaaGreatDoorUBoxNShare
import Derived.Test.YtgpolhlmedmloaaGreatDoorUBoxNN
import Derived.Test.YtgpolhlmedmloaaGreatDoorUBoxNFootNe
import Derived.Test.YtgpolhlmedmloaaGreatDoorUBoxNAt
import Derived.Test.YtgpolhlmedmloaaGreatDoorUBoxNEqStruct
import Derived.Test.YtgpolhlmedmloaaGreatDoorUBoxNRepsOne
import Derived.Test.YtgpolhlmedmloaaGreatDoorUBoxNInv
import Derived.Test.YtgpolhlmedmloaaGreatDoorUBoxNInvWords
import Derived.Test.YtgpolhlmedmloaaGreatDoorUBoxNGuard
import Derived.Test.YtgpolhlmedmloaaGreatDoorUBoxNNEv
import Derived.Test.YtgpolhlmedmloaaGreatDoorUBoxNMore
import Derived.Shelf.Small.Wraps
import Derived.Shelf.LaysM
import Derived.Shelf.Strconv.Itoa3
import Derived.Shelf.LaysC
import Derived.Shelf.Strconv.AtoiAll
import Derived.Shelf.Strings.Cut
import Derived.Shelf.Vars
import Derived.Shelf.Lays
import Derived.Lib.Hide
import Derived.WalkSmall
import Derived.Test.YtgpolhlmedmloaaGreatDoorRows
import Derived.Lay
import Derived.LaidSub
import Derived.MakeChecks
import Derived.Stop.Joined
import Derived.Deep.DeepHandedRow
import Derived.Lib.LaidTab
namespace Go.Proofs.YtgpolhlmedmloaaGreatDoor.P
open Go.Proofs.YtgpolhlmedmloaaGreatDoorUBoxN.PrintLast Go.Proofs.YtgpolhlmedmloaaGreatDoorUBoxN.PrintMore Go.Proofs.YtgpolhlmedmloaaGreatDoorUBoxN.PrintWords Go.RowKit
set_option linter.unusedVariables false
set_option linter.unusedSimpArgs false
section
attribute [local go_sem] max2_int min2_int max_two min_two max_three min_three max_four min_four
def errW : Option Int → Value
 | none=>.nilIface
 | some c=>.iface 209 (.int .i64 c)
theorem errW_none : errW none = .nilIface:=rfl
theorem errW_some (c : Int) : errW (some c) = .iface 209 (.int .i64 c):=rfl
theorem info5 : (Tryz.prog.info? 5).map (fun i=>(i.zero,i.size,i.bytes)) = some (some (.int .u8 0),1,1):=by kernel_rfl
theorem info9 : (Tryz.prog.info? 9).map (fun i=>(i.zero,i.size,i.bytes)) = some (some (.string ⟨#[]⟩),1,16):=by kernel_rfl
theorem info35 : (Tryz.prog.info? 35).map (fun i=>(i.zero,i.size,i.bytes)) = some (some (.agg #[(.bool false),(.int .i64 0),(.int .i64 0),(.int .i64 0),(.int .i64 0),(.int .i64 0),(.int .i64 0)]),7,56):=by kernel_rfl
theorem info54 : (Tryz.prog.info? 54).map (fun i=>(i.zero,i.size,i.bytes)) = some (some (.agg #[(.int .i64 0),(.int .i64 0)]),2,16):=by kernel_rfl
structure S35 where
 f0 : Bool
 f1 : Int
 f2 : Int
 f3 : Int
 f4 : Int
 f5 : Int
 f6 : Int
def z35 : S35:=⟨false,(0 : Int),(0 : Int),(0 : Int),(0 : Int),(0 : Int),(0 : Int)⟩
def k35 : Kd S35:=Kd.iso (Kd.pair Kd.bool (Kd.pair (Kd.int .i64) (Kd.pair (Kd.int .i64) (Kd.pair (Kd.int .i64) (Kd.pair (Kd.int .i64) (Kd.pair (Kd.int .i64) (Kd.int .i64))))))) (fun x : S35=>(x.f0,x.f1,x.f2,x.f3,x.f4,x.f5,x.f6))
theorem k35_open {w : World} {x : S35} {cs : List Value} (h : k35.K w x cs) : cs = [.bool x.f0,.int .i64 x.f1,.int .i64 x.f2,.int .i64 x.f3,.int .i64 x.f4,.int .i64 x.f5,.int .i64 x.f6]:=by
 obtain ⟨_,_,rfl,rfl,⟨_,_,rfl,rfl,⟨_,_,rfl,rfl,⟨_,_,rfl,rfl,⟨_,_,rfl,rfl,⟨_,_,rfl,rfl,rfl⟩⟩⟩⟩⟩⟩:=h
 exact rfl
theorem k35_mkM (w : World) (base : Nat) (ok : Nat → Prop) (x : S35)  : k35.M w base ok x [.bool x.f0,.int .i64 x.f1,.int .i64 x.f2,.int .i64 x.f3,.int .i64 x.f4,.int .i64 x.f5,.int .i64 x.f6]:=⟨[.bool x.f0],[.int .i64 x.f1,.int .i64 x.f2,.int .i64 x.f3,.int .i64 x.f4,.int .i64 x.f5,.int .i64 x.f6],rfl,rfl,⟨[.int .i64 x.f1],[.int .i64 x.f2,.int .i64 x.f3,.int .i64 x.f4,.int .i64 x.f5,.int .i64 x.f6],rfl,rfl,⟨[.int .i64 x.f2],[.int .i64 x.f3,.int .i64 x.f4,.int .i64 x.f5,.int .i64 x.f6],rfl,rfl,⟨[.int .i64 x.f3],[.int .i64 x.f4,.int .i64 x.f5,.int .i64 x.f6],rfl,rfl,⟨[.int .i64 x.f4],[.int .i64 x.f5,.int .i64 x.f6],rfl,rfl,⟨[.int .i64 x.f5],[.int .i64 x.f6],rfl,rfl,rfl⟩⟩⟩⟩⟩⟩
def rd_T35 (xs : List S35) (i : Int) : S35:=xs.getD i.toNat z35
theorem at_T35 {w : World} {A : Option Addr} {n : Nat} {xs : List S35} (h : Kd.C k35 w A n xs) (i : Int) (h0 : 0 ≤ i) (h1 : i < n) : ∃ ad ,A = some ad ∧ w.cell? (ad.add (i.toNat * 7)) = some (.bool (rd_T35 xs i).f0) ∧ w.cell? ⟨(ad.add (i.toNat * 7)).block,(ad.add (i.toNat * 7)).off + 1,none⟩ = some (.int .i64 (rd_T35 xs i).f1) ∧ w.cell? ⟨(ad.add (i.toNat * 7)).block,(ad.add (i.toNat * 7)).off + 2,none⟩ = some (.int .i64 (rd_T35 xs i).f2) ∧ w.cell? ⟨(ad.add (i.toNat * 7)).block,(ad.add (i.toNat * 7)).off + 3,none⟩ = some (.int .i64 (rd_T35 xs i).f3) ∧ w.cell? ⟨(ad.add (i.toNat * 7)).block,(ad.add (i.toNat * 7)).off + 4,none⟩ = some (.int .i64 (rd_T35 xs i).f4) ∧ w.cell? ⟨(ad.add (i.toNat * 7)).block,(ad.add (i.toNat * 7)).off + 5,none⟩ = some (.int .i64 (rd_T35 xs i).f5) ∧ w.cell? ⟨(ad.add (i.toNat * 7)).block,(ad.add (i.toNat * 7)).off + 6,none⟩ = some (.int .i64 (rd_T35 xs i).f6):=by
 obtain ⟨ad,c,e,_,hK,hc0⟩:=Kd.C_get h z35 i h0 h1
 have hc : ∀ j u,c[j]? = some u → w.cell? (ad.add (i.toNat * 7 + j)) = some u:=hc0
 obtain rfl:=k35_open hK
 exact ⟨ad,e,hc 0 _ rfl,by rw [← add_field _ _ 1 (by omega)];exact hc 1 _ rfl,by rw [← add_field _ _ 2 (by omega)];exact hc 2 _ rfl,by rw [← add_field _ _ 3 (by omega)];exact hc 3 _ rfl,by rw [← add_field _ _ 4 (by omega)];exact hc 4 _ rfl,by rw [← add_field _ _ 5 (by omega)];exact hc 5 _ rfl,by rw [← add_field _ _ 6 (by omega)];exact hc 6 _ rfl⟩
structure S54 where
 f0 : Int
 f1 : Int
def z54 : S54:=⟨(0 : Int),(0 : Int)⟩
def k54 : Kd S54:=Kd.iso (Kd.pair (Kd.int .i64) (Kd.int .i64)) (fun x : S54=>(x.f0,x.f1))
theorem k54_open {w : World} {x : S54} {cs : List Value} (h : k54.K w x cs) : cs = [.int .i64 x.f0,.int .i64 x.f1]:=by
 obtain ⟨_,_,rfl,rfl,rfl⟩:=h
 exact rfl
def rd_T54 (xs : List S54) (i : Int) : S54:=xs.getD i.toNat z54
theorem at_T54 {w : World} {A : Option Addr} {n : Nat} {xs : List S54} (h : Kd.C k54 w A n xs) (i : Int) (h0 : 0 ≤ i) (h1 : i < n) : ∃ ad ,A = some ad ∧ w.cell? (ad.add (i.toNat * 2)) = some (.int .i64 (rd_T54 xs i).f0) ∧ w.cell? ⟨(ad.add (i.toNat * 2)).block,(ad.add (i.toNat * 2)).off + 1,none⟩ = some (.int .i64 (rd_T54 xs i).f1):=by
 obtain ⟨ad,c,e,_,hK,hc0⟩:=Kd.C_get h z54 i h0 h1
 have hc : ∀ j u,c[j]? = some u → w.cell? (ad.add (i.toNat * 2 + j)) = some u:=hc0
 obtain rfl:=k54_open hK
 exact ⟨ad,e,hc 0 _ rfl,by rw [← add_field _ _ 1 (by omega)];exact hc 1 _ rfl⟩
structure S56 where
 f0 : S54
 f1 : S54
 f2 : ByteArray
 f3 : ByteArray
 f4 : ByteArray
def z56 : S56:=⟨z54,z54,(⟨#[]⟩ : ByteArray),(⟨#[]⟩ : ByteArray),(⟨#[]⟩ : ByteArray)⟩
def k56 : Kd S56:=Kd.iso (Kd.pair k54 (Kd.pair k54 (Kd.pair Kd.string (Kd.pair Kd.string Kd.string)))) (fun x : S56=>(x.f0,x.f1,x.f2,x.f3,x.f4))
theorem k56_open {w : World} {x : S56} {cs : List Value} (h : k56.K w x cs) : cs = [.int .i64 x.f0.f0,.int .i64 x.f0.f1,.int .i64 x.f1.f0,.int .i64 x.f1.f1,.string x.f2,.string x.f3,.string x.f4]:=by
 obtain ⟨_,_,rfl,s0,⟨_,_,rfl,s2,⟨_,_,rfl,rfl,⟨_,_,rfl,rfl,rfl⟩⟩⟩⟩:=h
 obtain rfl:=k54_open s0
 obtain rfl:=k54_open s2
 exact rfl
def rd_T56 (xs : List S56) (i : Int) : S56:=xs.getD i.toNat z56
theorem at_T56 {w : World} {A : Option Addr} {n : Nat} {xs : List S56} (h : Kd.C k56 w A n xs) (i : Int) (h0 : 0 ≤ i) (h1 : i < n) : ∃ ad ,A = some ad ∧ w.cell? (ad.add (i.toNat * 7)) = some (.int .i64 (rd_T56 xs i).f0.f0) ∧ w.cell? ⟨(ad.add (i.toNat * 7)).block,(ad.add (i.toNat * 7)).off + 1,none⟩ = some (.int .i64 (rd_T56 xs i).f0.f1) ∧ w.cell? ⟨(ad.add (i.toNat * 7)).block,(ad.add (i.toNat * 7)).off + 2,none⟩ = some (.int .i64 (rd_T56 xs i).f1.f0) ∧ w.cell? ⟨(ad.add (i.toNat * 7)).block,(ad.add (i.toNat * 7)).off + 3,none⟩ = some (.int .i64 (rd_T56 xs i).f1.f1) ∧ w.cell? ⟨(ad.add (i.toNat * 7)).block,(ad.add (i.toNat * 7)).off + 4,none⟩ = some (.string (rd_T56 xs i).f2) ∧ w.cell? ⟨(ad.add (i.toNat * 7)).block,(ad.add (i.toNat * 7)).off + 5,none⟩ = some (.string (rd_T56 xs i).f3) ∧ w.cell? ⟨(ad.add (i.toNat * 7)).block,(ad.add (i.toNat * 7)).off + 6,none⟩ = some (.string (rd_T56 xs i).f4):=by
 obtain ⟨ad,c,e,_,hK,hc0⟩:=Kd.C_get h z56 i h0 h1
 have hc : ∀ j u,c[j]? = some u → w.cell? (ad.add (i.toNat * 7 + j)) = some u:=hc0
 obtain rfl:=k56_open hK
 exact ⟨ad,e,hc 0 _ rfl,by rw [← add_field _ _ 1 (by omega)];exact hc 1 _ rfl,by rw [← add_field _ _ 2 (by omega)];exact hc 2 _ rfl,by rw [← add_field _ _ 3 (by omega)];exact hc 3 _ rfl,by rw [← add_field _ _ 4 (by omega)];exact hc 4 _ rfl,by rw [← add_field _ _ 5 (by omega)];exact hc 5 _ rfl,by rw [← add_field _ _ 6 (by omega)];exact hc 6 _ rfl⟩
end
end Go.Proofs.YtgpolhlmedmloaaGreatDoor.P
namespace Go.Proofs
open Go.Shelf
def Tryz.lays103_ren : Go.Shelf.Ren:=⟨fun | 103=>148 | 210=>175 | 206=>192 | n=>n,fun | 9=>9 | 4=>4 | 24=>165 | 3=>3 | n=>n,fun | n=>n⟩
theorem Tryz.lays103 : Go.Proofs.Lays.n103 Tryz.prog Tryz.lays103_ren:={
  mixed:=by kernel_rfl
  f103:=Tryz.func148.trans (congrArg some (by kernel_rfl))
  f206:=Tryz.func192.trans (congrArg some (by kernel_rfl))
  f210:=Tryz.func175.trans (congrArg some (by kernel_rfl))
  t3:=Tryz.underlying3
  a3:=Tryz.isAgg3
  z3:=Tryz.sizeOf3
  v3:=Tryz.zeroValue3
  t4:=Tryz.underlying4
  a4:=Tryz.isAgg4
  z4:=Tryz.sizeOf4
  v4:=Tryz.zeroValue4
  t9:=Tryz.underlying9
  a9:=Tryz.isAgg9
  z9:=Tryz.sizeOf9
  v9:=Tryz.zeroValue9
  t24:=Tryz.underlying165
  a24:=Tryz.isAgg165
  z24:=Tryz.sizeOf165
  v24:=Tryz.zeroValue165 }
open Go.RowKit in
theorem Tryz.strings_CutPrefix (s p : ByteArray) (w : World) :
    Calls Tryz.prog 148 #[.string s,.string p] w fun e w'=>e = .returned (.tuple #[.string ⟨(Lib.trimPrefix s.data.toList p.data.toList).toArray⟩,.bool (Lib.hasPrefix s.data.toList p.data.toList)]) ∧ w' = w:=Any.strings_CutPrefix Tryz.lays103 s p w
def Tryz.laysM171_ren : Go.Shelf.Ren:=⟨fun | 171=>195 | 243=>214 | 246=>222 | 283=>225 | 284=>226 | 285=>227 | 286=>228 | 129=>230 | 317=>229 | 318=>231 | 319=>232 | 320=>233 | 337=>234 | 338=>235 | n=>n,fun | 3=>3 | 9=>9 | 2=>2 | 4=>4 | 171=>230 | 0=>0 | 53=>219 | 37=>22 | 5=>5 | 173=>233 | 212=>236 | 51=>188 | 20=>20 | 213=>237 | 46=>197 | 232=>240 | 233=>241 | n=>n,fun | 17=>4 | 18=>5 | 19=>6 | n=>n⟩
theorem Tryz.laysM171 : Go.Proofs.LaysM.n171 Tryz.prog Tryz.laysM171_ren:={
  mixed:=by kernel_rfl
  f129:=Tryz.func230.trans (congrArg some (by kernel_rfl))
  f171:=Tryz.func195.trans (congrArg some (by kernel_rfl))
  f243:=Tryz.func214.trans (congrArg some (by kernel_rfl))
  f246:=Tryz.func222.trans (congrArg some (by kernel_rfl))
  f283:=Tryz.func225.trans (congrArg some (by kernel_rfl))
  f284:=Tryz.func226.trans (congrArg some (by kernel_rfl))
  f285:=Tryz.func227.trans (congrArg some (by kernel_rfl))
  f286:=Tryz.func228.trans (congrArg some (by kernel_rfl))
  f317:=Tryz.func229.trans (congrArg some (by kernel_rfl))
  f318:=Tryz.func231.trans (congrArg some (by kernel_rfl))
  f319:=Tryz.func232.trans (congrArg some (by kernel_rfl))
  f320:=Tryz.func233.trans (congrArg some (by kernel_rfl))
  f337:=Tryz.func234.trans (congrArg some (by kernel_rfl))
  f338:=Tryz.func235.trans (congrArg some (by kernel_rfl))
  t0:=Tryz.underlying0
  a0:=Tryz.isAgg0
  z0:=Tryz.sizeOf0
  v0:=Tryz.zeroValue0
  t2:=Tryz.underlying2
  a2:=Tryz.isAgg2
  z2:=Tryz.sizeOf2
  v2:=Tryz.zeroValue2
  t3:=Tryz.underlying3
  a3:=Tryz.isAgg3
  z3:=Tryz.sizeOf3
  v3:=Tryz.zeroValue3
  t4:=Tryz.underlying4
  a4:=Tryz.isAgg4
  z4:=Tryz.sizeOf4
  v4:=Tryz.zeroValue4
  t5:=Tryz.underlying5
  a5:=Tryz.isAgg5
  z5:=Tryz.sizeOf5
  v5:=Tryz.zeroValue5
  t9:=Tryz.underlying9
  a9:=Tryz.isAgg9
  z9:=Tryz.sizeOf9
  v9:=Tryz.zeroValue9
  t20:=Tryz.underlying20
  a20:=Tryz.isAgg20
  z20:=Tryz.sizeOf20
  v20:=Tryz.zeroValue20
  t37:=Tryz.underlying22
  a37:=Tryz.isAgg22
  z37:=Tryz.sizeOf22
  v37:=Tryz.zeroValue22
  t46:=Tryz.underlying197
  a46:=Tryz.isAgg197
  z46:=Tryz.sizeOf197
  v46:=Tryz.zeroValue197
  t51:=Tryz.underlying188
  a51:=Tryz.isAgg188
  z51:=Tryz.sizeOf188
  v51:=Tryz.zeroValue188
  t53:=Tryz.underlying219
  a53:=Tryz.isAgg219
  z53:=Tryz.sizeOf219
  v53:=Tryz.zeroValue219
  t171:=Tryz.underlying230
  a171:=Tryz.isAgg230
  z171:=Tryz.sizeOf230
  v171:=Tryz.zeroValue230
  t173:=Tryz.underlying233
  a173:=Tryz.isAgg233
  z173:=Tryz.sizeOf233
  v173:=Tryz.zeroValue233
  t212:=Tryz.underlying236
  a212:=Tryz.isAgg236
  z212:=Tryz.sizeOf236
  v212:=Tryz.zeroValue236
  t213:=Tryz.underlying237
  a213:=Tryz.isAgg237
  z213:=Tryz.sizeOf237
  t232:=Tryz.underlying240
  a232:=Tryz.isAgg240
  z232:=Tryz.sizeOf240
  v232:=Tryz.zeroValue240
  t233:=Tryz.underlying241
  a233:=Tryz.isAgg241
  z233:=Tryz.sizeOf241
  v233:=Tryz.zeroValue241
  g17:=by kernel_rfl
  g18:=by kernel_rfl
  g19:=by kernel_rfl
  i0:=by kernel_rfl
  i2:=by kernel_rfl
  i3:=by kernel_rfl
  i4:=by kernel_rfl
  i5:=by kernel_rfl
  i9:=by kernel_rfl
  i20:=by kernel_rfl
  i37:=by kernel_rfl
  i46:=by kernel_rfl
  i51:=by kernel_rfl
  i53:=by kernel_rfl
  i171:=by kernel_rfl
  i173:=by kernel_rfl
  i212:=by kernel_rfl
  i232:=by kernel_rfl
  i233:=by kernel_rfl
  m17:=by kernel_rfl
  m18:=by kernel_rfl
  m19:=by kernel_rfl }
open Go.RowKit Go.Sort Go.Lib in
theorem Tryz.strconv_Itoa (n : Int) (h0 : -9223372036854775808 ≤ n) (h1 : n ≤ 9223372036854775807) (w : World) (htab : Lib.TabIs Tryz.prog w "internal/strconv.uint64pow10" .u64 Lib.pow10Tab) :
    Calls Tryz.prog 195 #[.int .i64 n] w fun e w'=>e = .returned (.string ⟨(Lib.itoa n).toArray⟩) ∧ ∃ k os,w' = grow (w.drewN k) os:=Any.strconv_Itoa Tryz.laysM171 n h0 h1 w htab
def Tryz.laysC172_ren : Go.Shelf.Ren:=⟨fun | 172=>176 | 244=>193 | 245=>194 | 247=>209 | 279=>210 | 280=>211 | 281=>212 | 282=>213 | 287=>219 | 316=>220 | 171=>195 | 205=>221 | 321=>223 | 322=>224 | 243=>214 | 246=>222 | 283=>225 | 284=>226 | 285=>227 | 286=>228 | 129=>230 | 317=>229 | 318=>231 | 319=>232 | 320=>233 | 337=>234 | 338=>235 | n=>n,fun | 9=>9 | 3=>3 | 75=>168 | 76=>181 | 4=>4 | 5=>5 | 167=>209 | 37=>22 | 0=>0 | 85=>210 | 2=>2 | 168=>212 | 53=>219 | 175=>220 | 46=>197 | 210=>223 | 127=>194 | 145=>229 | 143=>227 | 21=>21 | 171=>230 | 173=>233 | 212=>236 | 51=>188 | 20=>20 | 213=>237 | 232=>240 | 233=>241 | 80=>183 | n=>n,fun | 15=>2 | 16=>3 | 17=>4 | 18=>5 | 19=>6 | n=>n⟩
theorem Tryz.laysC172 : Go.Proofs.LaysC.n172 Tryz.prog Tryz.laysC172_ren:={
  mixed:=by kernel_rfl
  f129:=Tryz.func230.trans (congrArg some (by kernel_rfl))
  f171:=Tryz.func195.trans (congrArg some (by kernel_rfl))
  f172:=Tryz.func176.trans (congrArg some (by kernel_rfl))
  f205:=Tryz.func221.trans (congrArg some (by kernel_rfl))
  f243:=Tryz.func214.trans (congrArg some (by kernel_rfl))
  f244:=Tryz.func193.trans (congrArg some (by kernel_rfl))
  f245:=Tryz.func194.trans (congrArg some (by kernel_rfl))
  f246:=Tryz.func222.trans (congrArg some (by kernel_rfl))
  f247:=Tryz.func209.trans (congrArg some (by kernel_rfl))
  f279:=Tryz.func210.trans (congrArg some (by kernel_rfl))
  f280:=Tryz.func211.trans (congrArg some (by kernel_rfl))
  f281:=Tryz.func212.trans (congrArg some (by kernel_rfl))
  f282:=Tryz.func213.trans (congrArg some (by kernel_rfl))
  f283:=Tryz.func225.trans (congrArg some (by kernel_rfl))
  f284:=Tryz.func226.trans (congrArg some (by kernel_rfl))
  f285:=Tryz.func227.trans (congrArg some (by kernel_rfl))
  f286:=Tryz.func228.trans (congrArg some (by kernel_rfl))
  f287:=Tryz.func219.trans (congrArg some (by kernel_rfl))
  f316:=Tryz.func220.trans (congrArg some (by kernel_rfl))
  f317:=Tryz.func229.trans (congrArg some (by kernel_rfl))
  f318:=Tryz.func231.trans (congrArg some (by kernel_rfl))
  f319:=Tryz.func232.trans (congrArg some (by kernel_rfl))
  f320:=Tryz.func233.trans (congrArg some (by kernel_rfl))
  f321:=Tryz.func223.trans (congrArg some (by kernel_rfl))
  f322:=Tryz.func224.trans (congrArg some (by kernel_rfl))
  f337:=Tryz.func234.trans (congrArg some (by kernel_rfl))
  f338:=Tryz.func235.trans (congrArg some (by kernel_rfl))
  t0:=Tryz.underlying0
  a0:=Tryz.isAgg0
  z0:=Tryz.sizeOf0
  v0:=Tryz.zeroValue0
  t2:=Tryz.underlying2
  a2:=Tryz.isAgg2
  z2:=Tryz.sizeOf2
  v2:=Tryz.zeroValue2
  t3:=Tryz.underlying3
  a3:=Tryz.isAgg3
  z3:=Tryz.sizeOf3
  v3:=Tryz.zeroValue3
  t4:=Tryz.underlying4
  a4:=Tryz.isAgg4
  z4:=Tryz.sizeOf4
  v4:=Tryz.zeroValue4
  t5:=Tryz.underlying5
  a5:=Tryz.isAgg5
  z5:=Tryz.sizeOf5
  v5:=Tryz.zeroValue5
  t9:=Tryz.underlying9
  a9:=Tryz.isAgg9
  z9:=Tryz.sizeOf9
  v9:=Tryz.zeroValue9
  t20:=Tryz.underlying20
  a20:=Tryz.isAgg20
  z20:=Tryz.sizeOf20
  v20:=Tryz.zeroValue20
  t21:=Tryz.underlying21
  a21:=Tryz.isAgg21
  z21:=Tryz.sizeOf21
  v21:=Tryz.zeroValue21
  t37:=Tryz.underlying22
  a37:=Tryz.isAgg22
  z37:=Tryz.sizeOf22
  v37:=Tryz.zeroValue22
  t46:=Tryz.underlying197
  a46:=Tryz.isAgg197
  z46:=Tryz.sizeOf197
  v46:=Tryz.zeroValue197
  t51:=Tryz.underlying188
  a51:=Tryz.isAgg188
  z51:=Tryz.sizeOf188
  v51:=Tryz.zeroValue188
  t53:=Tryz.underlying219
  a53:=Tryz.isAgg219
  z53:=Tryz.sizeOf219
  v53:=Tryz.zeroValue219
  t75:=Tryz.underlying168
  a75:=Tryz.isAgg168
  z75:=Tryz.sizeOf168
  v75:=Tryz.zeroValue168
  t76:=Tryz.underlying181
  a76:=Tryz.isAgg181
  z76:=Tryz.sizeOf181
  v76:=Tryz.zeroValue181
  t85:=Tryz.underlying210
  a85:=Tryz.isAgg210
  z85:=Tryz.sizeOf210
  v85:=Tryz.zeroValue210
  t127:=Tryz.underlying194
  a127:=Tryz.isAgg194
  z127:=Tryz.sizeOf194
  v127:=Tryz.zeroValue194
  t143:=Tryz.underlying227
  a143:=Tryz.isAgg227
  z143:=Tryz.sizeOf227
  v143:=Tryz.zeroValue227
  t145:=Tryz.underlying229
  a145:=Tryz.isAgg229
  z145:=Tryz.sizeOf229
  v145:=Tryz.zeroValue229
  t167:=Tryz.underlying209
  a167:=Tryz.isAgg209
  z167:=Tryz.sizeOf209
  v167:=Tryz.zeroValue209
  t168:=Tryz.underlying212
  a168:=Tryz.isAgg212
  z168:=Tryz.sizeOf212
  v168:=Tryz.zeroValue212
  t171:=Tryz.underlying230
  a171:=Tryz.isAgg230
  z171:=Tryz.sizeOf230
  v171:=Tryz.zeroValue230
  t173:=Tryz.underlying233
  a173:=Tryz.isAgg233
  z173:=Tryz.sizeOf233
  v173:=Tryz.zeroValue233
  t175:=Tryz.underlying220
  a175:=Tryz.isAgg220
  z175:=Tryz.sizeOf220
  v175:=Tryz.zeroValue220
  t210:=Tryz.underlying223
  a210:=Tryz.isAgg223
  z210:=Tryz.sizeOf223
  v210:=Tryz.zeroValue223
  t212:=Tryz.underlying236
  a212:=Tryz.isAgg236
  z212:=Tryz.sizeOf236
  v212:=Tryz.zeroValue236
  t213:=Tryz.underlying237
  a213:=Tryz.isAgg237
  z213:=Tryz.sizeOf237
  t232:=Tryz.underlying240
  a232:=Tryz.isAgg240
  z232:=Tryz.sizeOf240
  v232:=Tryz.zeroValue240
  t233:=Tryz.underlying241
  a233:=Tryz.isAgg241
  z233:=Tryz.sizeOf241
  v233:=Tryz.zeroValue241
  g15:=by kernel_rfl
  g16:=by kernel_rfl
  g17:=by kernel_rfl
  g18:=by kernel_rfl
  g19:=by kernel_rfl
  t80:=Tryz.underlying183
  a80:=Tryz.isAgg183
  z80:=Tryz.sizeOf183
  v80:=Tryz.zeroValue183
  i0:=by kernel_rfl
  i2:=by kernel_rfl
  i3:=by kernel_rfl
  i4:=by kernel_rfl
  i5:=by kernel_rfl
  i9:=by kernel_rfl
  i20:=by kernel_rfl
  i21:=by kernel_rfl
  i37:=by kernel_rfl
  i46:=by kernel_rfl
  i51:=by kernel_rfl
  i53:=by kernel_rfl
  i75:=by kernel_rfl
  i76:=by kernel_rfl
  i80:=by kernel_rfl
  i85:=by kernel_rfl
  i127:=by kernel_rfl
  i143:=by kernel_rfl
  i145:=by kernel_rfl
  i167:=by kernel_rfl
  i168:=by kernel_rfl
  i171:=by kernel_rfl
  i173:=by kernel_rfl
  i175:=by kernel_rfl
  i210:=by kernel_rfl
  i212:=by kernel_rfl
  i232:=by kernel_rfl
  i233:=by kernel_rfl
  m15:=by kernel_rfl
  m16:=by kernel_rfl
  m17:=by kernel_rfl
  m18:=by kernel_rfl
  m19:=by kernel_rfl
  c0:=by kernel_rfl
  c2:=by kernel_rfl
  c3:=by kernel_rfl
  c4:=by kernel_rfl
  c5:=by kernel_rfl
  c9:=by kernel_rfl
  c20:=by kernel_rfl
  c21:=by kernel_rfl
  c37:=by kernel_rfl
  c46:=by kernel_rfl
  c51:=by kernel_rfl
  c53:=by kernel_rfl
  c75:=by kernel_rfl
  c76:=by kernel_rfl
  c80:=by kernel_rfl
  c85:=by kernel_rfl
  c127:=by kernel_rfl
  c143:=by kernel_rfl
  c145:=by kernel_rfl
  c167:=by kernel_rfl
  c168:=by kernel_rfl
  c171:=by kernel_rfl
  c173:=by kernel_rfl
  c175:=by kernel_rfl
  c210:=by kernel_rfl
  c212:=by kernel_rfl
  c213:=by kernel_rfl
  c232:=by kernel_rfl
  c233:=by kernel_rfl }
open Go.RowKit in
theorem Tryz.strconv_Atoi_ok (s : ByteArray) (hmax : s.size ≤ 9223372036854775806) (v : Int) (h : Lib.atoiAll s.data.toList = .ok v) (w : World) :
    Calls Tryz.prog 176 #[.string s] w fun e w'=>e = .returned (.tuple #[.int .i64 v,.nilIface]) ∧ (w' = w ∨ ∃ t,w' = Lib.bytesWorld w 5 t):=Any.strconv_Atoi_ok Tryz.laysC172 s hmax v h w
open Go.RowKit in
theorem Tryz.strconv_Atoi_syntax (s : ByteArray) (hlim : s.size ≤ 281474976710656) (h : Lib.atoiAll s.data.toList = Lib.atoiAll []) (ev : Value) (w : World) (hv : w.cell? ⟨2,0,none⟩ = some ev) (hev : ev = .nilIface ∨ ∃ te pe,ev = .iface te pe) :
    Calls Tryz.prog 176 #[.string s] w fun e w'=>∃ N,e = .returned (.tuple #[.int .i64 (0),.iface 212 (.pointer (some ⟨N,0,none⟩))]) ∧ w.heap.size ≤ N ∧ w'.heap[N]? = some (.cells #[.string ⟨#[65,116,111,105]⟩,.string s,ev] 223 (0,0)) ∧ Below w.heap.size w w':=Any.strconv_Atoi_syntax Tryz.laysC172 s hlim h ev w hv hev
open Go.RowKit in
theorem Tryz.strconv_Atoi_range (s : ByteArray) (hlim : s.size ≤ 281474976710656) (h : Lib.atoiAll s.data.toList = .range) (ev : Value) (w : World) (hv : w.cell? ⟨3,0,none⟩ = some ev) (hev : ev = .nilIface ∨ ∃ te pe,ev = .iface te pe) :
    Calls Tryz.prog 176 #[.string s] w fun e w'=>∃ N,e = .returned (.tuple #[.int .i64 (Lib.atoiSat s.data.toList),.iface 212 (.pointer (some ⟨N,0,none⟩))]) ∧ w.heap.size ≤ N ∧ w'.heap[N]? = some (.cells #[.string ⟨#[65,116,111,105]⟩,.string s,ev] 223 (0,0)) ∧ Below w.heap.size w w':=Any.strconv_Atoi_range Tryz.laysC172 s hlim h ev w hv hev
def Tryz.lays145_ren : Go.Shelf.Ren:=⟨fun | 145=>145 | 220=>173 | 219=>172 | 217=>188 | 225=>189 | 224=>190 | 267=>191 | 266=>207 | 314=>208 | n=>n,fun | 9=>9 | 4=>4 | 59=>163 | 3=>3 | 5=>5 | 46=>197 | 146=>189 | 51=>188 | n=>n,fun | 1=>0 | n=>n⟩
theorem Tryz.lays145 : Go.Proofs.Lays.n145 Tryz.prog Tryz.lays145_ren:={
  mixed:=by kernel_rfl
  f145:=Tryz.func145.trans (congrArg some (by kernel_rfl))
  f217:=Tryz.func188.trans (congrArg some (by kernel_rfl))
  f219:=Tryz.func172.trans (congrArg some (by kernel_rfl))
  f220:=Tryz.func173.trans (congrArg some (by kernel_rfl))
  f224:=Tryz.func190.trans (congrArg some (by kernel_rfl))
  f225:=Tryz.func189.trans (congrArg some (by kernel_rfl))
  f266:=Tryz.func207.trans (congrArg some (by kernel_rfl))
  f267:=Tryz.func191.trans (congrArg some (by kernel_rfl))
  f314:=Tryz.func208.trans (congrArg some (by kernel_rfl))
  t3:=Tryz.underlying3
  a3:=Tryz.isAgg3
  z3:=Tryz.sizeOf3
  v3:=Tryz.zeroValue3
  t4:=Tryz.underlying4
  a4:=Tryz.isAgg4
  z4:=Tryz.sizeOf4
  v4:=Tryz.zeroValue4
  t5:=Tryz.underlying5
  a5:=Tryz.isAgg5
  z5:=Tryz.sizeOf5
  v5:=Tryz.zeroValue5
  t9:=Tryz.underlying9
  a9:=Tryz.isAgg9
  z9:=Tryz.sizeOf9
  v9:=Tryz.zeroValue9
  t46:=Tryz.underlying197
  a46:=Tryz.isAgg197
  z46:=Tryz.sizeOf197
  v46:=Tryz.zeroValue197
  t51:=Tryz.underlying188
  a51:=Tryz.isAgg188
  z51:=Tryz.sizeOf188
  v51:=Tryz.zeroValue188
  t59:=Tryz.underlying163
  a59:=Tryz.isAgg163
  z59:=Tryz.sizeOf163
  v59:=Tryz.zeroValue163
  t146:=Tryz.underlying189
  a146:=Tryz.isAgg189
  z146:=Tryz.sizeOf189
  v146:=Tryz.zeroValue189
  g1:=by kernel_rfl }
open Go.RowKit Go.Lib in
theorem Tryz.strings_Cut (s sep : ByteArray) (m : Int) (w : World) (hs : s.size < 4294967281) (hm : w.cell? ⟨0,0,none⟩ = some (.int .i64 m)) :
    Calls Tryz.prog 145 #[.string s,.string sep] w fun e w'=>e = .returned (.tuple #[.string ⟨(Lib.cut s.data.toList sep.data.toList).1.toArray⟩,.string ⟨(Lib.cut s.data.toList sep.data.toList).2.1.toArray⟩,.bool (Lib.cut s.data.toList sep.data.toList).2.2]) ∧ ∃ n,w' = w.drewN n:=Any.strings_Cut Tryz.lays145 s sep m w hs hm
end Go.Proofs
namespace Go.Proofs.YtgpolhlmedmloaaGreatDoor.P
open Go Go.Proofs.YtgpolhlmedmloaaGreatDoorUBoxN.PrintLast Go.Proofs.YtgpolhlmedmloaaGreatDoorUBoxN.PrintMore Go.Proofs.YtgpolhlmedmloaaGreatDoorUBoxN.PrintWords Go.RowKit Go.Sort
set_option linter.unusedVariables false
theorem var_below {P : Program} {n : String} {cs : Array Value} {w w' : World} (h : w.var? P n = some cs) (b : Below w.heap.size w w') : w'.var? P n = some cs:=by
  simp only [World.var?] at h ⊢
  cases hg : P.globalNamed n with
  | none=>rw [hg] at h;exact h
  | some g=>
    rw [hg] at h
    simp only [Option.bind_some] at h ⊢
    cases hk : w.heap[g]? with
    | none=>rw [hk] at h;simp at h
    | some o=>rw [b.block g (Array.getElem?_eq_some_iff.1 hk).1,hk];rw [hk] at h;exact h
theorem cell_below {g : Nat} {v : Value} {w w' : World} (h : w.cell? ⟨g,0,none⟩ = some v) (b : Below w.heap.size w w') : w'.cell? ⟨g,0,none⟩ = some v:=by
  simp only [World.cell?] at h ⊢
  cases hk : w.heap[g]? with
  | none=>rw [hk] at h;simp at h
  | some o=>rw [b.block g (Array.getElem?_eq_some_iff.1 hk).1,hk];rw [hk] at h;exact h
structure EnvT (w : World) : Prop where
  pow : Lib.TabIs Tryz.prog w "internal/strconv.uint64pow10" .u64 Lib.pow10Tab
theorem EnvT.below {w w' : World} (h : EnvT w) (b : Below w.heap.size w w') : EnvT w':=⟨var_below h.pow b⟩
theorem below_grow {B : Nat} {a w : World} (h : Below B a w) (hB : B ≤ w.heap.size) (os : Array Obj) : Below B a (grow w os):=
  h.trans ⟨rfl,rfl,rfl,by simp [grow],fun k hk=>by simp only [grow];rw [Array.getElem?_append_left (by omega)]⟩
theorem itoa_calls (n : Int) (h0 : 0 ≤ n) (h1 : n ≤ 1000000) (w : World) (hE : EnvT w) :
    Calls Tryz.prog 195 #[.int .i64 n] w fun e w'=>e = .returned (.string ⟨(Lib.itoa n).toArray⟩) ∧ Below w.heap.size w w':=by
  refine (Tryz.strconv_Itoa n (by omega) (by omega) w hE.pow).mono ?_
  rintro e w' ⟨rfl,k,os,rfl⟩
  exact ⟨rfl,below_grow (below_drewN (Below.refl _ _) k) (Nat.le_refl _) os⟩
theorem toList_inj {a b : ByteArray} (h : a.toList = b.toList) : a = b:=by
  rw [ByteArray.toList_eq,ByteArray.toList_eq] at h
  cases a;cases b;simp at h;rw [h]
def numB (n : Int) : ByteArray:=⟨(Lib.itoa n).toArray⟩
theorem numB_size {n : Int} (h0 : 0 ≤ n) (h1 : n ≤ 999) : (numB n).size ≤ 3:=by
  obtain ⟨k,rfl⟩ : ∃ k : Nat,n = k:=⟨n.toNat,by omega⟩
  have hk : k < 1000:=by omega
  have h3 : Lib.nDigits k ≤ 3:=by
    by_cases a : k < 10
    · rw [Lib.nDigits_small a];omega
    · rw [Lib.nDigits_big a]
      by_cases b : k / 10 < 10
      · rw [Lib.nDigits_small b];omega
      · rw [Lib.nDigits_big b,Lib.nDigits_small (by omega)];omega
  have : (Lib.itoa (k : Int)).length ≤ 3:=by
    unfold Lib.itoa
    rw [if_neg (by omega),Lib.decDigits_length]
    simpa using h3
  simpa [numB,ByteArray.size] using this
theorem num_calls (n : Int) (h0 : 0 ≤ n) (h1 : n ≤ 999) (w : World) (hE : EnvT w) :
    Calls Tryz.prog 195 #[.int .i64 n] w fun e w'=>∃ b : ByteArray,e = .returned (.string b) ∧ b = numB n ∧ b.size ≤ 3 ∧ Below w.heap.size w w':=by
  refine (itoa_calls n h0 (by omega) w hE).mono ?_
  rintro e w' ⟨rfl,hb⟩
  exact ⟨_,rfl,rfl,numB_size h0 h1,hb⟩
structure Env (w : World) : Prop where
  t : EnvT w
  max : ∃ m,w.cell? ⟨0,0,none⟩ = some (.int .i64 m)
  syn : ∃ te pe,w.cell? ⟨2,0,none⟩ = some (.iface te pe)
  rng : ∃ te pe,w.cell? ⟨3,0,none⟩ = some (.iface te pe)
theorem Env.below {w w' : World} (h : Env w) (b : Below w.heap.size w w') : Env w':=
  ⟨h.t.below b,h.max.elim fun m hm=>⟨m,cell_below hm b⟩,h.syn.elim fun a ha=>ha.elim fun c hc=>⟨a,c,cell_below hc b⟩,h.rng.elim fun a ha=>ha.elim fun c hc=>⟨a,c,cell_below hc b⟩⟩
theorem below_bytesE (w : World) (e : TypeId) (s : ByteArray) : Below w.heap.size w (Lib.bytesWorld w e s):=by
  refine ⟨?_,?_,?_,?_,fun k hk=>Lib.bytesWorld_at_old w e s k hk⟩ <;> unfold Lib.bytesWorld World.freeze <;> simp [World.alloc,World.drew,-World.alloc_eq,-World.drew_eq]
theorem end_cases (x : Lib.NumEnd Int) : (∃ n,x = .ok n) ∨ x = .range ∨ x = Lib.atoiAll []:=by
  cases x <;> first | exact .inl ⟨_,rfl⟩ | exact .inr (.inl rfl) | exact .inr (.inr rfl)
def atoiP (s : ByteArray) (v : Int) (ev : Value) : Prop:=(Lib.atoiAll s.data.toList = .ok v ∧ ev = .nilIface) ∨ ((∀ n,Lib.atoiAll s.data.toList ≠ .ok n) ∧ ∃ t p,ev = .iface t p)
theorem atoi_calls (s : ByteArray) (hs : s.size ≤ 281474976710656) (w : World) (hE : Env w) :
    Calls Tryz.prog 176 #[.string s] w fun e w'=>∃ (v : Int) (ev : Value),e = .returned (.tuple #[.int .i64 v,ev]) ∧ atoiP s v ev ∧ Below w.heap.size w w':=by
  rcases end_cases (Lib.atoiAll s.data.toList) with ⟨n,h⟩ | h | h
  · refine (Tryz.strconv_Atoi_ok s (by omega) n h w).mono ?_
    rintro e w' ⟨rfl,hw⟩
    refine ⟨n,.nilIface,rfl,.inl ⟨h,rfl⟩,?_⟩
    rcases hw with rfl | ⟨t,rfl⟩
    · exact Below.refl _ _
    · exact below_bytesE _ _ _
  · obtain ⟨te,pe,hv⟩:=hE.rng
    refine (Tryz.strconv_Atoi_range s hs h _ w hv (.inr ⟨te,pe,rfl⟩)).mono ?_
    rintro e w' ⟨N,rfl,_,_,hb⟩
    exact ⟨_,_,rfl,.inr ⟨fun n hn=>(by rw [h] at hn;cases hn),_,_,rfl⟩,hb⟩
  · obtain ⟨te,pe,hv⟩:=hE.syn
    refine (Tryz.strconv_Atoi_syntax s hs h _ w hv (.inr ⟨te,pe,rfl⟩)).mono ?_
    rintro e w' ⟨N,rfl,_,_,hb⟩
    exact ⟨_,_,rfl,.inr ⟨fun n hn=>(by rw [h] at hn;cases hn),_,_,rfl⟩,hb⟩
def atoiO (s : ByteArray) : Option Int:=match Lib.atoiAll s.data.toList with | .ok n=>some n | _=>none
theorem atoi_ok (s : ByteArray) (hs : s.size ≤ 281474976710656) (v : Int) (h : atoiO s = some v) (w : World) (hE : Env w) :
    Calls Tryz.prog 176 #[.string s] w fun e w'=>e = .returned (.tuple #[.int .i64 v,.nilIface]) ∧ Below w.heap.size w w':=by
  refine (atoi_calls s hs w hE).mono ?_
  rintro e w' ⟨v',ev,rfl,hp,hb⟩
  rcases hp with ⟨h1,rfl⟩ | ⟨h1,_⟩
  · unfold atoiO at h;rw [h1] at h;cases h;exact ⟨rfl,hb⟩
  · unfold atoiO at h
    rcases end_cases (Lib.atoiAll s.data.toList) with ⟨n,h2⟩ | h2 | h2
    · exact absurd h2 (h1 n)
    · rw [h2] at h;cases h
    · rw [h2] at h;cases h
theorem atoi_no (s : ByteArray) (hs : s.size ≤ 281474976710656) (h : atoiO s = none) (w : World) (hE : Env w) :
    Calls Tryz.prog 176 #[.string s] w fun e w'=>∃ v t p,e = .returned (.tuple #[.int .i64 v,.iface t p]) ∧ Below w.heap.size w w':=by
  refine (atoi_calls s hs w hE).mono ?_
  rintro e w' ⟨v',ev,rfl,hp,hb⟩
  rcases hp with ⟨h1,rfl⟩ | ⟨h1,t,p,rfl⟩
  · unfold atoiO at h;rw [h1] at h;cases h
  · exact ⟨_,_,_,rfl,hb⟩
structure EnvE (w : World) : Prop where
  e : Env w
  err : ∃ te pe,w.cell? ⟨1,0,none⟩ = some (.iface te pe)
theorem EnvE.below {w w' : World} (h : EnvE w) (b : Below w.heap.size w w') : EnvE w':=
  ⟨h.e.below b,h.err.elim fun a ha=>ha.elim fun c hc=>⟨a,c,cell_below hc b⟩⟩
end Go.Proofs.YtgpolhlmedmloaaGreatDoor.P
namespace Go.Proofs.YtgpolhlmedmloaaGreatDoor.P
open Go Go.RowKit
set_option linter.unusedVariables false
theorem laid_iface {P : Program} {n nm : String} {d : DataW Unit} {r : List (String × DataW Unit)} {W : World} {g : Nat} {ti : TypeId} {ms : Array (String × TypeId)}
    (h : laidMet P ((n,.iface nm d) :: r) W) (hg : P.globalNamed n = some g) (ht : (P.globals[g]?).map (·.type) = some ti) (hi : P.underlying ti = some (.interface ms)) :
    ∃ u v,W.cell? ⟨g,0,none⟩ = some (.iface u v):=by
  obtain ⟨ps,⟨g0,t0,cs0,f0,p0,q0,hg0,ht0,hv0,hd0,_,e0⟩,_,hrows⟩:=h
  obtain rfl:=Option.some.inj (hg.symm.trans hg0)
  obtain rfl:=Option.some.inj (ht.symm.trans ht0)
  obtain ⟨f1,u,v,hc,_⟩:=iface_of_trod hi hd0
  refine ⟨u,v,?_⟩
  have:=World.var?_cell hg0 hv0 0
  rw [Array.eq_one_of_toList hc] at this
  simpa using this
theorem laid_one {P : Program} {L : List (String × DataW Unit)} {W : World} (h : laidMetH P L W) (n : String) {x : String × DataW Unit} (e : (L.filter fun x=>x.1 == n) = [x]) (hx : x.2.handleName?.isNone = true) : laidMet P [x] W:=by
  have h1:=h.filter (fun x=>x.1 == n)
  rw [e,MakeChecks.laidMetH_plain _ _ _ (by simp [hx])] at h1
  exact h1
theorem envT_of {L : List (String × DataW Unit)} {W : World} (h : laidMetH Tryz.prog L W)
    (e : (L.filter fun x => x.1 == "internal/strconv.uint64pow10") = [("internal/strconv.uint64pow10", Lib.tabData .u64 Lib.pow10Tab)]) : EnvT W :=
  ⟨Lib.tabIs_of_head (g:=4) (by kernel_rfl) (by kernel_rfl) Tryz.underlying236 Tryz.underlying219 (by kernel_rfl) (by kernel_rfl) (laid_one h _ e rfl)⟩
theorem env_of {L : List (String × DataW Unit)} {W : World} (h : laidMetH Tryz.prog L W) (hs : W.ShapedOpen Tryz.prog)
    (e : (L.filter fun x => x.1 == "internal/strconv.uint64pow10") = [("internal/strconv.uint64pow10", Lib.tabData .u64 Lib.pow10Tab)])
    (e1 : (L.filter fun x => x.1 == "strconv.ErrSyntax") = [("strconv.ErrSyntax", Rows.laid_strconv_ErrSyntax)])
    (e2 : (L.filter fun x => x.1 == "strconv.ErrRange") = [("strconv.ErrRange", Rows.laid_strconv_ErrRange)]) : Env W :=
  ⟨envT_of h e,cell_of_shapedOpen_int (zero:=#[.int .i64 0]) (t:=3) hs (of_decide_eq_true (by kernel_rfl)) (by kernel_rfl) rfl (by kernel_rfl) (by kernel_rfl) Tryz.underlying3,
   laid_iface (laid_one h _ e1 rfl) (by kernel_rfl) (by kernel_rfl) Tryz.underlying168,laid_iface (laid_one h _ e2 rfl) (by kernel_rfl) (by kernel_rfl) Tryz.underlying168⟩
theorem envE_of {L : List (String × DataW Unit)} {W : World} (h : laidMetH Tryz.prog L W) (hs : W.ShapedOpen Tryz.prog)
    (e : (L.filter fun x => x.1 == "internal/strconv.uint64pow10") = [("internal/strconv.uint64pow10", Lib.tabData .u64 Lib.pow10Tab)])
    (e1 : (L.filter fun x => x.1 == "strconv.ErrSyntax") = [("strconv.ErrSyntax", Rows.laid_strconv_ErrSyntax)])
    (e2 : (L.filter fun x => x.1 == "strconv.ErrRange") = [("strconv.ErrRange", Rows.laid_strconv_ErrRange)])
    (e3 : (L.filter fun x => x.1 == "loop.example/hatchway/impl.errEnd") = [("loop.example/hatchway/impl.errEnd", Rows.laid_loop_example_hatchway_impl_errEnd)]) : EnvE W :=
  ⟨env_of h hs e e1 e2,laid_iface (laid_one h _ e3 rfl) (by kernel_rfl) (by kernel_rfl) Tryz.underlying168⟩
theorem witness_laid {H : Type} {enc : TypeId × Value → H} {os : Os} {f : FuncId} {fn : Func} {s : OpenSpec} {conds : List PathCond} {apart : Bool} {laid : List (String × DataW Unit)} (args : Array Value)
    (hsh : ((World.laidAll Tryz.prog os laid).forCall (fun _ _=>0) ⟨#[],args,[]⟩).Shaped Tryz.prog)
    (hok : Input.okWideB Tryz.prog ((World.laidAll Tryz.prog os laid).forCall (fun _ _=>0) ⟨#[],args,[]⟩) f ⟨#[],args,[]⟩ = true)
    (hrow : s.preRow enc Tryz.prog fn conds apart laid ((World.laidAll Tryz.prog os laid).forCall (fun _ _=>0) ⟨#[],args,[]⟩).memory args) :
    ∃ (w : World) (tape : Tape) (i : Input),w.os = os ∧ (w.forCall tape i).Shaped Tryz.prog ∧ i.vars = [] ∧ Input.okWide Tryz.prog (w.forCall tape i) .any w.heap.size f i ∧
      s.preRow enc Tryz.prog fn conds apart laid (w.forCall tape i).memory i.args ∧ ({} : Assume).holds Tryz.prog (lone (Frame.enter Tryz.prog f i.args .normal) [] (w.forCall tape i)):=
  ⟨World.laidAll Tryz.prog os laid,fun _ _=>0,⟨#[],args,[]⟩,World.laidAll_os _ _ _,hsh,(Input.okWide_of_okWideB (base:=0) hok).1,(Input.okWide_of_okWideB hok).2,hrow,by simp [Assume.holds]⟩
end Go.Proofs.YtgpolhlmedmloaaGreatDoor.P
namespace Go.Proofs.YtgpolhlmedmloaaGreatDoor.P
open Go.Proofs.YtgpolhlmedmloaaGreatDoorUBoxN.PrintLast Go.Proofs.YtgpolhlmedmloaaGreatDoorUBoxN.PrintMore Go.Proofs.YtgpolhlmedmloaaGreatDoorUBoxN.PrintWords Go.RowKit
set_option linter.unusedVariables false
theorem bk {w W : World} {g : Nat} {o : Obj} (b : Aside0 (w.heap[g]? = some o)) (s : w.heap[g]? = some o → W.heap[g]? = some o:=by intro h;(with_reducible repeat (first | refine blk_drewN ?_ _ | refine blk_drew ?_ | refine blk_alloc ?_ _));exact h) : W.heap[g]? = some o:=s b.out
theorem bkL {w W : World} {g : Nat} {o : Obj} (b : Aside0 (w.heap[g]? = some o)) (s : w.heap[g]? = some o → W.heap[g]? = some o:=by intro h;(with_reducible repeat (first | refine blk_drewN ?_ _ | refine blk_drew ?_ | refine blk_alloc ?_ _));exact h) : g < W.heap.size:=blk_lt (s b.out)
theorem bkB {w W W' : World} {g : Nat} {o : Obj} (b : Aside0 (w.heap[g]? = some o)) (hb : Below W.heap.size W W') (s : w.heap[g]? = some o → W.heap[g]? = some o:=by intro h;(with_reducible repeat (first | refine blk_drewN ?_ _ | refine blk_drew ?_ | refine blk_alloc ?_ _));exact h) : Aside0 (W'.heap[g]? = some o):=⟨blk_below (s b.out) hb⟩
theorem bl {w W W' : World} {n : Nat} (b : Aside0 (Below n w W)) (s : Below n w W → Below n w W':=by intro h;repeat (first | (with_reducible first | exact h | apply below_alloc | apply pw_below_drewN | apply below_drew1 | refine below_set ?_ (Aside0.out (by with_reducible assumption))) | exact h)) : Below n w W':=s b.out
theorem rs {α : Type} {d : Kd α} {e : Nat} {w W : World} {base : Nat} {ok : Nat → Prop} {v : Value} {xs : List α} (b : Aside0 (Kd.R d e w base ok v xs)) (s : Kd.R d e w base ok v xs → Kd.R d e W base ok v xs:=by intro h;(with_reducible repeat (first | apply Kd.R_alloc | apply Kd.R_drewN | apply Kd.R_drew));exact h) : Kd.R d e W base ok v xs:=s b.out
class Up (w : outParam World) (W : World) : Prop where
  up : ∀ {g : Nat} {o : Obj},w.heap[g]? = some o → W.heap[g]? = some o
instance up_drew (w : World) : Up w w.drew:=⟨fun h=>blk_drew h⟩
instance up_drewN (w : World) (n : Nat) : Up w (w.drewN n):=⟨fun h=>blk_drewN h n⟩
instance up_alloc (w : World) (o : Obj) : Up w (w.alloc o):=⟨fun h=>blk_alloc h o⟩
theorem bu {w W : World} [u : Up w W] {g : Nat} {o : Obj} (h : w.heap[g]? = some o) : W.heap[g]? = some o:=u.up h
class UpR (w : outParam World) (W : World) : Prop where
  up : ∀ {α : Type} {d : Kd α} {e base : Nat} {ok : Nat → Prop} {v : Value} {xs : List α},Kd.R d e w base ok v xs → Kd.R d e W base ok v xs
instance upR_drew (w : World) : UpR w w.drew:=⟨fun h=>Kd.R_drew h⟩
instance upR_drewN (w : World) (n : Nat) : UpR w (w.drewN n):=⟨fun h=>Kd.R_drewN h n⟩
instance upR_alloc (w : World) (o : Obj) : UpR w (w.alloc o):=⟨fun h=>Kd.R_alloc h o⟩
theorem ru {w W : World} [u : UpR w W] {α : Type} {d : Kd α} {e base : Nat} {ok : Nat → Prop} {v : Value} {xs : List α} (h : Kd.R d e w base ok v xs) : Kd.R d e W base ok v xs:=u.up h
end Go.Proofs.YtgpolhlmedmloaaGreatDoor.P
namespace Go.Proofs.YtgpolhlmedmloaaGreatDoor.P
open Go.Proofs.YtgpolhlmedmloaaGreatDoorUBoxN.PrintWords Go.Proofs.YtgpolhlmedmloaaGreatDoorUBoxN.PrintLast Go.Proofs.YtgpolhlmedmloaaGreatDoorUBoxN.PrintMore
set_option linter.unusedVariables false
open Go.RowKit
theorem am {p : Prop} (h : p) : Aside0 p:=⟨h⟩
theorem bse {α β : Type} {o : Option α} {f : α → Option β} {r : β} (h : o.bind f = some r) : ∃ t,Aside0 (o = some t) ∧ f t = some r:=by obtain ⟨t,a,b⟩:=Option.bind_eq_some_iff.mp h;exact ⟨t,⟨a⟩,b⟩
theorem bfz {w : World} {g : Nat} {t : TypeId} {cs : Array Value} (b : Aside0 (w.heap[g]? = some (.cells cs t (0,0)))) (i : Nat) : w.frozen? ⟨g,i,none⟩ = false:=blk_frozen b.out i
theorem bf_ {w W : World} {g : Nat} {o : Obj} (b : Aside0 (w.heap[g]? = some o)) (s : w.heap[g]? = some o → W.heap[g]? = some o:=by intro h;repeat (first | (with_reducible refine bu ?_) | (refine blk_far ?_ (Aside0.out (by with_reducible assumption)) _) | exact h)) : Aside0 (W.heap[g]? = some o):=⟨s b.out⟩
theorem rcx {α : Type} {d : Kd α} {e base c n : Nat} {ok : Nat → Prop} {w W : World} {A : Option Addr} {xs : List α} (b : Aside0 (d.R e w base ok (.slice A n c) xs)) (s : d.C w A xs.length xs → d.C W A xs.length xs:=by intro h;repeat (first | exact h | (with_reducible refine Kd.C_alloc ?_ _) | (with_reducible refine Kd.C_drewN ?_ _) | (with_reducible refine Kd.C_drew ?_))) : d.C W A xs.length xs:=s (Kd.R_reads' b.out).2.2
def bm (n k : Nat) : Array Bool:=((List.range n).map fun i=>k.testBit i).toArray
theorem fi_ {p : Prop} (h : p:=by first | rfl | (simp [errW_none,errW_some] <;> rfl) | (simp [*,errW_none,errW_some] <;> rfl)) : p:=h
theorem hr_ {p : Prop} (h : p:=by first | (go_simp;done) | (go_simp;rfl)) : p:=h
theorem gwE {w W W' : World} {g : Nat} (b : Aside0 (Below w.heap.size w W)) (hg : g = W'.heap.size) (s : Below w.heap.size w W → Below w.heap.size w W':=by intro h;repeat (first | (with_reducible first | exact h | apply below_alloc | apply pw_below_drewN | apply below_drew1 | refine below_set ?_ (Aside0.out (by with_reducible assumption))) | exact h)) : Aside0 (w.heap.size ≤ g):=⟨hg ▸ below_size (s b.out)⟩
theorem hbS {w W W' W2 : World} (b : Aside0 (Below w.heap.size w W)) (hb : Below W'.heap.size W' W2) (s : Below w.heap.size w W → Below w.heap.size w W':=by intro h;repeat (first | (with_reducible first | exact h | apply below_alloc | apply pw_below_drewN | apply below_drew1 | refine below_set ?_ (Aside0.out (by with_reducible assumption))) | exact h)) : Aside0 (Below w.heap.size w W2):=⟨below_step (s b.out) hb⟩
theorem neL {w W : World} {g g' : Nat} {o : Obj} (b : Aside0 (w.heap[g]? = some o)) (hg : g' = W.heap.size) (s : w.heap[g]? = some o → W.heap[g]? = some o:=by intro h;(with_reducible repeat (first | refine blk_drewN ?_ _ | refine blk_drew ?_ | refine blk_alloc ?_ _));exact h) : Aside0 (g ≠ g'):=⟨hg ▸ Nat.ne_of_lt (blk_lt (s b.out))⟩
theorem neG {w W : World} {g g' : Nat} {o : Obj} (b : Aside0 (w.heap[g]? = some o)) (hg : g' = W.heap.size) (s : w.heap[g]? = some o → W.heap[g]? = some o:=by intro h;(with_reducible repeat (first | refine blk_drewN ?_ _ | refine blk_drew ?_ | refine blk_alloc ?_ _));exact h) : Aside0 (g' ≠ g):=⟨hg ▸ Nat.ne_of_gt (blk_lt (s b.out))⟩
theorem bcell {w : World} {g : Nat} {cs : Array Value} {t : TypeId} (b : Aside0 (w.heap[g]? = some (.cells cs t (0,0)))) (i : Nat) {v : Value} (h : cs.toList[i]? = some v:=by exact rfl) : w.cell? ⟨g,i,none⟩ = some v:=(blk_cell b.out i).trans (by rw [← Array.getElem?_toList];exact h)
theorem gL {P : Program} {ops : Array Oper} {rest : List Oper} {Q : Exit → Act → World → Prop} {oi : Oper} {a : Act} {w : World} (N : Option Tmp) {f : FuncId} {fn : Func} {ar : Array Operand} {ts : Array TypeId} (hf : P.funcs[f]? = some fn) (args : Array Value)
    (h : Calls P f args w fun e w'=>∃ v,e = .returned v ∧ wpList P ops Q rest (a.put N v) w')
    (hd : oi.dst = N := by exact rfl) (hg : oi.guard = none := by exact rfl) (hname : (fn.name == "runtime.NumGoroutine") = false := by kernel_rfl) (hb : fn.body.isSome = true := by exact rfl)
    (hop : oi.op = .call { callee:=.value (.func f),args:=ar,argTypes:=ts }:=by exact rfl) (hargs : ar.map a.eval = args:=by (try simp only [List.map_toArray,List.map_cons,List.map_nil]);first | done | rfl | (simp only [List.length_drop,List.length_take];rfl)) :
    wpList P ops Q (oi :: rest) a w:=goesL_ N hd hg hf hname hb args hop hargs h
theorem gR {P : Program} {ops : Array Oper} {Q : Exit → Act → World → Prop} {oi : Oper} {N : Option Tmp} {a : Act} {w : World} {K : Act → World → Prop} {f : FuncId} {fn : Func} {ar : Array Operand} {ts : Array TypeId} (hf : P.funcs[f]? = some fn) (args : Array Value)
    (h : Calls P f args w fun e w'=>∃ v,e = .returned v ∧ K (a.put N v) w')
    (hname : (fn.name == "runtime.NumGoroutine") = false := by kernel_rfl) (hb : fn.body.isSome = true := by exact rfl) (hw : Region.wanted oi (yielded ops a.tmps) = true := by rfl) (hN : oi.dst = N := by exact rfl)
    (hop : oi.op = .call { callee:=.value (.func f),args:=ar,argTypes:=ts }:=by exact rfl) (hargs : ar.map a.eval = args:=by (try simp only [List.map_toArray,List.map_cons,List.map_nil]);first | done | rfl | (simp only [List.length_drop,List.length_take];rfl)) :
    if Region.wanted oi (yielded ops a.tmps) = true then Oper.wp P oi a w K Q else K (a.put N undef) w:=goes_ hf hname hb args hw hN hop hargs h
theorem bcl {w W : World} (b : Aside0 (Below w.heap.size w W)) {a : Addr} {v : Value} (h : w.cell? a = some v) : W.cell? a = some v:=(b.out.cell (World.block_lt_of_cell? w _ h)).trans h
theorem bch {w W : World} (b : Below w.heap.size w W) {a : Addr} {v : Value} (h : w.cell? a = some v) : W.cell? a = some v:=(b.cell (World.block_lt_of_cell? w _ h)).trans h
theorem da_ {p : Prop} (h : p:=by first | (with_reducible assumption) | assumption) : p:=h
theorem isE_ne (l : List UInt8) : l.isEmpty = !(l != []):=by cases l <;> rfl
theorem rs_ {p : Prop} (h : p:=by first | rfl | (simp;done) | (simp [*];done) | (simp;exact isE_ne _)) : p:=h
section
variable {P : Program} {ops : Array Oper} {Q : Exit → Act → World → Prop} {md : Region.Mode} {S : World → Prop} {ds : List Nat} {oi : Oper} {v : Value} {fuel : Nat} {l : Array Bool} {a a' : Act} {w : World}
theorem pu_ (i : Nat) (N : Option Tmp) (l' : Array Bool) (h : wpAnyLast P md ops Q S ds fuel l' a' w) (hi : ops[i]? = some oi:=by exact rfl) (hN : oi.dst = N:=by exact rfl)
    (hc : anyB md ops l l' i = true:=by first | exact any_of HT_.out (by kernel_rfl) | kernel_rfl) (hQ : ∀ c a w,Q (.panic c) (a.put oi.dst v) w → Q (.panic c) a w:=by exact fun _ _ _ h=>h)
    (hy : Yields P ops oi v a:=by (refine Or.inl ⟨by rfl,?_⟩;intro w';go_simp;with_reducible rfl)) (ha : a.put N v = a':=by (simp only [Act.put,List.setIfInBounds_toArray,List.set_cons_zero,List.set_cons_succ,i64_w,i32_w];rfl)) :
    wpAnyLast P md ops Q S ds (fuel + 1) l a w:=pure_ l' hi hN hc hQ hy ha h
theorem pv_ (i : Nat) (N : Option Tmp) (l' : Array Bool) (h : wpAnyLast P md ops Q S ds fuel l' a' w) (hi : ops[i]? = some oi:=by exact rfl) (hN : oi.dst = N:=by exact rfl)
    (hc : anyB md ops l l' i = true:=by first | exact any_of HT_.out (by kernel_rfl) | kernel_rfl) (hQ : ∀ c a w,Q (.panic c) (a.put oi.dst undef) w → Q (.panic c) a w:=by exact fun _ _ _ h=>h)
    (hy : Yields P ops oi undef a:=by exact Or.inr ⟨by rfl,rfl⟩) (ha : a.put N undef = a':=by (simp only [Act.put,List.setIfInBounds_toArray,List.set_cons_zero,List.set_cons_succ,i64_w,i32_w];rfl)) :
    wpAnyLast P md ops Q S ds (fuel + 1) l a w:=pure_ l' hi hN hc hQ hy ha h
theorem tk_ (i : Nat) (N : Option Tmp) (l' : Array Bool) (hi : ops[i]? = some oi) (hy : YieldsIf P ops S oi v a) (h : wpAnyLast P md ops Q S ds fuel l' a' w) (hN : oi.dst = N:=by exact rfl)
    (hc : takeB md ops ds l l' i = true:=by first | exact take_ofW HT_.out HW_.out (by kernel_rfl) | kernel_rfl) (hQ : ∀ c a w,Q (.panic c) (a.put oi.dst v) w → Q (.panic c) a w:=by exact fun _ _ _ h=>h)
    (hS : S w:=by exact hHeld) (ha : a.put N v = a':=by (simp only [Act.put,List.setIfInBounds_toArray,List.set_cons_zero,List.set_cons_succ,i64_w,i32_w];rfl)) :
    wpAnyLast P md ops Q S ds (fuel + 1) l a w:=take_ l' hi hN hc hQ hy hS ha h
theorem nm_ (h : wpAnyLast P md ops Q S ds fuel l a' w) (ha : a = a':=by (show Act.put _ (some _) _ = _;simp only [Act.put,List.setIfInBounds_toArray,List.set_cons_zero,List.set_cons_succ,i64_w,i32_w];rfl)) : wpAnyLast P md ops Q S ds fuel l a w:=norm_ ha h
theorem on_ (i : Nat) (N : Option Tmp) (l' : Array Bool)
    (h : ∀ K : Act → World → Prop,Shut (∀ a' w',S w' → (S w' → wpAnyLast P md ops Q S ds fuel l' a' w') → K a' w') → if Region.wanted oi (yielded ops a.tmps) = true then Oper.wp P oi a w K Q else K (a.put N undef) w)
    (hi : ops[i]? = some oi:=by exact rfl) (hN : oi.dst = N:=by exact rfl) (hc : readyB md ops l l' i = true:=by exact one_of HT_.out (by kernel_rfl)) (hd : i ∉ ds:=by decide) :
    wpAnyLast P md ops Q S ds (fuel + 1) l a w:=one_ l' hi hN hc hd h
end
theorem m0_ {p : Prop} (h : p:=by repeat (first | (with_reducible first | exact HB.out | apply below_alloc | apply pw_below_drewN | apply below_drew1) | exact HB.out)) : p:=h
theorem m1_ {p : Prop} (h : p:=by repeat (first | (with_reducible first | exact HI201.out | apply IsS131.alloc | apply IsS131.drewN | apply IsS131.drew | apply IsS131.set_1) | exact HI201.out)) : p:=h
theorem m2_ {p : Prop} (h : p:=by repeat (first | (with_reducible first | exact HB.out | apply below_alloc | apply pw_below_drewN | apply below_drew1 | refine below_set ?_ (IsS131.ge HI201.out)) | exact HB.out)) : p:=h
theorem m3_ {p : Prop} (h : p:=by repeat (first | exact (Kd.C_below HR0.out HB.out) | (with_reducible refine Kd.C_alloc ?_ _) | (with_reducible refine Kd.C_drewN ?_ _) | (with_reducible refine Kd.C_drew ?_))) : p:=h
theorem m4_ {p : Prop} (h : p:=by repeat (first | (with_reducible first | exact HB.out | apply below_alloc | apply pw_below_drewN | apply below_drew1 | refine below_set ?_ (Aside0.out (by with_reducible assumption))) | exact HB.out)) : p:=h
theorem m5_ {p : Prop} (h : p:=by repeat (first | exact (Kd.C_below HR0_0.out HB.out) | (with_reducible refine Kd.C_alloc ?_ _) | (with_reducible refine Kd.C_drewN ?_ _) | (with_reducible refine Kd.C_drew ?_))) : p:=h
theorem m6_ {p : Prop} (h : p:=by (rintro w' ⟨s0,s1,s2⟩;go_simp;with_reducible rfl)) : p:=h
theorem m7_ {p : Prop} (h : p:=by (rintro w' ⟨s0,s1⟩;go_simp;with_reducible rfl)) : p:=h
theorem m9_ {p : Prop} (h : p:=by repeat (first | exact (Kd.C_below HR0_1.out HB.out) | (with_reducible refine Kd.C_alloc ?_ _) | (with_reducible refine Kd.C_drewN ?_ _) | (with_reducible refine Kd.C_drew ?_))) : p:=h
theorem m10_ {p : Prop} (h : p:=by repeat (first | exact (Kd.C_below HR1_1.out HB.out) | (with_reducible refine Kd.C_alloc ?_ _) | (with_reducible refine Kd.C_drewN ?_ _) | (with_reducible refine Kd.C_drew ?_))) : p:=h
theorem m11_ {p : Prop} (h : p:=by repeat (first | exact (Kd.C_below HR0_0.out (bl HB)) | (with_reducible refine Kd.C_alloc ?_ _) | (with_reducible refine Kd.C_drewN ?_ _) | (with_reducible refine Kd.C_drew ?_))) : p:=h
theorem m12_ {p : Prop} (h : p:=by repeat (first | exact (Kd.C_below HR1_0.out (bl HB)) | (with_reducible refine Kd.C_alloc ?_ _) | (with_reducible refine Kd.C_drewN ?_ _) | (with_reducible refine Kd.C_drew ?_))) : p:=h
theorem m14_ {p : Prop} (h : p:=by repeat (first | (with_reducible first | exact HB.out | apply below_alloc | apply pw_below_drewN | apply below_drew1 | refine below_set ?_ (IsS131.ge HI0.out)) | exact HB.out)) : p:=h
theorem m15_ {p : Prop} (h : p:=by repeat (first | (with_reducible first | exact HK.out | apply KeepBut.set_ | apply keep_drewN | apply keep_drew | apply keep_alloc) | exact HK.out)) : p:=h
theorem m16_ {p : Prop} (h : p:=by repeat (first | (with_reducible first | exact HI0.out | apply IsS131.alloc | apply IsS131.drewN | apply IsS131.drew | apply IsS131.set_1) | exact HI0.out)) : p:=h
theorem m17_ {p : Prop} (h : p:=by repeat (first | (with_reducible first | exact HI0.out | apply IsS131.alloc | apply IsS131.drewN | apply IsS131.drew | apply IsS131.set_1 | refine IsS131.far ?_ (Aside0.out (by with_reducible assumption)) _) | exact HI0.out)) : p:=h
theorem m18_ {p : Prop} (h : p:=by repeat (first | (with_reducible first | exact HB.out | apply below_alloc | apply pw_below_drewN | apply below_drew1 | refine below_set ?_ (IsS131.ge HI0.out) | refine below_set ?_ (Aside0.out (by with_reducible assumption))) | exact HB.out)) : p:=h
theorem m19_ {p : Prop} (h : p:=by repeat (first | (with_reducible first | exact HK.out | apply KeepBut.set_ | apply keep_drewN | apply keep_drew | apply keep_alloc | refine keep_far (w:=w) ?_ (Aside0.out (by with_reducible assumption)) _) | exact HK.out)) : p:=h
theorem m21_ {p : Prop} (h : p:=by repeat (first | exact (Kd.C_below HR0_2.out HB.out) | (with_reducible refine Kd.C_alloc ?_ _) | (with_reducible refine Kd.C_drewN ?_ _) | (with_reducible refine Kd.C_drew ?_))) : p:=h
theorem m23_ {p : Prop} (h : p:=by (rintro w' ⟨s0,s1,s2,s3,s4,s5,s6⟩;go_simp;with_reducible rfl)) : p:=h
theorem m31_ {p : Prop} (h : p:=by repeat (first | exact (Kd.C_below HR1_0.out HB.out) | (with_reducible refine Kd.C_alloc ?_ _) | (with_reducible refine Kd.C_drewN ?_ _) | (with_reducible refine Kd.C_drew ?_))) : p:=h
theorem m36_ {p : Prop} (h : p:=by repeat (first | exact HR0.out | (with_reducible refine Kd.C_alloc ?_ _) | (with_reducible refine Kd.C_drewN ?_ _) | (with_reducible refine Kd.C_drew ?_))) : p:=h
theorem m48_ {p : Prop} (h : p:=by repeat (first | (with_reducible first | exact HBW.out | apply below_alloc | apply pw_below_drewN | apply below_drew1) | exact HBW.out)) : p:=h
theorem m49_ {p : Prop} (h : p:=by repeat (first | (with_reducible first | exact HBW.out | apply below_alloc | apply pw_below_drewN | apply below_drew1 | refine below_set ?_ (Aside0.out (by with_reducible assumption))) | exact HBW.out)) : p:=h
theorem m50_ {p : Prop} (h : p:=by repeat (first | exact (Kd.C_below HR256.out HB.out) | (with_reducible refine Kd.C_alloc ?_ _) | (with_reducible refine Kd.C_drewN ?_ _) | (with_reducible refine Kd.C_drew ?_))) : p:=h
theorem nft_ : ¬ (false = true):=by decide
theorem gC {P : Program} {ops : Array Oper} {Q : Exit → Act → World → Prop} {o : Oper} {rest : List Oper} {a : Act} {W : World} (f : FuncId) {aa : Array Operand} {ts : Array TypeId} (_ho : o.op = .call { callee:=.value (.func f),args:=aa,argTypes:=ts }) (h : wpList P ops Q (o :: rest) a W) : wpList P ops Q (o :: rest) a W:=h
theorem gD {P : Program} {ops : Array Oper} {Q : Exit → Act → World → Prop} {o : Oper} {rest : List Oper} {a : Act} {W : World} (N : Tmp) (_hN : o.dst = some N) (h : wpList P ops Q (o :: rest) a W) : wpList P ops Q (o :: rest) a W:=h
theorem fr_ {p : Prop} (h : p:=by first | rfl | (simp;done) | (simp [*];done)) : p:=h
theorem dn_ {v w : World} (h : Drawn0 v w:=by repeat (first | exact Drawn0.refl _ | apply Drawn0.step)) : Drawn0 v w:=h
theorem cf1 {w : World} {g : Nat} {t : TypeId} {c0 : Value} (b : Aside0 (w.heap[g]? = some (.cells #[c0] t (0,0)))) : w.cell? ⟨g,0,none⟩ = some c0 ∧ w.frozen? ⟨g,0,none⟩ = false:=⟨bcell b 0,bfz b 0⟩
theorem cc2 {w : World} {g : Nat} {t : TypeId} {c0 c1 : Value} (b : Aside0 (w.heap[g]? = some (.cells #[c0,c1] t (0,0)))) : w.cell? ⟨g,0,none⟩ = some c0 ∧ w.cell? ⟨g,1,none⟩ = some c1:=⟨bcell b 0,bcell b 1⟩
theorem cf2 {w : World} {g : Nat} {t : TypeId} {c0 c1 : Value} (b : Aside0 (w.heap[g]? = some (.cells #[c0,c1] t (0,0)))) : w.cell? ⟨g,0,none⟩ = some c0 ∧ w.cell? ⟨g,1,none⟩ = some c1 ∧ w.frozen? ⟨g,0,none⟩ = false ∧ w.frozen? ⟨g,1,none⟩ = false:=⟨bcell b 0,bcell b 1,bfz b 0,bfz b 1⟩
theorem cc3 {w : World} {g : Nat} {t : TypeId} {c0 c1 c2 : Value} (b : Aside0 (w.heap[g]? = some (.cells #[c0,c1,c2] t (0,0)))) : w.cell? ⟨g,0,none⟩ = some c0 ∧ w.cell? ⟨g,1,none⟩ = some c1 ∧ w.cell? ⟨g,2,none⟩ = some c2:=⟨bcell b 0,bcell b 1,bcell b 2⟩
theorem cf3 {w : World} {g : Nat} {t : TypeId} {c0 c1 c2 : Value} (b : Aside0 (w.heap[g]? = some (.cells #[c0,c1,c2] t (0,0)))) : w.cell? ⟨g,0,none⟩ = some c0 ∧ w.cell? ⟨g,1,none⟩ = some c1 ∧ w.cell? ⟨g,2,none⟩ = some c2 ∧ w.frozen? ⟨g,0,none⟩ = false ∧ w.frozen? ⟨g,1,none⟩ = false ∧ w.frozen? ⟨g,2,none⟩ = false:=⟨bcell b 0,bcell b 1,bcell b 2,bfz b 0,bfz b 1,bfz b 2⟩
theorem cc4 {w : World} {g : Nat} {t : TypeId} {c0 c1 c2 c3 : Value} (b : Aside0 (w.heap[g]? = some (.cells #[c0,c1,c2,c3] t (0,0)))) : w.cell? ⟨g,0,none⟩ = some c0 ∧ w.cell? ⟨g,1,none⟩ = some c1 ∧ w.cell? ⟨g,2,none⟩ = some c2 ∧ w.cell? ⟨g,3,none⟩ = some c3:=⟨bcell b 0,bcell b 1,bcell b 2,bcell b 3⟩
theorem cf4 {w : World} {g : Nat} {t : TypeId} {c0 c1 c2 c3 : Value} (b : Aside0 (w.heap[g]? = some (.cells #[c0,c1,c2,c3] t (0,0)))) : w.cell? ⟨g,0,none⟩ = some c0 ∧ w.cell? ⟨g,1,none⟩ = some c1 ∧ w.cell? ⟨g,2,none⟩ = some c2 ∧ w.cell? ⟨g,3,none⟩ = some c3 ∧ w.frozen? ⟨g,0,none⟩ = false ∧ w.frozen? ⟨g,1,none⟩ = false ∧ w.frozen? ⟨g,2,none⟩ = false ∧ w.frozen? ⟨g,3,none⟩ = false:=⟨bcell b 0,bcell b 1,bcell b 2,bcell b 3,bfz b 0,bfz b 1,bfz b 2,bfz b 3⟩
theorem cc5 {w : World} {g : Nat} {t : TypeId} {c0 c1 c2 c3 c4 : Value} (b : Aside0 (w.heap[g]? = some (.cells #[c0,c1,c2,c3,c4] t (0,0)))) : w.cell? ⟨g,0,none⟩ = some c0 ∧ w.cell? ⟨g,1,none⟩ = some c1 ∧ w.cell? ⟨g,2,none⟩ = some c2 ∧ w.cell? ⟨g,3,none⟩ = some c3 ∧ w.cell? ⟨g,4,none⟩ = some c4:=⟨bcell b 0,bcell b 1,bcell b 2,bcell b 3,bcell b 4⟩
theorem cf5 {w : World} {g : Nat} {t : TypeId} {c0 c1 c2 c3 c4 : Value} (b : Aside0 (w.heap[g]? = some (.cells #[c0,c1,c2,c3,c4] t (0,0)))) : w.cell? ⟨g,0,none⟩ = some c0 ∧ w.cell? ⟨g,1,none⟩ = some c1 ∧ w.cell? ⟨g,2,none⟩ = some c2 ∧ w.cell? ⟨g,3,none⟩ = some c3 ∧ w.cell? ⟨g,4,none⟩ = some c4 ∧ w.frozen? ⟨g,0,none⟩ = false ∧ w.frozen? ⟨g,1,none⟩ = false ∧ w.frozen? ⟨g,2,none⟩ = false ∧ w.frozen? ⟨g,3,none⟩ = false ∧ w.frozen? ⟨g,4,none⟩ = false:=⟨bcell b 0,bcell b 1,bcell b 2,bcell b 3,bcell b 4,bfz b 0,bfz b 1,bfz b 2,bfz b 3,bfz b 4⟩
theorem cc6 {w : World} {g : Nat} {t : TypeId} {c0 c1 c2 c3 c4 c5 : Value} (b : Aside0 (w.heap[g]? = some (.cells #[c0,c1,c2,c3,c4,c5] t (0,0)))) : w.cell? ⟨g,0,none⟩ = some c0 ∧ w.cell? ⟨g,1,none⟩ = some c1 ∧ w.cell? ⟨g,2,none⟩ = some c2 ∧ w.cell? ⟨g,3,none⟩ = some c3 ∧ w.cell? ⟨g,4,none⟩ = some c4 ∧ w.cell? ⟨g,5,none⟩ = some c5:=⟨bcell b 0,bcell b 1,bcell b 2,bcell b 3,bcell b 4,bcell b 5⟩
theorem cf6 {w : World} {g : Nat} {t : TypeId} {c0 c1 c2 c3 c4 c5 : Value} (b : Aside0 (w.heap[g]? = some (.cells #[c0,c1,c2,c3,c4,c5] t (0,0)))) : w.cell? ⟨g,0,none⟩ = some c0 ∧ w.cell? ⟨g,1,none⟩ = some c1 ∧ w.cell? ⟨g,2,none⟩ = some c2 ∧ w.cell? ⟨g,3,none⟩ = some c3 ∧ w.cell? ⟨g,4,none⟩ = some c4 ∧ w.cell? ⟨g,5,none⟩ = some c5 ∧ w.frozen? ⟨g,0,none⟩ = false ∧ w.frozen? ⟨g,1,none⟩ = false ∧ w.frozen? ⟨g,2,none⟩ = false ∧ w.frozen? ⟨g,3,none⟩ = false ∧ w.frozen? ⟨g,4,none⟩ = false ∧ w.frozen? ⟨g,5,none⟩ = false:=⟨bcell b 0,bcell b 1,bcell b 2,bcell b 3,bcell b 4,bcell b 5,bfz b 0,bfz b 1,bfz b 2,bfz b 3,bfz b 4,bfz b 5⟩
theorem cc7 {w : World} {g : Nat} {t : TypeId} {c0 c1 c2 c3 c4 c5 c6 : Value} (b : Aside0 (w.heap[g]? = some (.cells #[c0,c1,c2,c3,c4,c5,c6] t (0,0)))) : w.cell? ⟨g,0,none⟩ = some c0 ∧ w.cell? ⟨g,1,none⟩ = some c1 ∧ w.cell? ⟨g,2,none⟩ = some c2 ∧ w.cell? ⟨g,3,none⟩ = some c3 ∧ w.cell? ⟨g,4,none⟩ = some c4 ∧ w.cell? ⟨g,5,none⟩ = some c5 ∧ w.cell? ⟨g,6,none⟩ = some c6:=⟨bcell b 0,bcell b 1,bcell b 2,bcell b 3,bcell b 4,bcell b 5,bcell b 6⟩
theorem cf7 {w : World} {g : Nat} {t : TypeId} {c0 c1 c2 c3 c4 c5 c6 : Value} (b : Aside0 (w.heap[g]? = some (.cells #[c0,c1,c2,c3,c4,c5,c6] t (0,0)))) : w.cell? ⟨g,0,none⟩ = some c0 ∧ w.cell? ⟨g,1,none⟩ = some c1 ∧ w.cell? ⟨g,2,none⟩ = some c2 ∧ w.cell? ⟨g,3,none⟩ = some c3 ∧ w.cell? ⟨g,4,none⟩ = some c4 ∧ w.cell? ⟨g,5,none⟩ = some c5 ∧ w.cell? ⟨g,6,none⟩ = some c6 ∧ w.frozen? ⟨g,0,none⟩ = false ∧ w.frozen? ⟨g,1,none⟩ = false ∧ w.frozen? ⟨g,2,none⟩ = false ∧ w.frozen? ⟨g,3,none⟩ = false ∧ w.frozen? ⟨g,4,none⟩ = false ∧ w.frozen? ⟨g,5,none⟩ = false ∧ w.frozen? ⟨g,6,none⟩ = false:=⟨bcell b 0,bcell b 1,bcell b 2,bcell b 3,bcell b 4,bcell b 5,bcell b 6,bfz b 0,bfz b 1,bfz b 2,bfz b 3,bfz b 4,bfz b 5,bfz b 6⟩
end Go.Proofs.YtgpolhlmedmloaaGreatDoor.P
namespace Go.Proofs.YtgpolhlmedmloaaGreatDoor.P
open Go.Proofs.YtgpolhlmedmloaaGreatDoorUBoxN.PrintLast Go.Proofs.YtgpolhlmedmloaaGreatDoorUBoxN.PrintMore Go.Proofs.YtgpolhlmedmloaaGreatDoorUBoxN.PrintWords Go.RowKit
set_option linter.unusedVariables false
set_option linter.unusedSimpArgs false
section
attribute [local go_sem] max2_int min2_int max_two min_two max_three min_three max_four min_four
def IsS131 (w0 W : World) (g : Nat) (f0 : List Int) (f1 : Int) : Prop:=∃ A0 c0,W.heap[g]? = some (.cells #[.slice A0 f0.length c0,.int .i64 f1] 131 (0,0)) ∧ w0.heap.size ≤ g ∧ Kd.C (Kd.int .u8) w0 A0 f0.length f0
theorem IsS131.grown {w0 W : World} {g : Nat} {f0 : List Int} {f1 : Int} {W1 : World} {row : Option Nat} (h : IsS131 w0 W g f0 f1) (hw : W.grownBy W1 row) (hne : some g ≠ row) : IsS131 w0 W1 g f0 f1:=by
 obtain ⟨A0,c0,hb,hg,hr0⟩:=h;exact ⟨A0,c0,blk_grown hb hw hne,hg,hr0⟩
theorem IsS131.kept {w0 W : World} {g : Nat} {f0 : List Int} {f1 : Int} {W1 : World} {S : Nat → Prop} (h : IsS131 w0 W g f0 f1) (hk : Kept W W1 S) (hne : ¬ S g) : IsS131 w0 W1 g f0 f1:=by
 obtain ⟨A0,c0,hb,hg,hr0⟩:=h;exact ⟨A0,c0,blk_kept hb hk hne,hg,hr0⟩
theorem IsS131.below {w0 W : World} {g : Nat} {f0 : List Int} {f1 : Int} {W1 : World} (h : IsS131 w0 W g f0 f1) (hw : Below W.heap.size W W1) : IsS131 w0 W1 g f0 f1:=h.grown (grown_of_below hw none) (by simp)
theorem IsS131.alloc {w0 W : World} {g : Nat} {f0 : List Int} {f1 : Int} (h : IsS131 w0 W g f0 f1) (o : Obj) : IsS131 w0 (W.alloc o) g f0 f1:=h.below (below_alloc (Below.refl _ _) o)
theorem IsS131.drewN {w0 W : World} {g : Nat} {f0 : List Int} {f1 : Int} (h : IsS131 w0 W g f0 f1) (m : Nat) : IsS131 w0 (W.drewN m) g f0 f1:=h
theorem IsS131.drew {w0 W : World} {g : Nat} {f0 : List Int} {f1 : Int} (h : IsS131 w0 W g f0 f1) : IsS131 w0 W.drew g f0 f1:=h
theorem IsS131.at_ {w0 W : World} {g : Nat} {f0 : List Int} {f1 : Int} {w' : World} {m : Nat} (hq : W.drewN m = w') (h : IsS131 w0 W g f0 f1) : IsS131 w0 w' g f0 f1:=by subst hq;exact IsS131.drewN h m
theorem IsS131.apart {w0 W : World} {g : Nat} {f0 : List Int} {f1 : Int} {α : Type} {d : Kd α} {e : Nat} {base : Nat} {ok : Nat → Prop} {v : Value} {xs : List α} (h : IsS131 w0 W g f0 f1) (ho : d.R e W base ok v xs) (ht : ∀ q,q ∈ e :: d.E → q ≠ 131) : d.R e W base (fun k=>ok k ∧ k ≠ g) v xs:=by
 obtain ⟨A0,c0,hb,hg,hr0⟩:=h;exact Kd.R_types ho hb ht
theorem IsS131.own_ne {w0 W : World} {g : Nat} {f0 : List Int} {f1 : Int} {α : Type} {d : Kd α} {e : Nat} {base : Nat} {ok : Nat → Prop} {v : Value} {xs : List α} (h : IsS131 w0 W g f0 f1) (ho : d.R e W base ok v xs) (ht : e ≠ 131) : some g ≠ v.ownBlock:=by
 obtain ⟨A0,c0,hb,hg,hr0⟩:=h;exact Kd.R_ne ho hb ht
theorem IsS131.lt {w0 W : World} {g : Nat} {f0 : List Int} {f1 : Int} (h : IsS131 w0 W g f0 f1) : g < W.heap.size:=by
 obtain ⟨A0,c0,hb,hg,hr0⟩:=h;exact blk_lt hb
theorem IsS131.ge {w0 W : World} {g : Nat} {f0 : List Int} {f1 : Int} (h : IsS131 w0 W g f0 f1) : w0.heap.size ≤ g:=by
 obtain ⟨A0,c0,hb,hg,hr0⟩:=h;exact hg
theorem IsS131.far {w0 W : World} {g : Nat} {f0 : List Int} {f1 : Int} {p : Addr} (h : IsS131 w0 W g f0 f1) (hne : g ≠ p.block) (u : Value) : IsS131 w0 (W.setCell p u) g f0 f1:=by
 obtain ⟨A0,c0,hb,hg,hr0⟩:=h;exact ⟨A0,c0,blk_far hb hne u,hg,hr0⟩
theorem cellS131_0 {W : World} {g : Nat} {A0 : Option Addr} {c0 : Nat} {f0 : List Int} {f1 : Int} (h : W.heap[g]? = some (.cells #[.slice A0 f0.length c0,.int .i64 f1] 131 (0,0))) : W.cell? ⟨g,0,none⟩ = some (.slice A0 f0.length c0):=(blk_cell h 0).trans rfl
theorem cellS131_1 {W : World} {g : Nat} {A0 : Option Addr} {c0 : Nat} {f0 : List Int} {f1 : Int} (h : W.heap[g]? = some (.cells #[.slice A0 f0.length c0,.int .i64 f1] 131 (0,0))) : W.cell? ⟨g,1,none⟩ = some (.int .i64 f1):=(blk_cell h 1).trans rfl
theorem IsS131.set_1 {w0 W : World} {g : Nat} {f0 : List Int} {f1 : Int} (h : IsS131 w0 W g f0 f1) (x : Int) : IsS131 w0 (W.setCell ⟨g,1,none⟩ (.int .i64 x)) g f0 x:=by
 obtain ⟨A0,c0,hb,hg,hr0⟩:=h;exact ⟨A0,c0,by simpa using blk_set hb 1 (.int .i64 x),hg,hr0⟩
theorem IsS131.new (w0 W : World) (A0 : Option Addr) (c0 : Nat) (f0 : List Int) (f1 : Int) (hB : Below w0.heap.size w0 W) (hr0 : Kd.C (Kd.int .u8) w0 A0 f0.length f0) : IsS131 w0 (W.alloc (.cells #[.slice A0 f0.length c0,.int .i64 f1] 131)) W.heap.size f0 f1:=⟨A0,c0,by simpa using heap_alloc_new W _,hB.size,hr0⟩
def spec_l20Rd_pick.j0 : Nat → Int → Bool → List Int → Int → Option (Int × Int)
 | 0,_,_,_,_=>none
 | k + 1,x1,x24,x1000,x1001=>if x24 = true then (some (0,x1001)) else (if (wrap64 (x1001 - 1)) < (x1000.length : Int) then (if 0 ≤ (wrap64 (x1001 - 1)) then (if x1 = 0 then (none) else (some (Int.tmod (wrap64 (rd x1000 (wrap64 (x1001 - 1)))) x1,x1001))) else (none)) else (if (x1000.length : Int) = 0 then (none) else (if 0 ≤ (Int.tmod (wrap64 (x1001 - 1)) (x1000.length : Int)) then (if (Int.tmod (wrap64 (x1001 - 1)) (x1000.length : Int)) < (x1000.length : Int) then (if 0 ≤ (Int.tmod (wrap64 ((wrap64 ((wrap64 (x1001 - 1)) * 7)) + 3)) (x1000.length : Int)) then (if (Int.tmod (wrap64 ((wrap64 ((wrap64 (x1001 - 1)) * 7)) + 3)) (x1000.length : Int)) < (x1000.length : Int) then (if x1 = 0 then (none) else (some (Int.tmod (Go.bits .xor .i64 (wrap64 ((wrap64 ((wrap64 ((wrap64 ((wrap64 (rd x1000 (Int.tmod (wrap64 (x1001 - 1)) (x1000.length : Int)))) * 131)) + (wrap64 ((wrap64 (rd x1000 (Int.tmod (wrap64 ((wrap64 ((wrap64 (x1001 - 1)) * 7)) + 3)) (x1000.length : Int)))) * 1117)))) + (wrap64 ((wrap64 (x1001 - 1)) * 29)))) + (wrap64 ((wrap64 (Int.tdiv (wrap64 (x1001 - 1)) (x1000.length : Int))) * 53)))) (wrap64 (Int.tdiv (wrap64 ((wrap64 ((wrap64 ((wrap64 ((wrap64 (rd x1000 (Int.tmod (wrap64 (x1001 - 1)) (x1000.length : Int)))) * 131)) + (wrap64 ((wrap64 (rd x1000 (Int.tmod (wrap64 ((wrap64 ((wrap64 (x1001 - 1)) * 7)) + 3)) (x1000.length : Int)))) * 1117)))) + (wrap64 ((wrap64 (x1001 - 1)) * 29)))) + (wrap64 ((wrap64 (Int.tdiv (wrap64 (x1001 - 1)) (x1000.length : Int))) * 53)))) 64))) x1,x1001))) else (none)) else (none)) else (none)) else (none))))
def spec_l20Rd_pick.f (k : Nat) (s0_0 : List Int) (s0_1 : Int) (a1 : Int) : Option (Int × Int):=if a1 < 1 then (spec_l20Rd_pick.j0 k a1 true s0_0 (wrap64 (s0_1 + 1))) else (spec_l20Rd_pick.j0 k a1 ((s0_0.length : Int) == 0) s0_0 (wrap64 (s0_1 + 1)))
theorem spec_l20Rd_pick.mono_l : ∀ k,(∀ y0 y1 y2 y3,LeO (spec_l20Rd_pick.j0 k y0 y1 y2 y3) (spec_l20Rd_pick.j0 (k + 1) y0 y1 y2 y3))
 | 0=>fun _ _ _ _ r h=>by simp [spec_l20Rd_pick.j0] at h
 | k + 1=>by
  have ih0:=spec_l20Rd_pick.mono_l k
  ·intro y0 y1 y2 y3;unfold spec_l20Rd_pick.j0
   repeat' first | (with_reducible first | exact ih0 _ _ _ _ | exact LeO.refl _ | exact LeO.none _ | refine LeO.ite ?_ ?_ | refine LeO.bind ?_ (fun _=>?_)) | exact ih0 _ _ _ _ | exact LeO.none _ | refine LeO.ite ?_ ?_ | refine LeO.bind ?_ (fun _=>?_)
theorem spec_l20Rd_pick.mono : ∀ a0 a1 a2 k,LeO (spec_l20Rd_pick.f k a0 a1 a2) (spec_l20Rd_pick.f (k + 1) a0 a1 a2):=by
 intro a0 a1 a2 k;have ih0:=spec_l20Rd_pick.mono_l k;unfold spec_l20Rd_pick.f
 repeat' first | (with_reducible first | exact ih0 _ _ _ _ | exact LeO.refl _ | exact LeO.none _ | refine LeO.ite ?_ ?_ | refine LeO.bind ?_ (fun _=>?_)) | exact ih0 _ _ _ _ | exact LeO.none _ | refine LeO.ite ?_ ?_ | refine LeO.bind ?_ (fun _=>?_)
set_option maxHeartbeats 8000000 in
set_option maxRecDepth 100000 in
theorem spec_l20Rd_pick.calls (k : Nat) (g : Nat) (s0_0 : List Int) (s0_1 : Int) (a1 : Int) (r1 : Int) (r2 : Int) (w0 w : World) (hI : IsS131 w0 w g s0_0 s0_1) (hB : Below w0.heap.size w0 w) (h : spec_l20Rd_pick.f k s0_0 s0_1 a1 = some (r1,r2)) :
  Calls Tryz.prog 84 #[.pointer (some ⟨g,0,none⟩),.int .i64 a1] w fun e w'=>e = .returned (.int .i64 r1) ∧ IsS131 w0 w' g s0_0 r2 ∧ Below w0.heap.size w0 w' ∧ KeepBut w w' g none:=by
 have HI0:=am hI;have HK:=am (KeepBut.refl w g none);have HL:=am hB.size;clear hI;have HW0:=am hB.size;have HB:=am hB;clear hB;have H : (if a1 < 1 then (spec_l20Rd_pick.j0 k a1 true s0_0 (wrap64 (s0_1 + 1))) else (spec_l20Rd_pick.j0 k a1 ((s0_0.length : Int) == 0) s0_0 (wrap64 (s0_1 + 1)))) = some (r1,r2):=h;clear h;have HC3:=am H;clear H;obtain ⟨ASz4_0,cSz4_0,HGz4,hgz4,HSz4_0⟩:=HI0.out;have hcz4_0:=cellS131_0 HGz4;have hcz4_1:=cellS131_1 HGz4;have hfz4_1:=blk_frozen HGz4 1;clear HGz4 hgz4
 go_enter Tryz.func84,Tryz.ntmps84
 go_upto_region 2 with (fail)
 repeat (go_quiet (fail);go_upto_region 2 with (fail))
 go_cut [24] (fun v24 wc=>∃ (kq : Nat) (x24_2 : Bool),v24 = .bool x24_2 ∧ Aside0 (spec_l20Rd_pick.j0 kq a1 x24_2 s0_0 (wrap64 (s0_1 + 1)) = some (r1,r2)) ∧ Aside0 (kq ≤ k) ∧ Aside0 (IsS131 w0 wc g s0_0 (wrap64 (s0_1 + 1))) ∧ Aside0 (KeepBut w wc g none) ∧ Aside0 (Below w0.heap.size w0 wc))
 case first=>
  have H:=HC3.out;clear HC3
  by_cases c5 : a1 < 1
  ·rw [if_pos c5] at H;have c5b0 : decide (a1 < 1) = true:=decide_eq_true c5;clear c5;(first | rw [c5b0] | (simp only [i64_w,i32_w];rw [c5b0]) | skip);have H':=am H;clear H
   go_wp2
   repeat (go_quiet (fail);try go_wp2)
   go_meet
   case rel=>exact ⟨_,(true),rs_,H',⟨by first | omega | exact Nat.le_refl _⟩,⟨m16_⟩,⟨m15_⟩,⟨m14_⟩⟩
  ·rw [if_neg c5] at H;have c5b0 : decide (a1 < 1) = false:=decide_eq_false c5;clear c5;(first | rw [c5b0] | (simp only [i64_w,i32_w];rw [c5b0]) | skip);have H':=am H;clear H;obtain ⟨ASz6_0,cSz6_0,HGz6,hgz6,HSz6_0⟩:=HI0.out;have hcz6_0:=cellS131_0 HGz6;have hcz6_1:=cellS131_1 HGz6;have hfz6_1:=blk_frozen HGz6 1;clear HGz6 hgz6
   go_wp2
   repeat (go_quiet (fail);try go_wp2)
   go_meet
   case rel=>exact ⟨_,(((s0_0.length : Int) == 0)),rs_,H',⟨by first | omega | exact Nat.le_refl _⟩,⟨m16_⟩,⟨m15_⟩,⟨m14_⟩⟩
 case rest=>
  clear HC3;(try clear p2);(try clear c5);(try clear c5b0);(try clear p6);(try clear hcz4_0 hcz4_1 hcz6_0 hcz6_1 hfz4_1 hfz6_1);obtain ⟨kq,x24_2,rfl,HA,HJ2,HI0,HK,HB⟩:=hcut
  cases kq with
  | zero=>exact absurd HA.out (by simp [spec_l20Rd_pick.j0])
  | succ kj2=>
   have H:=HA.out;clear HA;simp only [spec_l20Rd_pick.j0] at H
   by_cases c7 : x24_2 = true
   ·subst c7;rw [if_pos rfl] at H;simp only [Option.some.injEq,Prod.mk.injEq] at H;obtain ⟨rfl,rfl⟩:=H
    go_wp2
    repeat (go_quiet (fail);try go_wp2)
    go_ret
    exact ⟨fi_,m16_,m14_,m15_⟩
   ·replace c7:=Bool.eq_false_iff.mpr c7;subst c7;rw [if_neg nft_] at H
    by_cases c8 : (wrap64 ((wrap64 (s0_1 + 1)) - 1)) < (s0_0.length : Int)
    ·rw [if_pos c8] at H;have c8b0 : decide ((wrap64 ((wrap64 (s0_1 + 1)) - 1)) < (s0_0.length : Int)) = true:=decide_eq_true c8;clear c8;obtain ⟨ji9,hji9⟩ : ∃ j_ : Int,(wrap64 ((wrap64 (s0_1 + 1)) - 1)) = j_:=⟨_,rfl⟩;replace H : (if 0 ≤ (ji9) then (if a1 = 0 then (none) else (some (Int.tmod (wrap64 (rd s0_0 (ji9))) a1,(wrap64 (s0_1 + 1))))) else (none)) = some (r1,r2):=by first | (rw [hji9] at H;exact H) | (simp only [hji9] at H ⊢;exact H)
     (try rw [hji9] at c8b0);have hji9w : (IntKind.i64.wrap ((wrap64 (s0_1 + 1)) - 1)) = ji9:=(i64_w _).trans hji9
     by_cases c10 : 0 ≤ (ji9)
     ·rw [if_pos c10] at H;have c10b0 : decide (0 ≤ (ji9)) = true:=decide_eq_true c10;clear c10
      by_cases c11 : a1 = 0
      ·rw [if_pos c11] at H;exact absurd H (by simp)
      ·rw [if_neg c11] at H;have c11b0 : (a1 == 0) = false:=beq_eq_false_iff_ne.mpr c11;have c11b1 : (a1 != 0) = true:=bne_iff_ne.mpr c11;simp only [Option.some.injEq,Prod.mk.injEq] at H;obtain ⟨rfl,rfl⟩:=H;obtain ⟨ASz12_0,cSz12_0,HGz12,hgz12,HSz12_0⟩:=HI0.out;have:=cellS131_0 HGz12;have:=cellS131_1 HGz12;have:=blk_frozen HGz12 1;clear HGz12 hgz12;have p1 : 0 ≤ ((ji9) : Int):=of_decide_eq_true da_;have q1 : (ji9) < (s0_0.length : Int):=of_decide_eq_true da_;obtain ⟨ad1,e1,hx1_0⟩:=Kd.at_int HSz12_0 (ji9) p1 q1;cases e1;replace hx1_0:=pw_cell_below HB.out hx1_0;replace p1:=eq_true p1;replace q1:=eq_true q1
       go_wp2
       repeat (go_quiet (fail);try go_wp2)
       go_ret
       exact ⟨by first | rfl | (simp [errW_none,errW_some] <;> rfl) | (simp only [← hji9];first | rfl | (simp [errW_none,errW_some] <;> rfl)) | (simp [*,errW_none,errW_some] <;> rfl),m16_,m14_,m15_⟩
     ·rw [if_neg c10] at H;exact absurd H (by simp)
    ·rw [if_neg c8] at H;have c8b0 : decide ((wrap64 ((wrap64 (s0_1 + 1)) - 1)) < (s0_0.length : Int)) = false:=decide_eq_false c8;clear c8
     by_cases c13 : (s0_0.length : Int) = 0
     ·rw [if_pos c13] at H;exact absurd H (by simp)
     ·rw [if_neg c13] at H;have c13b0 : ((s0_0.length : Int) == 0) = false:=beq_eq_false_iff_ne.mpr c13;have c13b1 : ((s0_0.length : Int) != 0) = true:=bne_iff_ne.mpr c13;have c13b2 : ¬ (s0_0 = []):=fun h_=>c13 (by rw [h_];rfl)
      obtain ⟨ji14,hji14⟩ : ∃ j_ : Int,(Int.tmod (wrap64 ((wrap64 (s0_1 + 1)) - 1)) (s0_0.length : Int)) = j_:=⟨_,rfl⟩;replace H : (if 0 ≤ (ji14) then (if (ji14) < (s0_0.length : Int) then (if 0 ≤ (Int.tmod (wrap64 ((wrap64 ((wrap64 ((wrap64 (s0_1 + 1)) - 1)) * 7)) + 3)) (s0_0.length : Int)) then (if (Int.tmod (wrap64 ((wrap64 ((wrap64 ((wrap64 (s0_1 + 1)) - 1)) * 7)) + 3)) (s0_0.length : Int)) < (s0_0.length : Int) then (if a1 = 0 then (none) else (some (Int.tmod (Go.bits .xor .i64 (wrap64 ((wrap64 ((wrap64 ((wrap64 ((wrap64 (rd s0_0 (ji14))) * 131)) + (wrap64 ((wrap64 (rd s0_0 (Int.tmod (wrap64 ((wrap64 ((wrap64 ((wrap64 (s0_1 + 1)) - 1)) * 7)) + 3)) (s0_0.length : Int)))) * 1117)))) + (wrap64 ((wrap64 ((wrap64 (s0_1 + 1)) - 1)) * 29)))) + (wrap64 ((wrap64 (Int.tdiv (wrap64 ((wrap64 (s0_1 + 1)) - 1)) (s0_0.length : Int))) * 53)))) (wrap64 (Int.tdiv (wrap64 ((wrap64 ((wrap64 ((wrap64 ((wrap64 (rd s0_0 (ji14))) * 131)) + (wrap64 ((wrap64 (rd s0_0 (Int.tmod (wrap64 ((wrap64 ((wrap64 ((wrap64 (s0_1 + 1)) - 1)) * 7)) + 3)) (s0_0.length : Int)))) * 1117)))) + (wrap64 ((wrap64 ((wrap64 (s0_1 + 1)) - 1)) * 29)))) + (wrap64 ((wrap64 (Int.tdiv (wrap64 ((wrap64 (s0_1 + 1)) - 1)) (s0_0.length : Int))) * 53)))) 64))) a1,(wrap64 (s0_1 + 1))))) else (none)) else (none)) else (none)) else (none)) = some (r1,r2):=by first | (rw [hji14] at H;exact H) | (simp only [hji14] at H ⊢;exact H)
      by_cases c15 : 0 ≤ (ji14)
      ·rw [if_pos c15] at H;have c15b0 : decide (0 ≤ (ji14)) = true:=decide_eq_true c15;clear c15
       by_cases c16 : (ji14) < (s0_0.length : Int)
       ·rw [if_pos c16] at H;have c16b0 : decide ((ji14) < (s0_0.length : Int)) = true:=decide_eq_true c16;clear c16;obtain ⟨ji17,hji17⟩ : ∃ j_ : Int,(Int.tmod (wrap64 ((wrap64 ((wrap64 ((wrap64 (s0_1 + 1)) - 1)) * 7)) + 3)) (s0_0.length : Int)) = j_:=⟨_,rfl⟩;replace H : (if 0 ≤ (ji17) then (if (ji17) < (s0_0.length : Int) then (if a1 = 0 then (none) else (some (Int.tmod (Go.bits .xor .i64 (wrap64 ((wrap64 ((wrap64 ((wrap64 ((wrap64 (rd s0_0 (ji14))) * 131)) + (wrap64 ((wrap64 (rd s0_0 (ji17))) * 1117)))) + (wrap64 ((wrap64 ((wrap64 (s0_1 + 1)) - 1)) * 29)))) + (wrap64 ((wrap64 (Int.tdiv (wrap64 ((wrap64 (s0_1 + 1)) - 1)) (s0_0.length : Int))) * 53)))) (wrap64 (Int.tdiv (wrap64 ((wrap64 ((wrap64 ((wrap64 ((wrap64 (rd s0_0 (ji14))) * 131)) + (wrap64 ((wrap64 (rd s0_0 (ji17))) * 1117)))) + (wrap64 ((wrap64 ((wrap64 (s0_1 + 1)) - 1)) * 29)))) + (wrap64 ((wrap64 (Int.tdiv (wrap64 ((wrap64 (s0_1 + 1)) - 1)) (s0_0.length : Int))) * 53)))) 64))) a1,(wrap64 (s0_1 + 1))))) else (none)) else (none)) = some (r1,r2):=by first | (rw [hji17] at H;exact H) | (simp only [hji17] at H ⊢;exact H)
        by_cases c18 : 0 ≤ (ji17)
        ·rw [if_pos c18] at H;have c18b0 : decide (0 ≤ (ji17)) = true:=decide_eq_true c18;clear c18
         by_cases c19 : (ji17) < (s0_0.length : Int)
         ·rw [if_pos c19] at H;have c19b0 : decide ((ji17) < (s0_0.length : Int)) = true:=decide_eq_true c19;clear c19
          by_cases c20 : a1 = 0
          ·rw [if_pos c20] at H;exact absurd H (by simp)
          ·rw [if_neg c20] at H;have c20b0 : (a1 == 0) = false:=beq_eq_false_iff_ne.mpr c20;have c20b1 : (a1 != 0) = true:=bne_iff_ne.mpr c20;simp only [Option.some.injEq,Prod.mk.injEq] at H;obtain ⟨rfl,rfl⟩:=H;obtain ⟨ASz21_0,cSz21_0,HGz21,hgz21,HSz21_0⟩:=HI0.out;have:=cellS131_0 HGz21;have:=cellS131_1 HGz21;have:=blk_frozen HGz21 1;clear HGz21 hgz21;have p3 : 0 ≤ ((ji14) : Int):=of_decide_eq_true da_;have q3 : (ji14) < (s0_0.length : Int):=of_decide_eq_true da_;obtain ⟨ad3,e3,hx3_0⟩:=Kd.at_int HSz21_0 (ji14) p3 q3;cases e3;replace hx3_0:=pw_cell_below HB.out hx3_0;replace p3:=eq_true p3;replace q3:=eq_true q3;have p4 : 0 ≤ ((ji17) : Int):=of_decide_eq_true da_;have q4 : (ji17) < (s0_0.length : Int):=of_decide_eq_true da_;obtain ⟨ad4,e4,hx4_0⟩:=Kd.at_int HSz21_0 (ji17) p4 q4;obtain rfl : ad3 = ad4:=(by injection e4);replace hx4_0:=pw_cell_below HB.out hx4_0;replace p4:=eq_true p4;replace q4:=eq_true q4
           go_wp2
           repeat (go_quiet (fail);try go_wp2)
           go_ret
           exact ⟨by first | rfl | (simp [errW_none,errW_some] <;> rfl) | (simp only [← hji14,← hji17];first | rfl | (simp [errW_none,errW_some] <;> rfl)) | (simp [*,errW_none,errW_some] <;> rfl),m16_,m14_,m15_⟩
         ·rw [if_neg c19] at H;exact absurd H (by simp)
        ·rw [if_neg c18] at H;exact absurd H (by simp)
       ·rw [if_neg c16] at H;exact absurd H (by simp)
      ·rw [if_neg c15] at H;exact absurd H (by simp)
def spec_l20Rd_odd.f (k : Nat) (s0_0 : List Int) (s0_1 : Int) (a1 : Int) : Option (Bool × Int):=if a1 < 9000 then ((spec_l20Rd_pick.f k s0_0 s0_1 a1).bind fun bt104=>(some ((bt104.1 == (wrap64 (a1 - 1))),bt104.2))) else (some (false,s0_1))
theorem spec_l20Rd_odd.mono : ∀ a0 a1 a2 k,LeO (spec_l20Rd_odd.f k a0 a1 a2) (spec_l20Rd_odd.f (k + 1) a0 a1 a2):=by
 intro a0 a1 a2 k;unfold spec_l20Rd_odd.f
 repeat' first | (with_reducible first | exact spec_l20Rd_pick.mono _ _ _ _ | exact LeO.refl _ | exact LeO.none _ | refine LeO.ite ?_ ?_ | refine LeO.bind ?_ (fun _=>?_)) | exact spec_l20Rd_pick.mono _ _ _ _ | exact LeO.none _ | refine LeO.ite ?_ ?_ | refine LeO.bind ?_ (fun _=>?_)
set_option maxHeartbeats 8000000 in
set_option maxRecDepth 100000 in
theorem spec_l20Rd_odd.calls (k : Nat) (g : Nat) (s0_0 : List Int) (s0_1 : Int) (a1 : Int) (r1 : Bool) (r2 : Int) (w0 w : World) (hI : IsS131 w0 w g s0_0 s0_1) (hB : Below w0.heap.size w0 w) (h : spec_l20Rd_odd.f k s0_0 s0_1 a1 = some (r1,r2)) :
  Calls Tryz.prog 90 #[.pointer (some ⟨g,0,none⟩),.int .i64 a1] w fun e w'=>e = .returned (.bool r1) ∧ IsS131 w0 w' g s0_0 r2 ∧ Below w0.heap.size w0 w' ∧ KeepBut w w' g none:=by
 have HI0:=am hI;have HK:=am (KeepBut.refl w g none);have HL:=am hB.size;clear hI;have HW0:=am hB.size;have HB:=am hB;clear hB;have H : (if a1 < 9000 then ((spec_l20Rd_pick.f k s0_0 s0_1 a1).bind fun bt0=>(some ((bt0.1 == (wrap64 (a1 - 1))),bt0.2))) else (some (false,s0_1))) = some (r1,r2):=h;clear h
 by_cases c3 : a1 < 9000
 ·rw [if_pos c3] at H;have c3b0 : decide (a1 < 9000) = true:=decide_eq_true c3;clear c3;obtain ⟨⟨t0,t1⟩,A4,H⟩:=bse H
  try dsimp only at H
  simp only [Option.some.injEq,Prod.mk.injEq] at H;obtain ⟨rfl,rfl⟩:=H
  go_enter Tryz.func90,Tryz.ntmps90
  go_wp2_with (first | (go_at_call 84;(with_reducible refine (spec_l20Rd_pick.calls k g s0_0 s0_1 a1 t0 t1 w0 _ ?side1 ?side2 A4.out).mono ?_);(case side1=>exact m16_);(case side2=>exact m14_);rintro e w5 ⟨rfl,hi,hb,hk⟩;replace HK:=am (KeepBut.trans m15_ hk (.inl rfl));replace HB:=am hb;replace HI0:=am hi;(try clear hb);(try clear hk);(try clear hi)))
  go_ret
  exact ⟨fi_,m16_,m14_,m15_⟩
 ·rw [if_neg c3] at H;have c3b0 : decide (a1 < 9000) = false:=decide_eq_false c3;clear c3;simp only [Option.some.injEq,Prod.mk.injEq] at H;obtain ⟨rfl,rfl⟩:=H
  go_enter Tryz.func90,Tryz.ntmps90
  go_wp2
  go_ret
  exact ⟨fi_,m16_,m14_,m15_⟩
def spec_l20Rule.j0 : Nat → Int → List Int → Int → Bool → Int → Int → Int → Int → Int → Int → Option (Bool × Int × Int × Int × Int × Int × Int × Int)
 | 0,_,_,_,_,_,_,_,_,_,_=>none
 | k + 1,x1,x1000,x1001,x120000,x120001,x120002,x120003,x120004,x120005,x120006=>(spec_l20Rd_odd.f k x1000 x1001 x1).bind fun bt130=>(if bt130.1 = true then ((spec_l20Rd_pick.f k x1000 bt130.2 4).bind fun bt132=>(if bt132.1 = 0 then ((some (([0,9,(-1)] : List Int) : List Int)).bind fun y134=>((spec_l20Rd_pick.f k x1000 bt132.2 3).bind fun bt137=>(if 0 ≤ bt137.1 then (if bt137.1 < (y134.length : Int) then (some (x120000,rd y134 bt137.1,x120002,x120003,x120004,x120005,x120006,bt137.2)) else (none)) else (none)))) else (if bt132.1 = 1 then ((some (([110,99] : List Int) : List Int)).bind fun y140=>((spec_l20Rd_pick.f k x1000 bt132.2 2).bind fun bt143=>(if 0 ≤ bt143.1 then (if bt143.1 < (y140.length : Int) then (some (x120000,x120001,x120002,x120003,rd y140 bt143.1,x120005,x120006,bt143.2)) else (none)) else (none)))) else (if bt132.1 = 2 then ((some (([0,1000] : List Int) : List Int)).bind fun y146=>((spec_l20Rd_pick.f k x1000 bt132.2 2).bind fun bt149=>(if 0 ≤ bt149.1 then (if bt149.1 < (y146.length : Int) then (some (x120000,x120001,x120002,x120003,x120004,x120005,rd y146 bt149.1,bt149.2)) else (none)) else (none)))) else (some (x120000,x120001,10,x120003,x120004,x120005,x120006,bt132.2)))))) else (some (x120000,x120001,x120002,x120003,x120004,x120005,x120006,bt130.2)))
def spec_l20Rule.f (k : Nat) (s0_0 : List Int) (s0_1 : Int) (a1 : Int) : Option (Bool × Int × Int × Int × Int × Int × Int × Int):=(spec_l20Rd_pick.f k s0_0 s0_1 2).bind fun bt107=>((spec_l20Rd_pick.f k s0_0 bt107.2 4).bind fun bt109=>((spec_l20Rd_pick.f k s0_0 bt109.2 4).bind fun bt111=>((some (([1,21,7] : List Int) : List Int)).bind fun y113=>((spec_l20Rd_pick.f k s0_0 bt111.2 3).bind fun bt116=>(if 0 ≤ bt116.1 then (if bt116.1 < (y113.length : Int) then ((spec_l20Rd_pick.f k s0_0 bt116.2 3).bind fun bt120=>((spec_l20Rd_pick.f k s0_0 bt120.2 3).bind fun bt122=>((some (([999,21,rd y113 bt116.1] : List Int) : List Int)).bind fun y124=>((spec_l20Rd_pick.f k s0_0 bt122.2 3).bind fun bt127=>(if 0 ≤ bt127.1 then (if bt127.1 < (y124.length : Int) then (if (rd y124 bt127.1) < (rd y113 bt116.1) then (spec_l20Rule.j0 k a1 s0_0 bt127.2 (bt107.1 == 0) (wrap64 (1 + bt109.1)) (wrap64 ((wrap64 (1 + bt109.1)) + bt120.1)) (wrap64 (100 + bt111.1)) (wrap64 ((wrap64 (100 + bt111.1)) + bt122.1)) (rd y113 bt116.1) (rd y113 bt116.1)) else (spec_l20Rule.j0 k a1 s0_0 bt127.2 (bt107.1 == 0) (wrap64 (1 + bt109.1)) (wrap64 ((wrap64 (1 + bt109.1)) + bt120.1)) (wrap64 (100 + bt111.1)) (wrap64 ((wrap64 (100 + bt111.1)) + bt122.1)) (rd y113 bt116.1) (rd y124 bt127.1))) else (none)) else (none)))))) else (none)) else (none))))))
theorem spec_l20Rule.mono_l : ∀ k,(∀ y0 y1 y2 y3 y4 y5 y6 y7 y8 y9,LeO (spec_l20Rule.j0 k y0 y1 y2 y3 y4 y5 y6 y7 y8 y9) (spec_l20Rule.j0 (k + 1) y0 y1 y2 y3 y4 y5 y6 y7 y8 y9))
 | 0=>fun _ _ _ _ _ _ _ _ _ _ r h=>by simp [spec_l20Rule.j0] at h
 | k + 1=>by
  have ih0:=spec_l20Rule.mono_l k
  ·intro y0 y1 y2 y3 y4 y5 y6 y7 y8 y9;unfold spec_l20Rule.j0
   repeat' first | (with_reducible first | exact ih0 _ _ _ _ _ _ _ _ _ _ | exact spec_l20Rd_odd.mono _ _ _ _ | exact spec_l20Rd_pick.mono _ _ _ _ | exact LeO.refl _ | exact LeO.none _ | refine LeO.ite ?_ ?_ | refine LeO.bind ?_ (fun _=>?_)) | exact ih0 _ _ _ _ _ _ _ _ _ _ | exact spec_l20Rd_odd.mono _ _ _ _ | exact spec_l20Rd_pick.mono _ _ _ _ | exact LeO.none _ | refine LeO.ite ?_ ?_ | refine LeO.bind ?_ (fun _=>?_)
theorem spec_l20Rule.mono : ∀ a0 a1 a2 k,LeO (spec_l20Rule.f k a0 a1 a2) (spec_l20Rule.f (k + 1) a0 a1 a2):=by
 intro a0 a1 a2 k;have ih0:=spec_l20Rule.mono_l k;unfold spec_l20Rule.f
 repeat' first | (with_reducible first | exact ih0 _ _ _ _ _ _ _ _ _ _ | exact spec_l20Rd_odd.mono _ _ _ _ | exact spec_l20Rd_pick.mono _ _ _ _ | exact LeO.refl _ | exact LeO.none _ | refine LeO.ite ?_ ?_ | refine LeO.bind ?_ (fun _=>?_)) | exact ih0 _ _ _ _ _ _ _ _ _ _ | exact spec_l20Rd_odd.mono _ _ _ _ | exact spec_l20Rd_pick.mono _ _ _ _ | exact LeO.none _ | refine LeO.ite ?_ ?_ | refine LeO.bind ?_ (fun _=>?_)
def spec_l20Rule.T4 : Bool × List (List Nat × List Nat):=(true,[([],[]),([0],[0]),([1],[1]),([],[]),([3],[3]),([2,4],[2,4]),([5],[5]),([0,1,2,3,4,5,6],[]),([7,6,4,0,1,2,3,4,5,6],[6,7])])
def spec_l20Rule.B4 : List Nat:=[0,1,3,0,8,31,63,127,255]
theorem spec_l20Rule.tab4 : rtab .any (opsOf Tryz.f97 4) = spec_l20Rule.T4:=by kernel_rfl
theorem spec_l20Rule.bits4 : waitsOk spec_l20Rule.T4.2 spec_l20Rule.B4 = true:=by kernel_rfl
set_option maxHeartbeats 8000000 in
set_option maxRecDepth 100000 in
theorem spec_l20Rule.calls (k : Nat) (g : Nat) (s0_0 : List Int) (s0_1 : Int) (a1 : Int) (r1 : Bool) (r2 : Int) (r3 : Int) (r4 : Int) (r5 : Int) (r6 : Int) (r7 : Int) (r8 : Int) (w0 w : World) (hI : IsS131 w0 w g s0_0 s0_1) (hB : Below w0.heap.size w0 w) (h : spec_l20Rule.f k s0_0 s0_1 a1 = some (r1,r2,r3,r4,r5,r6,r7,r8)) :
  Calls Tryz.prog 97 #[.pointer (some ⟨g,0,none⟩),.int .i64 a1] w fun e w'=>e = .returned (.agg #[.bool r1,.int .i64 r2,.int .i64 r3,.int .i64 r4,.int .i64 r5,.int .i64 r6,.int .i64 r7]) ∧ IsS131 w0 w' g s0_0 r8 ∧ Below w0.heap.size w0 w' ∧ KeepBut w w' g none:=by
 have hu35:=Tryz.underlying35;have HI0:=am hI;have HK:=am (KeepBut.refl w g none);have HL:=am hB.size;clear hI;have HW0:=am hB.size;have HB:=am hB;clear hB;have H : ((spec_l20Rd_pick.f k s0_0 s0_1 2).bind fun bt3=>((spec_l20Rd_pick.f k s0_0 bt3.2 4).bind fun bt4=>((spec_l20Rd_pick.f k s0_0 bt4.2 4).bind fun bt5=>((some (([1,21,7] : List Int) : List Int)).bind fun y7=>((spec_l20Rd_pick.f k s0_0 bt5.2 3).bind fun bt8=>(if 0 ≤ bt8.1 then (if bt8.1 < (y7.length : Int) then ((spec_l20Rd_pick.f k s0_0 bt8.2 3).bind fun bt9=>((spec_l20Rd_pick.f k s0_0 bt9.2 3).bind fun bt10=>((some (([999,21,rd y7 bt8.1] : List Int) : List Int)).bind fun y11=>((spec_l20Rd_pick.f k s0_0 bt10.2 3).bind fun bt13=>(if 0 ≤ bt13.1 then (if bt13.1 < (y11.length : Int) then (if (rd y11 bt13.1) < (rd y7 bt8.1) then (spec_l20Rule.j0 k a1 s0_0 bt13.2 (bt3.1 == 0) (wrap64 (1 + bt4.1)) (wrap64 ((wrap64 (1 + bt4.1)) + bt9.1)) (wrap64 (100 + bt5.1)) (wrap64 ((wrap64 (100 + bt5.1)) + bt10.1)) (rd y7 bt8.1) (rd y7 bt8.1)) else (spec_l20Rule.j0 k a1 s0_0 bt13.2 (bt3.1 == 0) (wrap64 (1 + bt4.1)) (wrap64 ((wrap64 (1 + bt4.1)) + bt9.1)) (wrap64 (100 + bt5.1)) (wrap64 ((wrap64 (100 + bt5.1)) + bt10.1)) (rd y7 bt8.1) (rd y11 bt13.1))) else (none)) else (none)))))) else (none)) else (none))))))) = some (r1,r2,r3,r4,r5,r6,r7,r8):=h;clear h;obtain ⟨⟨t3,t14⟩,A3,H⟩:=bse H
 try dsimp only at H
 obtain ⟨⟨t4,t15⟩,A4,H⟩:=bse H
 try dsimp only at H
 obtain ⟨⟨t5,t16⟩,A5,H⟩:=bse H
 try dsimp only at H
 obtain ⟨y7,hy7⟩ : ∃ y_ : List Int,y_ = (([1,21,7] : List Int)):=⟨_,rfl⟩;replace H : ((spec_l20Rd_pick.f k s0_0 t16 3).bind fun bt8=>(if 0 ≤ bt8.1 then (if bt8.1 < (y7.length : Int) then ((spec_l20Rd_pick.f k s0_0 bt8.2 3).bind fun bt9=>((spec_l20Rd_pick.f k s0_0 bt9.2 3).bind fun bt10=>((some (([999,21,rd y7 bt8.1] : List Int) : List Int)).bind fun y11=>((spec_l20Rd_pick.f k s0_0 bt10.2 3).bind fun bt13=>(if 0 ≤ bt13.1 then (if bt13.1 < (y11.length : Int) then (if (rd y11 bt13.1) < (rd y7 bt8.1) then (spec_l20Rule.j0 k a1 s0_0 bt13.2 (t3 == 0) (wrap64 (1 + t4)) (wrap64 ((wrap64 (1 + t4)) + bt9.1)) (wrap64 (100 + t5)) (wrap64 ((wrap64 (100 + t5)) + bt10.1)) (rd y7 bt8.1) (rd y7 bt8.1)) else (spec_l20Rule.j0 k a1 s0_0 bt13.2 (t3 == 0) (wrap64 (1 + t4)) (wrap64 ((wrap64 (1 + t4)) + bt9.1)) (wrap64 (100 + t5)) (wrap64 ((wrap64 (100 + t5)) + bt10.1)) (rd y7 bt8.1) (rd y11 bt13.1))) else (none)) else (none)))))) else (none)) else (none))) = some (r1,r2,r3,r4,r5,r6,r7,r8):=by first | (rw [hy7];with_reducible exact H) | (have H2_:=(Option.bind_some _ _).symm.trans H;rw [hy7];with_reducible exact H2_) | (have H2_:=(Option.bind_some _ _).symm.trans H;with_reducible exact H2_) | with_reducible exact H | (rw [hy7];exact H) | exact H
 have Ny7:=am hy7;clear hy7;obtain ⟨⟨t8,t17⟩,A6,H⟩:=bse H
 try dsimp only at H
 by_cases c7 : 0 ≤ t8
 ·rw [if_pos c7] at H;have c7b0 : decide (0 ≤ t8) = true:=decide_eq_true c7;clear c7
  by_cases c8 : t8 < (y7.length : Int)
  ·rw [if_pos c8] at H;have c8b0 : decide (t8 < (y7.length : Int)) = true:=decide_eq_true c8;clear c8;obtain ⟨⟨t9,t18⟩,A9,H⟩:=bse H
   try dsimp only at H
   obtain ⟨⟨t10,t19⟩,A10,H⟩:=bse H
   try dsimp only at H
   obtain ⟨y11,hy11⟩ : ∃ y_ : List Int,y_ = (([999,21,rd y7 t8] : List Int)):=⟨_,rfl⟩;replace H : ((spec_l20Rd_pick.f k s0_0 t19 3).bind fun bt13=>(if 0 ≤ bt13.1 then (if bt13.1 < (y11.length : Int) then (if (rd y11 bt13.1) < (rd y7 t8) then (spec_l20Rule.j0 k a1 s0_0 bt13.2 (t3 == 0) (wrap64 (1 + t4)) (wrap64 ((wrap64 (1 + t4)) + t9)) (wrap64 (100 + t5)) (wrap64 ((wrap64 (100 + t5)) + t10)) (rd y7 t8) (rd y7 t8)) else (spec_l20Rule.j0 k a1 s0_0 bt13.2 (t3 == 0) (wrap64 (1 + t4)) (wrap64 ((wrap64 (1 + t4)) + t9)) (wrap64 (100 + t5)) (wrap64 ((wrap64 (100 + t5)) + t10)) (rd y7 t8) (rd y11 bt13.1))) else (none)) else (none))) = some (r1,r2,r3,r4,r5,r6,r7,r8):=by first | (rw [hy11];with_reducible exact H) | (have H2_:=(Option.bind_some _ _).symm.trans H;rw [hy11];with_reducible exact H2_) | (have H2_:=(Option.bind_some _ _).symm.trans H;with_reducible exact H2_) | with_reducible exact H | (rw [hy11];exact H) | exact H
   have Ny11:=am hy11;clear hy11;obtain ⟨⟨t13,t20⟩,A11,H⟩:=bse H
   try dsimp only at H
   by_cases c12 : 0 ≤ t13
   ·rw [if_pos c12] at H;have c12b0 : decide (0 ≤ t13) = true:=decide_eq_true c12;clear c12
    by_cases c13 : t13 < (y11.length : Int)
    ·rw [if_pos c13] at H;have c13b0 : decide (t13 < (y11.length : Int)) = true:=decide_eq_true c13;clear c13;have HC14:=am H;clear H
     go_enter Tryz.func97,Tryz.ntmps97
     try go_wp2_with (first | ((with_reducible refine gD 4 rfl ?_);refine box_event rfl (N:=4) rfl (cs:=#[.bool false,.int .i64 0,.int .i64 0,.int .i64 0,.int .i64 0,.int .i64 0,.int .i64 0]) (t:=35) hr_ ?_;intro gb21 hg w15 hbox hb;replace HB:=am (below_step m14_ hb);have BK21:=am hbox;have GW21:=am ((by rw [hg];exact (keep_size (w:=w) (g:=g) (row:=none) m15_) : w.heap.size ≤ gb21));have GE21:=am ((Nat.le_trans HW0.out (by rw [hg];exact (keep_size (w:=w) (g:=g) (row:=none) m15_) : w.heap.size ≤ gb21) : w0.heap.size ≤ gb21));replace HK:=am (KeepBut.trans m15_ (KeepBut.of_below hb g none) (.inl rfl));have NB0_21:=am ((by rw [hg];exact Nat.ne_of_lt (IsS131.lt (show IsS131 w0 _ g s0_0 s0_1 from m16_)) : g ≠ gb21));have NB21_0:=am ((by rw [hg];exact Nat.ne_of_gt (IsS131.lt (show IsS131 w0 _ g s0_0 s0_1 from m16_)) : gb21 ≠ g));replace HI0:=am (IsS131.below m16_ hb);clear hb hbox hg) | ((with_reducible refine gC 84 rfl ?_);refine gL (some 7) Tryz.func84 #[.pointer (some ⟨g,0,none⟩),.int .i64 2] ?_;(with_reducible refine (spec_l20Rd_pick.calls k g s0_0 s0_1 2 t3 t14 w0 _ ?side1 ?side2 A3.out).mono ?_);(case side1=>exact m17_);(case side2=>exact m18_);rintro e w16 ⟨rfl,hi,hb,hk⟩;refine ⟨_,rfl,?_⟩;replace BK21:=am (KeepBut.blk hk (g':=gb21) (o:=.cells #[.bool false,.int .i64 0,.int .i64 0,.int .i64 0,.int .i64 0,.int .i64 0,.int .i64 0] 35 (0,0)) (bk BK21) NB21_0.out (by simp));replace HK:=am (KeepBut.trans m19_ hk (.inl rfl));replace HB:=am hb;replace HI0:=am hi;(try clear hb);(try clear hk);(try clear hi)) | ((with_reducible refine gC 84 rfl ?_);refine gL (some 10) Tryz.func84 #[.pointer (some ⟨g,0,none⟩),.int .i64 4] ?_;(with_reducible refine (spec_l20Rd_pick.calls k g s0_0 t14 4 t4 t15 w0 _ ?side1 ?side2 A4.out).mono ?_);(case side1=>exact m17_);(case side2=>exact m18_);rintro e w17 ⟨rfl,hi,hb,hk⟩;refine ⟨_,rfl,?_⟩;replace BK21:=am (KeepBut.blk hk (g':=gb21) (o:=.cells #[.bool false,.int .i64 0,.int .i64 0,.int .i64 0,.int .i64 0,.int .i64 0,.int .i64 0] 35 (0,0)) (bk BK21) NB21_0.out (by simp));replace HK:=am (KeepBut.trans m19_ hk (.inl rfl));replace HB:=am hb;replace HI0:=am hi;(try clear hb);(try clear hk);(try clear hi)) | ((with_reducible refine gC 84 rfl ?_);refine gL (some 13) Tryz.func84 #[.pointer (some ⟨g,0,none⟩),.int .i64 4] ?_;(with_reducible refine (spec_l20Rd_pick.calls k g s0_0 t15 4 t5 t16 w0 _ ?side1 ?side2 A5.out).mono ?_);(case side1=>exact m17_);(case side2=>exact m18_);rintro e w18 ⟨rfl,hi,hb,hk⟩;refine ⟨_,rfl,?_⟩;replace BK21:=am (KeepBut.blk hk (g':=gb21) (o:=.cells #[.bool false,.int .i64 0,.int .i64 0,.int .i64 0,.int .i64 0,.int .i64 0,.int .i64 0] 35 (0,0)) (bk BK21) NB21_0.out (by simp));replace HK:=am (KeepBut.trans m19_ hk (.inl rfl));replace HB:=am hb;replace HI0:=am hi;(try clear hb);(try clear hk);(try clear hi)) | ((with_reducible refine gD 15 rfl ?_);refine Kd.R_lit (Kd.int .i64) _ 3 rfl (N:=15) rfl (xs:=([1,21,7] : List Int)) (inner:=[.int .i64 1,.int .i64 21,.int .i64 7]) (ok:=fun _=>True) (okp:=fun _=>True) hr_ ?hp (fun _ hk=>hk) trivial (Below.refl _ _) (Nat.le_refl _) (by simp) ?_;(case hp=>exact (Reps.one (show Kd.M (Kd.int .i64) _ _ _ 1 [.int .i64 1] from rfl) (Reps.one (show Kd.M (Kd.int .i64) _ _ _ 21 [.int .i64 21] from rfl) (Reps.one (show Kd.M (Kd.int .i64) _ _ _ 7 [.int .i64 7] from rfl) (Reps.none _ _)))));intro v22 w19 ho20 hb hg_ hnew_;clear hg_ hnew_;(first | rw [← Ny7.out] at ho20 | (simp only [Int.reduceToNat] at ho20;rw [← Ny7.out] at ho20));have HO23:=am (Kd.R_lower ho20 (keep_size (w:=w) (g:=g) (row:=none) m19_));replace BK21:=bkB BK21 hb;replace HK:=am (KeepBut.trans m19_ (KeepBut.of_below hb g none) (.inl rfl));replace HB:=am (below_step m18_ hb);replace HI0:=am (IsS131.below m17_ hb);clear hb ho20) | ((with_reducible refine gC 84 rfl ?_);refine gL (some 17) Tryz.func84 #[.pointer (some ⟨g,0,none⟩),.int .i64 3] ?_;(with_reducible refine (spec_l20Rd_pick.calls k g s0_0 t16 3 t8 t17 w0 _ ?side1 ?side2 A6.out).mono ?_);(case side1=>exact m17_);(case side2=>exact m18_);rintro e w21 ⟨rfl,hi,hb,hk⟩;refine ⟨_,rfl,?_⟩;replace BK21:=am (KeepBut.blk hk (g':=gb21) (o:=.cells #[.bool false,.int .i64 0,.int .i64 0,.int .i64 0,.int .i64 0,.int .i64 0,.int .i64 0] 35 (0,0)) (bk BK21) NB21_0.out (by simp));replace HO23:=am (Kd.R_mono (Kd.R_keep (IsS131.apart (show IsS131 w0 _ g s0_0 t16 from m17_) (rs HO23) (by decide)) hk (fun _ h=>h.2)) (fun _ h=>h.1));replace HK:=am (KeepBut.trans m19_ hk (.inl rfl));replace HB:=am hb;replace HI0:=am hi;(try clear hb);(try clear hk);(try clear hi);obtain ⟨Ao22,co22,eo22⟩:=Kd.R_slice HO23.out;subst eo22;have p24 : 0 ≤ (t8 : Int):=of_decide_eq_true da_;have q24 : t8 < (y7.length : Int):=of_decide_eq_true da_;obtain ⟨ad24,e24,hx24_0⟩:=Kd.at_int (Kd.R_reads' HO23.out).2.2 t8 p24 q24;cases e24;replace p24:=eq_true p24;replace q24:=eq_true q24) | ((with_reducible refine gD 5 rfl ?_);refine box_event rfl (N:=5) rfl (cs:=#[.bool false,.int .i64 0,.int .i64 0,.int .i64 0,.int .i64 0,.int .i64 0,.int .i64 0]) (t:=35) hr_ ?_;intro gb25 hg w23 hbox hb;replace HO23:=am (Kd.R_below (rs HO23) hb);replace HB:=am (below_step m18_ hb);have BK25:=am hbox;have GW25:=am ((by rw [hg];exact (keep_size (w:=w) (g:=g) (row:=none) m19_) : w.heap.size ≤ gb25));have GE25:=am ((Nat.le_trans HW0.out (by rw [hg];exact (keep_size (w:=w) (g:=g) (row:=none) m19_) : w.heap.size ≤ gb25) : w0.heap.size ≤ gb25));replace HK:=am (KeepBut.trans m19_ (KeepBut.of_below hb g none) (.inl rfl));have NB21_25:=neL BK21 hg;have NB25_21:=neG BK21 hg;replace BK21:=bkB BK21 hb;have NB0_25:=am ((by rw [hg];exact Nat.ne_of_lt (IsS131.lt (show IsS131 w0 _ g s0_0 t17 from m17_)) : g ≠ gb25));have NB25_0:=am ((by rw [hg];exact Nat.ne_of_gt (IsS131.lt (show IsS131 w0 _ g s0_0 t17 from m17_)) : gb25 ≠ g));replace HI0:=am (IsS131.below m17_ hb);clear hb hbox hg;have:=NB25_21.out;have:=NB21_25.out;have:=NB25_0.out;have:=NB0_25.out;have ⟨_,_,_,_,_,_,_,_,_,_,_,_,_,_⟩:=cf7 BK25))
     have n0_ : Aside0 (Kd.R (Kd.int .i64) 3 (((((((w23.setCell ⟨gb25,0,none⟩ (.bool (t3 == 0))).setCell ⟨gb25,1,none⟩ (.int .i64 (wrap64 (1 + t4)))).setCell ⟨gb25,2,none⟩ (.int .i64 0)).setCell ⟨gb25,3,none⟩ (.int .i64 (wrap64 (100 + t5)))).setCell ⟨gb25,4,none⟩ (.int .i64 0)).setCell ⟨gb25,5,none⟩ (.int .i64 (rd y7 t8))).setCell ⟨gb25,6,none⟩ (.int .i64 0)) w.heap.size (fun _=>True) (.slice (some ad24) y7.length co22) y7):=⟨by (with_reducible repeat apply ru);exact Kd.R_mono (Kd.R_far (p:=⟨gb25,6,none⟩) (Kd.R_far (p:=⟨gb25,5,none⟩) (Kd.R_far (p:=⟨gb25,4,none⟩) (Kd.R_far (p:=⟨gb25,3,none⟩) (Kd.R_far (p:=⟨gb25,2,none⟩) (Kd.R_far (p:=⟨gb25,1,none⟩) (Kd.R_far (p:=⟨gb25,0,none⟩) (Kd.R_types HO23.out BK25.out (by decide)) (fun _ hk=>hk.2) (.bool (t3 == 0))) (fun _ hk=>hk.2) (.int .i64 (wrap64 (1 + t4)))) (fun _ hk=>hk.2) (.int .i64 0)) (fun _ hk=>hk.2) (.int .i64 (wrap64 (100 + t5)))) (fun _ hk=>hk.2) (.int .i64 0)) (fun _ hk=>hk.2) (.int .i64 (rd y7 t8))) (fun _ hk=>hk.2) (.int .i64 0)) (fun _ hk=>trivial)⟩;have n1_ : Aside0 ((((((((w23.setCell ⟨gb25,0,none⟩ (.bool (t3 == 0))).setCell ⟨gb25,1,none⟩ (.int .i64 (wrap64 (1 + t4)))).setCell ⟨gb25,2,none⟩ (.int .i64 0)).setCell ⟨gb25,3,none⟩ (.int .i64 (wrap64 (100 + t5)))).setCell ⟨gb25,4,none⟩ (.int .i64 0)).setCell ⟨gb25,5,none⟩ (.int .i64 (rd y7 t8))).setCell ⟨gb25,6,none⟩ (.int .i64 0)).heap[gb21]? = some (.cells #[.bool false,.int .i64 0,.int .i64 0,.int .i64 0,.int .i64 0,.int .i64 0,.int .i64 0] 35 (0,0))):=bf_ BK21;have n2_ : Aside0 ((((((((w23.setCell ⟨gb25,0,none⟩ (.bool (t3 == 0))).setCell ⟨gb25,1,none⟩ (.int .i64 (wrap64 (1 + t4)))).setCell ⟨gb25,2,none⟩ (.int .i64 0)).setCell ⟨gb25,3,none⟩ (.int .i64 (wrap64 (100 + t5)))).setCell ⟨gb25,4,none⟩ (.int .i64 0)).setCell ⟨gb25,5,none⟩ (.int .i64 (rd y7 t8))).setCell ⟨gb25,6,none⟩ (.int .i64 0)).heap[gb25]? = some (.cells #[.bool (t3 == 0),.int .i64 (wrap64 (1 + t4)),.int .i64 0,.int .i64 (wrap64 (100 + t5)),.int .i64 0,.int .i64 (rd y7 t8),.int .i64 0] 35 (0,0))):=⟨by (with_reducible repeat refine bu ?_);refine blk_put (cs:=#[.bool (t3 == 0),.int .i64 (wrap64 (1 + t4)),.int .i64 0,.int .i64 (wrap64 (100 + t5)),.int .i64 0,.int .i64 (rd y7 t8),.int .i64 0]) ?_ 6 _ rfl;(with_reducible repeat refine bu ?_);refine blk_put (cs:=#[.bool (t3 == 0),.int .i64 (wrap64 (1 + t4)),.int .i64 0,.int .i64 (wrap64 (100 + t5)),.int .i64 0,.int .i64 0,.int .i64 0]) ?_ 5 _ rfl;(with_reducible repeat refine bu ?_);refine blk_put (cs:=#[.bool (t3 == 0),.int .i64 (wrap64 (1 + t4)),.int .i64 0,.int .i64 (wrap64 (100 + t5)),.int .i64 0,.int .i64 0,.int .i64 0]) ?_ 4 _ rfl;(with_reducible repeat refine bu ?_);refine blk_put (cs:=#[.bool (t3 == 0),.int .i64 (wrap64 (1 + t4)),.int .i64 0,.int .i64 0,.int .i64 0,.int .i64 0,.int .i64 0]) ?_ 3 _ rfl;(with_reducible repeat refine bu ?_);refine blk_put (cs:=#[.bool (t3 == 0),.int .i64 (wrap64 (1 + t4)),.int .i64 0,.int .i64 0,.int .i64 0,.int .i64 0,.int .i64 0]) ?_ 2 _ rfl;(with_reducible repeat refine bu ?_);refine blk_put (cs:=#[.bool (t3 == 0),.int .i64 0,.int .i64 0,.int .i64 0,.int .i64 0,.int .i64 0,.int .i64 0]) ?_ 1 _ rfl;(with_reducible repeat refine bu ?_);refine blk_put (cs:=#[.bool false,.int .i64 0,.int .i64 0,.int .i64 0,.int .i64 0,.int .i64 0,.int .i64 0]) ?_ 0 _ rfl;(with_reducible repeat refine bu ?_);exact BK25.out⟩
     have n3_ : Aside0 (IsS131 w0 (((((((w23.setCell ⟨gb25,0,none⟩ (.bool (t3 == 0))).setCell ⟨gb25,1,none⟩ (.int .i64 (wrap64 (1 + t4)))).setCell ⟨gb25,2,none⟩ (.int .i64 0)).setCell ⟨gb25,3,none⟩ (.int .i64 (wrap64 (100 + t5)))).setCell ⟨gb25,4,none⟩ (.int .i64 0)).setCell ⟨gb25,5,none⟩ (.int .i64 (rd y7 t8))).setCell ⟨gb25,6,none⟩ (.int .i64 0)) g s0_0 t17):=⟨m17_⟩;have n4_ : Aside0 (KeepBut w (((((((w23.setCell ⟨gb25,0,none⟩ (.bool (t3 == 0))).setCell ⟨gb25,1,none⟩ (.int .i64 (wrap64 (1 + t4)))).setCell ⟨gb25,2,none⟩ (.int .i64 0)).setCell ⟨gb25,3,none⟩ (.int .i64 (wrap64 (100 + t5)))).setCell ⟨gb25,4,none⟩ (.int .i64 0)).setCell ⟨gb25,5,none⟩ (.int .i64 (rd y7 t8))).setCell ⟨gb25,6,none⟩ (.int .i64 0)) g none):=⟨m19_⟩;have n5_ : Aside0 (Below w0.heap.size w0 (((((((w23.setCell ⟨gb25,0,none⟩ (.bool (t3 == 0))).setCell ⟨gb25,1,none⟩ (.int .i64 (wrap64 (1 + t4)))).setCell ⟨gb25,2,none⟩ (.int .i64 0)).setCell ⟨gb25,3,none⟩ (.int .i64 (wrap64 (100 + t5)))).setCell ⟨gb25,4,none⟩ (.int .i64 0)).setCell ⟨gb25,5,none⟩ (.int .i64 (rd y7 t8))).setCell ⟨gb25,6,none⟩ (.int .i64 0))):=⟨m18_⟩;(try clear HO23);(try clear BK21);(try clear BK25);(try clear HI0);(try clear HK);(try clear HB);generalize (((((((w23.setCell ⟨gb25,0,none⟩ (.bool (t3 == 0))).setCell ⟨gb25,1,none⟩ (.int .i64 (wrap64 (1 + t4)))).setCell ⟨gb25,2,none⟩ (.int .i64 0)).setCell ⟨gb25,3,none⟩ (.int .i64 (wrap64 (100 + t5)))).setCell ⟨gb25,4,none⟩ (.int .i64 0)).setCell ⟨gb25,5,none⟩ (.int .i64 (rd y7 t8))).setCell ⟨gb25,6,none⟩ (.int .i64 0)) = w27 at n0_ n1_ n2_ n3_ n4_ n5_ ⊢;have HO23:=n0_;have BK21:=n1_;have BK25:=n2_;have HI0:=n3_;have HK:=n4_;have HB:=n5_;clear n0_ n1_ n2_ n3_ n4_ n5_;replace HO23:=am (Kd.R_drew HO23.out);replace BK21:=am (blk_drew BK21.out);replace BK25:=am (blk_drew BK25.out);replace HI0:=am (IsS131.drew HI0.out);replace HK:=am (keep_drew HK.out);replace HB:=am (below_drew1 HB.out);refine start_ (n:=7) (S:=fun w'=>w'.cell? ⟨gb25,0,none⟩ = some (.bool (t3 == 0)) ∧ w'.cell? ⟨gb25,1,none⟩ = some (.int .i64 (wrap64 (1 + t4))) ∧ w'.cell? ⟨gb25,2,none⟩ = some (.int .i64 0) ∧ w'.cell? ⟨gb25,3,none⟩ = some (.int .i64 (wrap64 (100 + t5))) ∧ w'.cell? ⟨gb25,4,none⟩ = some (.int .i64 0) ∧ w'.cell? ⟨gb25,5,none⟩ = some (.int .i64 (rd y7 t8)) ∧ w'.cell? ⟨gb25,6,none⟩ = some (.int .i64 0)) (ds:=[6]) #[false,false,false,false,false,false,false] (by kernel_rfl) rfl rfl ⟨bcell BK25 0,bcell BK25 1,bcell BK25 2,bcell BK25 3,bcell BK25 4,bcell BK25 5,bcell BK25 6⟩ (fun hHeld=>?_);generalize w27.drew = w28 at HO23 BK21 BK25 HI0 HK HB hHeld ⊢;refine pu_ 0 (some 21) (bm 7 1) ?_;refine pu_ 2 (some 23) (bm 7 5) ?_;refine tk_ 1 (some 22) (bm 7 7) rfl (.inl ⟨rfl,m23_⟩) ?_;refine one_ (i:=3) (N:=some 24) #[true,true,true,true,false,false,false] rfl rfl (by kernel_rfl) (by decide) (fun K hK=>?_);refine gR Tryz.func84 #[.pointer (some ⟨g,0,none⟩),.int .i64 3] ?_
     with_reducible refine (spec_l20Rd_pick.calls k g s0_0 t17 3 t9 t18 w0 _ ?side1 ?side2 A9.out).mono ?_
     (case side1=>exact m17_)
     (case side2=>exact m18_)
     rintro e w29 ⟨rfl,hi,hb,hk⟩;refine ⟨_,rfl,?_⟩;replace BK21:=am (KeepBut.blk hk (g':=gb21) (o:=.cells #[.bool false,.int .i64 0,.int .i64 0,.int .i64 0,.int .i64 0,.int .i64 0,.int .i64 0] 35 (0,0)) (bk BK21) NB21_0.out (by simp));replace HO23:=am (Kd.R_mono (Kd.R_keep (IsS131.apart (show IsS131 w0 _ g s0_0 t17 from m17_) (rs HO23) (by decide)) hk (fun _ h=>h.2)) (fun _ h=>h.1));replace BK25:=am (KeepBut.blk hk (g':=gb25) (o:=.cells #[.bool (t3 == 0),.int .i64 (wrap64 (1 + t4)),.int .i64 0,.int .i64 (wrap64 (100 + t5)),.int .i64 0,.int .i64 (rd y7 t8),.int .i64 0] 35 (0,0)) (bk BK25) NB25_0.out (by simp));replace HK:=am (KeepBut.trans m19_ hk (.inl rfl));replace HB:=am hb;replace HI0:=am hi;(try clear hb);(try clear hb2);(try clear hk);(try clear hi);refine hK.out _ _ ⟨bcell BK25 0,bcell BK25 1,bcell BK25 2,bcell BK25 3,bcell BK25 4,bcell BK25 5,bcell BK25 6⟩ (fun hHeld=>?_);clear hK K;refine nm_ ?_;refine pu_ 4 (some 25) (bm 7 31) ?_;refine pu_ 5 (some 26) (bm 7 63) ?_;refine last_ (i:=6) (N:=none) #[true,true,true,true,true,true,true] rfl rfl (by kernel_rfl) (by decide) (fun K hK=>?_);have : w29.cell? ⟨gb25,2,none⟩ = some (.int .i64 0):=bcell BK25 2;have:=bfz BK25 2;have:=NB21_25.out;have:=NB25_21.out;refine skip_ (w1:=?_) (by rfl) rfl ?_ ?_
     rotate_left
     ·go_simp
      rfl
     refine hK.out _ _ ?_;clear hK K;refine done_ (by kernel_rfl) ?_
     try go_wp2
     have n0_ : Aside0 (Kd.R (Kd.int .i64) 3 (w29.setCell ⟨gb25,2,none⟩ (.int .i64 (wrap64 ((wrap64 (1 + t4)) + t9)))) w.heap.size (fun _=>True) (.slice (some ad24) y7.length co22) y7):=⟨by (with_reducible repeat apply ru);exact Kd.R_mono (Kd.R_far (p:=⟨gb25,2,none⟩) (Kd.R_types HO23.out BK25.out (by decide)) (fun _ hk=>hk.2) (.int .i64 (wrap64 ((wrap64 (1 + t4)) + t9)))) (fun _ hk=>trivial)⟩;have n1_ : Aside0 ((w29.setCell ⟨gb25,2,none⟩ (.int .i64 (wrap64 ((wrap64 (1 + t4)) + t9)))).heap[gb21]? = some (.cells #[.bool false,.int .i64 0,.int .i64 0,.int .i64 0,.int .i64 0,.int .i64 0,.int .i64 0] 35 (0,0))):=bf_ BK21;have n2_ : Aside0 ((w29.setCell ⟨gb25,2,none⟩ (.int .i64 (wrap64 ((wrap64 (1 + t4)) + t9)))).heap[gb25]? = some (.cells #[.bool (t3 == 0),.int .i64 (wrap64 (1 + t4)),.int .i64 (wrap64 ((wrap64 (1 + t4)) + t9)),.int .i64 (wrap64 (100 + t5)),.int .i64 0,.int .i64 (rd y7 t8),.int .i64 0] 35 (0,0))):=⟨by (with_reducible repeat refine bu ?_);refine blk_put (cs:=#[.bool (t3 == 0),.int .i64 (wrap64 (1 + t4)),.int .i64 0,.int .i64 (wrap64 (100 + t5)),.int .i64 0,.int .i64 (rd y7 t8),.int .i64 0]) ?_ 2 _ rfl;(with_reducible repeat refine bu ?_);exact BK25.out⟩;have n3_ : Aside0 (IsS131 w0 (w29.setCell ⟨gb25,2,none⟩ (.int .i64 (wrap64 ((wrap64 (1 + t4)) + t9)))) g s0_0 t18):=⟨m17_⟩;have n4_ : Aside0 (KeepBut w (w29.setCell ⟨gb25,2,none⟩ (.int .i64 (wrap64 ((wrap64 (1 + t4)) + t9)))) g none):=⟨m19_⟩;have n5_ : Aside0 (Below w0.heap.size w0 (w29.setCell ⟨gb25,2,none⟩ (.int .i64 (wrap64 ((wrap64 (1 + t4)) + t9))))):=⟨m18_⟩;(try clear HO23);(try clear BK21);(try clear BK25);(try clear HI0);(try clear HK);(try clear HB);generalize (w29.setCell ⟨gb25,2,none⟩ (.int .i64 (wrap64 ((wrap64 (1 + t4)) + t9)))) = w31 at n0_ n1_ n2_ n3_ n4_ n5_ ⊢;have HO23:=n0_;have BK21:=n1_;have BK25:=n2_;have HI0:=n3_;have HK:=n4_;have HB:=n5_;clear n0_ n1_ n2_ n3_ n4_ n5_;replace HO23:=am (Kd.R_drew HO23.out);replace BK21:=am (blk_drew BK21.out);replace BK25:=am (blk_drew BK25.out);replace HI0:=am (IsS131.drew HI0.out);replace HK:=am (keep_drew HK.out);replace HB:=am (below_drew1 HB.out);refine start_ (n:=7) (S:=fun w'=>w'.cell? ⟨gb25,0,none⟩ = some (.bool (t3 == 0)) ∧ w'.cell? ⟨gb25,1,none⟩ = some (.int .i64 (wrap64 (1 + t4))) ∧ w'.cell? ⟨gb25,2,none⟩ = some (.int .i64 (wrap64 ((wrap64 (1 + t4)) + t9))) ∧ w'.cell? ⟨gb25,3,none⟩ = some (.int .i64 (wrap64 (100 + t5))) ∧ w'.cell? ⟨gb25,4,none⟩ = some (.int .i64 0) ∧ w'.cell? ⟨gb25,5,none⟩ = some (.int .i64 (rd y7 t8)) ∧ w'.cell? ⟨gb25,6,none⟩ = some (.int .i64 0)) (ds:=[6]) #[false,false,false,false,false,false,false] (by kernel_rfl) rfl rfl ⟨bcell BK25 0,bcell BK25 1,bcell BK25 2,bcell BK25 3,bcell BK25 4,bcell BK25 5,bcell BK25 6⟩ (fun hHeld=>?_);generalize w31.drew = w32 at HO23 BK21 BK25 HI0 HK HB hHeld ⊢;refine pu_ 0 (some 27) (bm 7 1) ?_;refine pu_ 2 (some 29) (bm 7 5) ?_;refine tk_ 1 (some 28) (bm 7 7) rfl (.inl ⟨rfl,m23_⟩) ?_
     refine one_ (i:=3) (N:=some 30) #[true,true,true,true,false,false,false] rfl rfl (by kernel_rfl) (by decide) (fun K hK=>?_);refine gR Tryz.func84 #[.pointer (some ⟨g,0,none⟩),.int .i64 3] ?_
     with_reducible refine (spec_l20Rd_pick.calls k g s0_0 t18 3 t10 t19 w0 _ ?side1 ?side2 A10.out).mono ?_
     (case side1=>exact m17_)
     (case side2=>exact m18_)
     rintro e w33 ⟨rfl,hi,hb,hk⟩;refine ⟨_,rfl,?_⟩;replace BK21:=am (KeepBut.blk hk (g':=gb21) (o:=.cells #[.bool false,.int .i64 0,.int .i64 0,.int .i64 0,.int .i64 0,.int .i64 0,.int .i64 0] 35 (0,0)) (bk BK21) NB21_0.out (by simp));replace HO23:=am (Kd.R_mono (Kd.R_keep (IsS131.apart (show IsS131 w0 _ g s0_0 t18 from m17_) (rs HO23) (by decide)) hk (fun _ h=>h.2)) (fun _ h=>h.1));replace BK25:=am (KeepBut.blk hk (g':=gb25) (o:=.cells #[.bool (t3 == 0),.int .i64 (wrap64 (1 + t4)),.int .i64 (wrap64 ((wrap64 (1 + t4)) + t9)),.int .i64 (wrap64 (100 + t5)),.int .i64 0,.int .i64 (rd y7 t8),.int .i64 0] 35 (0,0)) (bk BK25) NB25_0.out (by simp));replace HK:=am (KeepBut.trans m19_ hk (.inl rfl));replace HB:=am hb;replace HI0:=am hi;(try clear hb);(try clear hb2);(try clear hk);(try clear hi);refine hK.out _ _ ⟨bcell BK25 0,bcell BK25 1,bcell BK25 2,bcell BK25 3,bcell BK25 4,bcell BK25 5,bcell BK25 6⟩ (fun hHeld=>?_);clear hK K;refine nm_ ?_;refine pu_ 4 (some 31) (bm 7 31) ?_;refine pu_ 5 (some 32) (bm 7 63) ?_;refine last_ (i:=6) (N:=none) #[true,true,true,true,true,true,true] rfl rfl (by kernel_rfl) (by decide) (fun K hK=>?_);have : w33.cell? ⟨gb25,4,none⟩ = some (.int .i64 0):=bcell BK25 4;have:=bfz BK25 4;have:=NB21_25.out;have:=NB25_21.out;refine skip_ (w1:=?_) (by rfl) rfl ?_ ?_
     rotate_left
     ·go_simp
      rfl
     refine hK.out _ _ ?_;clear hK K;refine done_ (by kernel_rfl) ?_
     try go_wp2
     have pi129 : (0 ≤ (t13 : Int)) = True:=eq_true (of_decide_eq_true da_);have qi129 : (t13 < (y11.length : Int)) = True:=eq_true (of_decide_eq_true da_);have n0_ : Aside0 (Kd.R (Kd.int .i64) 3 (w33.setCell ⟨gb25,4,none⟩ (.int .i64 (wrap64 ((wrap64 (100 + t5)) + t10)))) w.heap.size (fun _=>True) (.slice (some ad24) y7.length co22) y7):=⟨by (with_reducible repeat apply ru);exact Kd.R_mono (Kd.R_far (p:=⟨gb25,4,none⟩) (Kd.R_types HO23.out BK25.out (by decide)) (fun _ hk=>hk.2) (.int .i64 (wrap64 ((wrap64 (100 + t5)) + t10)))) (fun _ hk=>trivial)⟩;have n1_ : Aside0 ((w33.setCell ⟨gb25,4,none⟩ (.int .i64 (wrap64 ((wrap64 (100 + t5)) + t10)))).heap[gb21]? = some (.cells #[.bool false,.int .i64 0,.int .i64 0,.int .i64 0,.int .i64 0,.int .i64 0,.int .i64 0] 35 (0,0))):=bf_ BK21;have n2_ : Aside0 ((w33.setCell ⟨gb25,4,none⟩ (.int .i64 (wrap64 ((wrap64 (100 + t5)) + t10)))).heap[gb25]? = some (.cells #[.bool (t3 == 0),.int .i64 (wrap64 (1 + t4)),.int .i64 (wrap64 ((wrap64 (1 + t4)) + t9)),.int .i64 (wrap64 (100 + t5)),.int .i64 (wrap64 ((wrap64 (100 + t5)) + t10)),.int .i64 (rd y7 t8),.int .i64 0] 35 (0,0))):=⟨by (with_reducible repeat refine bu ?_);refine blk_put (cs:=#[.bool (t3 == 0),.int .i64 (wrap64 (1 + t4)),.int .i64 (wrap64 ((wrap64 (1 + t4)) + t9)),.int .i64 (wrap64 (100 + t5)),.int .i64 0,.int .i64 (rd y7 t8),.int .i64 0]) ?_ 4 _ rfl;(with_reducible repeat refine bu ?_);exact BK25.out⟩;have n3_ : Aside0 (IsS131 w0 (w33.setCell ⟨gb25,4,none⟩ (.int .i64 (wrap64 ((wrap64 (100 + t5)) + t10)))) g s0_0 t19):=⟨m17_⟩;have n4_ : Aside0 (KeepBut w (w33.setCell ⟨gb25,4,none⟩ (.int .i64 (wrap64 ((wrap64 (100 + t5)) + t10)))) g none):=⟨m19_⟩;have n5_ : Aside0 (Below w0.heap.size w0 (w33.setCell ⟨gb25,4,none⟩ (.int .i64 (wrap64 ((wrap64 (100 + t5)) + t10))))):=⟨m18_⟩;(try clear HO23);(try clear BK21);(try clear BK25);(try clear HI0);(try clear HK);(try clear HB);generalize (w33.setCell ⟨gb25,4,none⟩ (.int .i64 (wrap64 ((wrap64 (100 + t5)) + t10)))) = w35 at n0_ n1_ n2_ n3_ n4_ n5_ ⊢;have HO23:=n0_;have BK21:=n1_;have BK25:=n2_;have HI0:=n3_;have HK:=n4_;have HB:=n5_;clear n0_ n1_ n2_ n3_ n4_ n5_;replace HO23:=am (Kd.R_drew HO23.out);replace BK21:=am (blk_drew BK21.out);replace BK25:=am (blk_drew BK25.out);replace HI0:=am (IsS131.drew HI0.out);replace HK:=am (keep_drew HK.out);replace HB:=am (below_drew1 HB.out);refine start_ (n:=9) (S:=fun w'=>w'.cell? ⟨gb25,0,none⟩ = some (.bool (t3 == 0)) ∧ w'.cell? ⟨gb25,1,none⟩ = some (.int .i64 (wrap64 (1 + t4))) ∧ w'.cell? ⟨gb25,2,none⟩ = some (.int .i64 (wrap64 ((wrap64 (1 + t4)) + t9))) ∧ w'.cell? ⟨gb25,3,none⟩ = some (.int .i64 (wrap64 (100 + t5))) ∧ w'.cell? ⟨gb25,4,none⟩ = some (.int .i64 (wrap64 ((wrap64 (100 + t5)) + t10))) ∧ w'.cell? ⟨gb25,5,none⟩ = some (.int .i64 (rd y7 t8)) ∧ w'.cell? ⟨gb25,6,none⟩ = some (.int .i64 0)) (ds:=[8]) #[false,false,false,false,false,false,false,false,false] (by kernel_rfl) rfl rfl ⟨bcell BK25 0,bcell BK25 1,bcell BK25 2,bcell BK25 3,bcell BK25 4,bcell BK25 5,bcell BK25 6⟩ (fun hHeld=>?_);refine with_tabW spec_l20Rule.tab4 spec_l20Rule.bits4 (fun HT_ HW_=>?_)
     generalize w35.drew = w36 at HO23 BK21 BK25 HI0 HK HB hHeld ⊢;refine pu_ 0 (some 33) (bm 9 1) ?_;refine pu_ 3 (some 36) (bm 9 9) ?_;refine tk_ 1 (some 34) (bm 9 11) rfl (.inl ⟨rfl,m23_⟩) ?_;refine join_ (σ:=Value × Addr) 4 #[true,true,true,true,true,false,false,false,false] (fun s_=>[(35,s_.1),(37,.int .i64 t13)]) (fun s_ w'=>(w'.cell? ⟨gb25,0,none⟩ = some (.bool (t3 == 0)) ∧ w'.cell? ⟨gb25,1,none⟩ = some (.int .i64 (wrap64 (1 + t4))) ∧ w'.cell? ⟨gb25,2,none⟩ = some (.int .i64 (wrap64 ((wrap64 (1 + t4)) + t9))) ∧ w'.cell? ⟨gb25,3,none⟩ = some (.int .i64 (wrap64 (100 + t5))) ∧ w'.cell? ⟨gb25,4,none⟩ = some (.int .i64 (wrap64 ((wrap64 (100 + t5)) + t10))) ∧ w'.cell? ⟨gb25,5,none⟩ = some (.int .i64 (rd y7 t8)) ∧ w'.cell? ⟨gb25,6,none⟩ = some (.int .i64 0)) ∧ (Kd.R (Kd.int .i64) 3 w' w.heap.size (fun k_=>some k_ ≠ (s_.1 : Value).ownBlock) (.slice (some ad24) y7.length co22) y7) ∧ (Kd.R (Kd.int .i64) 3 w' w.heap.size (fun k_=>some k_ ≠ (.slice (some ad24) y7.length co22 : Value).ownBlock) s_.1 y11) ∧ (∃ c_,(s_.1 : Value) = .slice (some s_.2) y11.length c_) ∧ (w'.heap[gb21]? = some (.cells #[.bool false,.int .i64 0,.int .i64 0,.int .i64 0,.int .i64 0,.int .i64 0,.int .i64 0] 35 (0,0))) ∧ (w'.heap[gb25]? = some (.cells #[.bool (t3 == 0),.int .i64 (wrap64 (1 + t4)),.int .i64 (wrap64 ((wrap64 (1 + t4)) + t9)),.int .i64 (wrap64 (100 + t5)),.int .i64 (wrap64 ((wrap64 (100 + t5)) + t10)),.int .i64 (rd y7 t8),.int .i64 0] 35 (0,0))) ∧ (IsS131 w0 w' g s0_0 t20) ∧ (KeepBut w w' g none) ∧ (Below w0.heap.size w0 w')) ?_ ?_
     rotate_left
     ·intro hCont;refine two_ (i:=2) (j:=4) (Ni:=some 35) (Nj:=some 37) #[true,true,true,true,false,false,false,false,false] #[true,true,false,true,true,false,false,false,false] rfl rfl rfl rfl (two_of HT_.out (by kernel_rfl)) (by decide) (by decide) (fun K hK=>?_) (fun K hK=>?_)
      ·skip
       refine Kd.R_lit_step (Kd.int .i64) _ 3 rfl (N:=35) rfl (xs:=([999,21,rd y7 t8] : List Int)) (inner:=[.int .i64 999,.int .i64 21,.int .i64 (rd y7 t8)]) (ok:=fun _=>True) (okp:=fun _=>True) hr_ ?hp (fun _ hk=>hk) trivial (Below.refl _ _) (Nat.le_refl _) (by simp) ?_;(case hp=>exact (Reps.one (show Kd.M (Kd.int .i64) _ _ _ 999 [.int .i64 999] from rfl) (Reps.one (show Kd.M (Kd.int .i64) _ _ _ 21 [.int .i64 21] from rfl) (Reps.one (show Kd.M (Kd.int .i64) _ _ _ (rd y7 t8) [.int .i64 (rd y7 t8)] from rfl) (Reps.none _ _)))));intro v26 w37 ho38 hb hg_ hnew_;clear hg_ hnew_;(first | rw [← Ny11.out] at ho38 | (simp only [Int.reduceToNat] at ho38;rw [← Ny11.out] at ho38));have HO27:=am (Kd.R_lower (Kd.R_new' ho38 (Kd.R_lt (rs HO23))) (keep_size (w:=w) (g:=g) (row:=none) m19_));replace HO23:=am (Kd.R_elder' (rs HO23) (Kd.R_base ho38) hb);replace BK21:=bkB BK21 hb;replace BK25:=bkB BK25 hb;replace HK:=am (KeepBut.trans m19_ (KeepBut.of_below hb g none) (.inl rfl));replace HB:=am (below_step m18_ hb);replace HI0:=am (IsS131.below m17_ hb);clear hb ho38;obtain ⟨Ao39,co39,eo39⟩:=Kd.R_slice HO27.out;subst eo39;obtain ⟨ado39,fo39,_⟩:=Kd.at_int (Kd.R_reads' HO27.out).2.2 0 (by decide) (by rw [Ny11.out];simp);cases fo39;refine hK.out _ _ ⟨bcell BK25 0,bcell BK25 1,bcell BK25 2,bcell BK25 3,bcell BK25 4,bcell BK25 5,bcell BK25 6⟩ (fun hHeld=>?_);clear hK K;refine nm_ ?_;refine on_ 4 (some 37) (bm 9 31) (fun K hK=>?_);refine gR Tryz.func84 #[.pointer (some ⟨g,0,none⟩),.int .i64 3] ?_
       with_reducible refine (spec_l20Rd_pick.calls k g s0_0 t19 3 t13 t20 w0 _ ?side1 ?side2 A11.out).mono ?_
       (case side1=>exact m17_)
       (case side2=>exact m18_)
       rintro e w40 ⟨rfl,hi,hb,hk⟩;refine ⟨_,rfl,?_⟩;replace BK21:=am (KeepBut.blk hk (g':=gb21) (o:=.cells #[.bool false,.int .i64 0,.int .i64 0,.int .i64 0,.int .i64 0,.int .i64 0,.int .i64 0] 35 (0,0)) (bk BK21) NB21_0.out (by simp));replace HO23:=am (Kd.R_mono (Kd.R_keep (IsS131.apart (show IsS131 w0 _ g s0_0 t19 from m17_) (rs HO23) (by decide)) hk (fun _ h=>h.2)) (fun _ h=>h.1));replace BK25:=am (KeepBut.blk hk (g':=gb25) (o:=.cells #[.bool (t3 == 0),.int .i64 (wrap64 (1 + t4)),.int .i64 (wrap64 ((wrap64 (1 + t4)) + t9)),.int .i64 (wrap64 (100 + t5)),.int .i64 (wrap64 ((wrap64 (100 + t5)) + t10)),.int .i64 (rd y7 t8),.int .i64 0] 35 (0,0)) (bk BK25) NB25_0.out (by simp));replace HO27:=am (Kd.R_mono (Kd.R_keep (IsS131.apart (show IsS131 w0 _ g s0_0 t19 from m17_) (rs HO27) (by decide)) hk (fun _ h=>h.2)) (fun _ h=>h.1));replace HK:=am (KeepBut.trans m19_ hk (.inl rfl));replace HB:=am hb;replace HI0:=am hi;(try clear hb);(try clear hb2);(try clear hk);(try clear hi);refine hK.out _ _ ⟨bcell BK25 0,bcell BK25 1,bcell BK25 2,bcell BK25 3,bcell BK25 4,bcell BK25 5,bcell BK25 6⟩ (fun hHeld=>?_);clear hK K;refine nm_ ?_;exact norm_ (by simp only [putAll,Act.put,List.setIfInBounds_toArray,List.set_cons_zero,List.set_cons_succ]) (hCont (.slice (some ado39) y11.length co39,ado39) _ ⟨hHeld,(by (with_reducible repeat apply ru);exact Kd.R_mono HO23.out (fun _ hk=>hk.2)),(by (with_reducible repeat apply ru);exact Kd.R_mono HO27.out (fun _ hk=>hk.2)),⟨_,rfl⟩,(bk BK21),(bk BK25),m17_,m19_,m18_⟩)
      ·skip
       refine gR Tryz.func84 #[.pointer (some ⟨g,0,none⟩),.int .i64 3] ?_
       with_reducible refine (spec_l20Rd_pick.calls k g s0_0 t19 3 t13 t20 w0 _ ?side1 ?side2 A11.out).mono ?_
       (case side1=>exact m17_)
       (case side2=>exact m18_)
       rintro e w37 ⟨rfl,hi,hb,hk⟩;refine ⟨_,rfl,?_⟩;replace BK21:=am (KeepBut.blk hk (g':=gb21) (o:=.cells #[.bool false,.int .i64 0,.int .i64 0,.int .i64 0,.int .i64 0,.int .i64 0,.int .i64 0] 35 (0,0)) (bk BK21) NB21_0.out (by simp));replace HO23:=am (Kd.R_mono (Kd.R_keep (IsS131.apart (show IsS131 w0 _ g s0_0 t19 from m17_) (rs HO23) (by decide)) hk (fun _ h=>h.2)) (fun _ h=>h.1));replace BK25:=am (KeepBut.blk hk (g':=gb25) (o:=.cells #[.bool (t3 == 0),.int .i64 (wrap64 (1 + t4)),.int .i64 (wrap64 ((wrap64 (1 + t4)) + t9)),.int .i64 (wrap64 (100 + t5)),.int .i64 (wrap64 ((wrap64 (100 + t5)) + t10)),.int .i64 (rd y7 t8),.int .i64 0] 35 (0,0)) (bk BK25) NB25_0.out (by simp));replace HK:=am (KeepBut.trans m19_ hk (.inl rfl));replace HB:=am hb;replace HI0:=am hi;(try clear hb);(try clear hb2);(try clear hk);(try clear hi);refine hK.out _ _ ⟨bcell BK25 0,bcell BK25 1,bcell BK25 2,bcell BK25 3,bcell BK25 4,bcell BK25 5,bcell BK25 6⟩ (fun hHeld=>?_);clear hK K;refine nm_ ?_;refine on_ 2 (some 35) (bm 9 31) (fun K hK=>?_);refine Kd.R_lit_step (Kd.int .i64) _ 3 rfl (N:=35) rfl (xs:=([999,21,rd y7 t8] : List Int)) (inner:=[.int .i64 999,.int .i64 21,.int .i64 (rd y7 t8)]) (ok:=fun _=>True) (okp:=fun _=>True) hr_ ?hp (fun _ hk=>hk) trivial (Below.refl _ _) (Nat.le_refl _) (by simp) ?_;(case hp=>exact (Reps.one (show Kd.M (Kd.int .i64) _ _ _ 999 [.int .i64 999] from rfl) (Reps.one (show Kd.M (Kd.int .i64) _ _ _ 21 [.int .i64 21] from rfl) (Reps.one (show Kd.M (Kd.int .i64) _ _ _ (rd y7 t8) [.int .i64 (rd y7 t8)] from rfl) (Reps.none _ _)))));intro v26 w38 ho39 hb hg_ hnew_;clear hg_ hnew_;(first | rw [← Ny11.out] at ho39 | (simp only [Int.reduceToNat] at ho39;rw [← Ny11.out] at ho39));have HO27:=am (Kd.R_lower (Kd.R_new' ho39 (Kd.R_lt (rs HO23))) (keep_size (w:=w) (g:=g) (row:=none) m19_));replace HO23:=am (Kd.R_elder' (rs HO23) (Kd.R_base ho39) hb);replace BK21:=bkB BK21 hb;replace BK25:=bkB BK25 hb;replace HK:=am (KeepBut.trans m19_ (KeepBut.of_below hb g none) (.inl rfl));replace HB:=am (below_step m18_ hb);replace HI0:=am (IsS131.below m17_ hb);clear hb ho39;obtain ⟨Ao40,co40,eo40⟩:=Kd.R_slice HO27.out;subst eo40;obtain ⟨ado40,fo40,_⟩:=Kd.at_int (Kd.R_reads' HO27.out).2.2 0 (by decide) (by rw [Ny11.out];simp);cases fo40;refine hK.out _ _ ⟨bcell BK25 0,bcell BK25 1,bcell BK25 2,bcell BK25 3,bcell BK25 4,bcell BK25 5,bcell BK25 6⟩ (fun hHeld=>?_);clear hK K;refine nm_ ?_;exact norm_ (by simp only [putAll,Act.put,List.setIfInBounds_toArray,List.set_cons_zero,List.set_cons_succ]) (hCont (.slice (some ado40) y11.length co40,ado40) _ ⟨hHeld,(by (with_reducible repeat apply ru);exact Kd.R_mono HO23.out (fun _ hk=>hk.2)),(by (with_reducible repeat apply ru);exact Kd.R_mono HO27.out (fun _ hk=>hk.2)),⟨_,rfl⟩,(bk BK21),(bk BK25),m17_,m19_,m18_⟩)
     rintro ⟨v26,adz_v125⟩ w41 ⟨hS_,h0_,h1_,h2_,h3_,h4_,h5_,h6_,h7_⟩;have n0_ : Aside0 (Kd.R (Kd.int .i64) 3 w41 w.heap.size (fun k_=>some k_ ≠ (v26 : Value).ownBlock) (.slice (some ad24) y7.length co22) y7):=⟨h0_⟩;have n1_ : Aside0 (Kd.R (Kd.int .i64) 3 w41 w.heap.size (fun k_=>some k_ ≠ (.slice (some ad24) y7.length co22 : Value).ownBlock) v26 y11):=⟨h1_⟩;have n2_ : Aside0 (∃ c_,(v26 : Value) = .slice (some adz_v125) y11.length c_):=⟨h2_⟩;have n3_ : Aside0 (w41.heap[gb21]? = some (.cells #[.bool false,.int .i64 0,.int .i64 0,.int .i64 0,.int .i64 0,.int .i64 0,.int .i64 0] 35 (0,0))):=⟨h3_⟩;have n4_ : Aside0 (w41.heap[gb25]? = some (.cells #[.bool (t3 == 0),.int .i64 (wrap64 (1 + t4)),.int .i64 (wrap64 ((wrap64 (1 + t4)) + t9)),.int .i64 (wrap64 (100 + t5)),.int .i64 (wrap64 ((wrap64 (100 + t5)) + t10)),.int .i64 (rd y7 t8),.int .i64 0] 35 (0,0))):=⟨h4_⟩;have n5_ : Aside0 (IsS131 w0 w41 g s0_0 t20):=⟨h5_⟩;have n6_ : Aside0 (KeepBut w w41 g none):=⟨h6_⟩;have n7_ : Aside0 (Below w0.heap.size w0 w41):=⟨h7_⟩;clear HO23;clear BK21;clear BK25;clear HI0;clear HK;clear HB;clear h0_ h1_ h2_ h3_ h4_ h5_ h6_ h7_;have HO23:=n0_;have HO27:=n1_;have HA_HO126:=n2_;have BK21:=n3_;have BK25:=n4_;have HI0:=n5_;have HK:=n6_;have HB:=n7_;clear n0_ n1_ n2_ n3_ n4_ n5_ n6_ n7_;have hHeld : w41.cell? ⟨gb25,0,none⟩ = some (.bool (t3 == 0)) ∧ w41.cell? ⟨gb25,1,none⟩ = some (.int .i64 (wrap64 (1 + t4))) ∧ w41.cell? ⟨gb25,2,none⟩ = some (.int .i64 (wrap64 ((wrap64 (1 + t4)) + t9))) ∧ w41.cell? ⟨gb25,3,none⟩ = some (.int .i64 (wrap64 (100 + t5))) ∧ w41.cell? ⟨gb25,4,none⟩ = some (.int .i64 (wrap64 ((wrap64 (100 + t5)) + t10))) ∧ w41.cell? ⟨gb25,5,none⟩ = some (.int .i64 (rd y7 t8)) ∧ w41.cell? ⟨gb25,6,none⟩ = some (.int .i64 0):=hS_;obtain ⟨co42,eo42⟩:=HA_HO126.out;clear HA_HO126;subst eo42;refine norm_ (a':=?_) ?_ ?_
     rotate_left
     ·simp only [putAll,Act.put,List.setIfInBounds_toArray,List.set_cons_zero,List.set_cons_succ]
      rfl
     refine pu_ 5 (some 38) (bm 9 63) ?_;refine on_ 6 (some 39) (bm 9 127) (fun K hK=>?_)
     (have p28 : 0 ≤ (t13 : Int):=of_decide_eq_true da_;have q28 : t13 < (y11.length : Int):=of_decide_eq_true da_;obtain ⟨ad28,e28,hx28_0⟩:=Kd.at_int (Kd.R_reads' HO27.out).2.2 t13 p28 q28;obtain rfl : adz_v125 = ad28:=(by injection e28))
     refine value_ (w1:=?_) (v:=?_) (by rfl) rfl ?_ ?_
     rotate_left 2
     ·go_simp
      constructor
      ·rfl
      ·rfl
     clear hx28_0;refine hK.out _ _ ⟨bcell BK25 0,bcell BK25 1,bcell BK25 2,bcell BK25 3,bcell BK25 4,bcell BK25 5,bcell BK25 6⟩ (fun hHeld=>?_);clear hK K;refine nm_ ?_;refine pu_ 7 (some 40) (bm 9 255) ?_;refine last_ (i:=8) (N:=none) #[true,true,true,true,true,true,true,true,true] rfl rfl (one_of HT_.out (by kernel_rfl)) (by decide) (fun K hK=>?_);have : w41.cell? ⟨gb25,6,none⟩ = some (.int .i64 0):=bcell BK25 6;have:=bfz BK25 6;have:=NB21_25.out;have:=NB25_21.out;refine skip_ (w1:=?_) (by rfl) rfl ?_ ?_
     rotate_left
     ·go_simp
      rfl
     refine hK.out _ _ ?_;clear hK K;refine done_ (done_of HT_.out (by kernel_rfl)) ?_;have ⟨hcz44_0,hcz44_1,hcz44_2,hcz44_3,hcz44_4,hcz44_5,hcz44_6,hfz44_0,hfz44_1,hfz44_2,hfz44_3,hfz44_4,hfz44_5,hfz44_6⟩:=cf7 BK25
     go_upto_if 45 with (fail)
     go_cut [] (fun wc=>∃ (kq : Nat) (x120006_13 : Int),Aside0 (spec_l20Rule.j0 kq a1 s0_0 t20 (t3 == 0) (wrap64 (1 + t4)) (wrap64 ((wrap64 (1 + t4)) + t9)) (wrap64 (100 + t5)) (wrap64 ((wrap64 (100 + t5)) + t10)) (rd y7 t8) x120006_13 = some (r1,r2,r3,r4,r5,r6,r7,r8)) ∧ Aside0 (kq ≤ k) ∧ Aside0 (wc.heap[gb21]? = some (.cells #[.bool false,.int .i64 0,.int .i64 0,.int .i64 0,.int .i64 0,.int .i64 0,.int .i64 0] 35 (0,0))) ∧ Aside0 (wc.heap[gb25]? = some (.cells #[.bool (t3 == 0),.int .i64 (wrap64 (1 + t4)),.int .i64 (wrap64 ((wrap64 (1 + t4)) + t9)),.int .i64 (wrap64 (100 + t5)),.int .i64 (wrap64 ((wrap64 (100 + t5)) + t10)),.int .i64 (rd y7 t8),.int .i64 x120006_13] 35 (0,0))) ∧ Aside0 (IsS131 w0 wc g s0_0 t20) ∧ Aside0 (KeepBut w wc g none) ∧ Aside0 (Below w0.heap.size w0 wc))
     case first=>
      have H:=HC14.out;clear HC14
      by_cases c45 : (rd y11 t13) < (rd y7 t8)
      ·rw [if_pos c45] at H;have c45b0 : decide ((rd y11 t13) < (rd y7 t8)) = true:=decide_eq_true c45;clear c45;(first | rw [c45b0] | (simp only [i64_w,i32_w];rw [c45b0]) | skip);have H':=am H;clear H;have:=NB25_21.out;have:=NB21_25.out;have:=NB25_0.out;have:=NB0_25.out;have ⟨hcz48_0,hcz48_1,hcz48_2,hcz48_3,hcz48_4,hcz48_5,hcz48_6,hfz48_0,hfz48_1,hfz48_2,hfz48_3,hfz48_4,hfz48_5,hfz48_6⟩:=cf7 BK25
       go_wp2
       go_meet
       case rel=>exact ⟨_,(rd y7 t8),H',⟨by first | omega | exact Nat.le_refl _⟩,bf_ BK21,⟨by (with_reducible repeat refine bu ?_);refine blk_put (cs:=#[.bool (t3 == 0),.int .i64 (wrap64 (1 + t4)),.int .i64 (wrap64 ((wrap64 (1 + t4)) + t9)),.int .i64 (wrap64 (100 + t5)),.int .i64 (wrap64 ((wrap64 (100 + t5)) + t10)),.int .i64 (rd y7 t8),.int .i64 (rd y11 t13)]) ?_ 6 _ rfl;(with_reducible repeat refine bu ?_);refine blk_put (cs:=#[.bool (t3 == 0),.int .i64 (wrap64 (1 + t4)),.int .i64 (wrap64 ((wrap64 (1 + t4)) + t9)),.int .i64 (wrap64 (100 + t5)),.int .i64 (wrap64 ((wrap64 (100 + t5)) + t10)),.int .i64 (rd y7 t8),.int .i64 0]) ?_ 6 _ rfl;(with_reducible repeat refine bu ?_);exact BK25.out⟩,⟨m17_⟩,⟨m19_⟩,⟨m18_⟩⟩
      ·rw [if_neg c45] at H;have c45b0 : decide ((rd y11 t13) < (rd y7 t8)) = false:=decide_eq_false c45;clear c45;(first | rw [c45b0] | (simp only [i64_w,i32_w];rw [c45b0]) | skip);have H':=am H;clear H
       go_wp2
       go_meet
       case rel=>exact ⟨_,(rd y11 t13),H',⟨by first | omega | exact Nat.le_refl _⟩,bf_ BK21,⟨by (with_reducible repeat refine bu ?_);refine blk_put (cs:=#[.bool (t3 == 0),.int .i64 (wrap64 (1 + t4)),.int .i64 (wrap64 ((wrap64 (1 + t4)) + t9)),.int .i64 (wrap64 (100 + t5)),.int .i64 (wrap64 ((wrap64 (100 + t5)) + t10)),.int .i64 (rd y7 t8),.int .i64 0]) ?_ 6 _ rfl;(with_reducible repeat refine bu ?_);exact BK25.out⟩,⟨m17_⟩,⟨m19_⟩,⟨m18_⟩⟩
     case rest=>
      clear HC14;(try clear p1);(try clear q1);(try clear hx1);(try clear qi1);(try clear p2);(try clear c4);(try clear p6);(try clear c8);(try clear p12);(try clear q12);(try clear hx12);(try clear qi12);(try clear c45);(try clear c45b0);(try clear c46);(try clear c47);(try clear hcz44_0 hcz44_1 hcz44_2 hcz44_3 hcz44_4 hcz44_5 hcz44_6 hcz48_0 hcz48_1 hcz48_2 hcz48_3 hcz48_4 hcz48_5 hcz48_6 hfz44_0 hfz44_1 hfz44_2 hfz44_3 hfz44_4 hfz44_5 hfz44_6 hfz48_0 hfz48_1 hfz48_2 hfz48_3 hfz48_4 hfz48_5 hfz48_6);(try clear hx28_0);(try clear p28);(try clear q28);obtain ⟨kq,x120006_13,HA,HJ13,BK21,BK25,HI0,HK,HB⟩:=hcut
      cases kq with
      | zero=>exact absurd HA.out (by simp [spec_l20Rule.j0])
      | succ kj13=>
       have H:=HA.out;clear HA;simp only [spec_l20Rule.j0] at H;obtain ⟨⟨t29,t30⟩,A49,H⟩:=bse H
       try dsimp only at H
       by_cases c50 : t29 = true
       ·subst c50;rw [if_pos rfl] at H;obtain ⟨⟨t31,t32⟩,A51,H⟩:=bse H
        try dsimp only at H
        by_cases c52 : t31 = 0
        ·rw [if_pos c52] at H;have c52b0 : (t31 == 0) = true:=beq_iff_eq.mpr c52;have c52b1 : (t31 != 0) = false:=bne_eq_false_iff_eq.mpr c52;clear c52;obtain ⟨y33,hy33⟩ : ∃ y_ : List Int,y_ = (([0,9,(-1)] : List Int)):=⟨_,rfl⟩;replace H : ((spec_l20Rd_pick.f kj13 s0_0 t32 3).bind fun bt34=>(if 0 ≤ bt34.1 then (if bt34.1 < (y33.length : Int) then (some ((t3 == 0),rd y33 bt34.1,(wrap64 ((wrap64 (1 + t4)) + t9)),(wrap64 (100 + t5)),(wrap64 ((wrap64 (100 + t5)) + t10)),(rd y7 t8),x120006_13,bt34.2)) else (none)) else (none))) = some (r1,r2,r3,r4,r5,r6,r7,r8):=by first | (rw [hy33];with_reducible exact H) | (have H2_:=(Option.bind_some _ _).symm.trans H;rw [hy33];with_reducible exact H2_) | (have H2_:=(Option.bind_some _ _).symm.trans H;with_reducible exact H2_) | with_reducible exact H | (rw [hy33];exact H) | exact H
         have Ny33:=am hy33;clear hy33;obtain ⟨⟨t34,t35⟩,A53,H⟩:=bse H
         try dsimp only at H
         by_cases c54 : 0 ≤ t34
         ·rw [if_pos c54] at H;have c54b0 : decide (0 ≤ t34) = true:=decide_eq_true c54;clear c54
          by_cases c55 : t34 < (y33.length : Int)
          ·rw [if_pos c55] at H;have c55b0 : decide (t34 < (y33.length : Int)) = true:=decide_eq_true c55;clear c55;simp only [Option.some.injEq,Prod.mk.injEq] at H;obtain ⟨rfl,rfl,rfl,rfl,rfl,rfl,rfl,rfl⟩:=H
           go_wp2_with (first | ((with_reducible refine gC 90 rfl ?_);refine gL (some 51) Tryz.func90 #[.pointer (some ⟨g,0,none⟩),.int .i64 a1] ?_;(with_reducible refine (spec_l20Rd_odd.calls kj13 g s0_0 t20 a1 true t30 w0 _ ?side1 ?side2 A49.out).mono ?_);(case side1=>exact m17_);(case side2=>exact m18_);rintro e w56 ⟨rfl,hi,hb,hk⟩;refine ⟨_,rfl,?_⟩;replace BK21:=am (KeepBut.blk hk (g':=gb21) (o:=.cells #[.bool false,.int .i64 0,.int .i64 0,.int .i64 0,.int .i64 0,.int .i64 0,.int .i64 0] 35 (0,0)) (bk BK21) NB21_0.out (by simp));replace BK25:=am (KeepBut.blk hk (g':=gb25) (o:=.cells #[.bool (t3 == 0),.int .i64 (wrap64 (1 + t4)),.int .i64 (wrap64 ((wrap64 (1 + t4)) + t9)),.int .i64 (wrap64 (100 + t5)),.int .i64 (wrap64 ((wrap64 (100 + t5)) + t10)),.int .i64 (rd y7 t8),.int .i64 x120006_13] 35 (0,0)) (bk BK25) NB25_0.out (by simp));replace HK:=am (KeepBut.trans m19_ hk (.inl rfl));replace HB:=am hb;replace HI0:=am hi;(try clear hb);(try clear hk);(try clear hi)) | ((with_reducible refine gC 84 rfl ?_);refine gL (some 53) Tryz.func84 #[.pointer (some ⟨g,0,none⟩),.int .i64 4] ?_;(with_reducible refine (spec_l20Rd_pick.calls kj13 g s0_0 t30 4 t31 t32 w0 _ ?side1 ?side2 A51.out).mono ?_);(case side1=>exact m17_);(case side2=>exact m18_);rintro e w57 ⟨rfl,hi,hb,hk⟩;refine ⟨_,rfl,?_⟩;replace BK21:=am (KeepBut.blk hk (g':=gb21) (o:=.cells #[.bool false,.int .i64 0,.int .i64 0,.int .i64 0,.int .i64 0,.int .i64 0,.int .i64 0] 35 (0,0)) (bk BK21) NB21_0.out (by simp));replace BK25:=am (KeepBut.blk hk (g':=gb25) (o:=.cells #[.bool (t3 == 0),.int .i64 (wrap64 (1 + t4)),.int .i64 (wrap64 ((wrap64 (1 + t4)) + t9)),.int .i64 (wrap64 (100 + t5)),.int .i64 (wrap64 ((wrap64 (100 + t5)) + t10)),.int .i64 (rd y7 t8),.int .i64 x120006_13] 35 (0,0)) (bk BK25) NB25_0.out (by simp));replace HK:=am (KeepBut.trans m19_ hk (.inl rfl));replace HB:=am hb;replace HI0:=am hi;(try clear hb);(try clear hk);(try clear hi)) | ((with_reducible refine gD 57 rfl ?_);refine Kd.R_lit (Kd.int .i64) _ 3 rfl (N:=57) rfl (xs:=([0,9,(-1)] : List Int)) (inner:=[.int .i64 0,.int .i64 9,.int .i64 (-1)]) (ok:=fun _=>True) (okp:=fun _=>True) hr_ ?hp (fun _ hk=>hk) trivial (Below.refl _ _) (Nat.le_refl _) (by simp) ?_;(case hp=>exact (Reps.one (show Kd.M (Kd.int .i64) _ _ _ 0 [.int .i64 0] from rfl) (Reps.one (show Kd.M (Kd.int .i64) _ _ _ 9 [.int .i64 9] from rfl) (Reps.one (show Kd.M (Kd.int .i64) _ _ _ (-1) [.int .i64 (-1)] from rfl) (Reps.none _ _)))));intro v36 w58 ho59 hb hg_ hnew_;clear hg_ hnew_;(first | rw [← Ny33.out] at ho59 | (simp only [Int.reduceToNat] at ho59;rw [← Ny33.out] at ho59));have HO37:=am (Kd.R_lower ho59 (keep_size (w:=w) (g:=g) (row:=none) m19_));replace BK21:=bkB BK21 hb;replace BK25:=bkB BK25 hb;replace HK:=am (KeepBut.trans m19_ (KeepBut.of_below hb g none) (.inl rfl));replace HB:=am (below_step m18_ hb);replace HI0:=am (IsS131.below m17_ hb);clear hb ho59) | ((with_reducible refine gC 84 rfl ?_);refine gL (some 59) Tryz.func84 #[.pointer (some ⟨g,0,none⟩),.int .i64 3] ?_;(with_reducible refine (spec_l20Rd_pick.calls kj13 g s0_0 t32 3 t34 t35 w0 _ ?side1 ?side2 A53.out).mono ?_);(case side1=>exact m17_);(case side2=>exact m18_);rintro e w60 ⟨rfl,hi,hb,hk⟩;refine ⟨_,rfl,?_⟩;replace BK21:=am (KeepBut.blk hk (g':=gb21) (o:=.cells #[.bool false,.int .i64 0,.int .i64 0,.int .i64 0,.int .i64 0,.int .i64 0,.int .i64 0] 35 (0,0)) (bk BK21) NB21_0.out (by simp));replace BK25:=am (KeepBut.blk hk (g':=gb25) (o:=.cells #[.bool (t3 == 0),.int .i64 (wrap64 (1 + t4)),.int .i64 (wrap64 ((wrap64 (1 + t4)) + t9)),.int .i64 (wrap64 (100 + t5)),.int .i64 (wrap64 ((wrap64 (100 + t5)) + t10)),.int .i64 (rd y7 t8),.int .i64 x120006_13] 35 (0,0)) (bk BK25) NB25_0.out (by simp));replace HO37:=am (Kd.R_mono (Kd.R_keep (IsS131.apart (show IsS131 w0 _ g s0_0 t32 from m17_) (rs HO37) (by decide)) hk (fun _ h=>h.2)) (fun _ h=>h.1));replace HK:=am (KeepBut.trans m19_ hk (.inl rfl));replace HB:=am hb;replace HI0:=am hi;(try clear hb);(try clear hk);(try clear hi);obtain ⟨Ao61,co61,eo61⟩:=Kd.R_slice HO37.out;subst eo61;have p38 : 0 ≤ (t34 : Int):=of_decide_eq_true da_;have q38 : t34 < (y33.length : Int):=of_decide_eq_true da_;obtain ⟨ad38,e38,hx38_0⟩:=Kd.at_int (Kd.R_reads' HO37.out).2.2 t34 p38 q38;cases e38;replace p38:=eq_true p38;replace q38:=eq_true q38;have:=NB25_21.out;have:=NB21_25.out;have:=NB25_0.out;have:=NB0_25.out;have ⟨_,_,_,_,_,_,_,_,_,_,_,_,_,_⟩:=cf7 BK25;have:=NB21_0.out;have:=NB0_21.out;have ⟨_,_,_,_,_,_,_,_,_,_,_,_,_,_⟩:=cf7 BK21))
           refine bodyPost_ret (results_cell_row rfl _ _ gb21 35 #[.bool (t3 == 0),.int .i64 (rd y33 t34),.int .i64 (wrap64 ((wrap64 (1 + t4)) + t9)),.int .i64 (wrap64 (100 + t5)),.int .i64 (wrap64 ((wrap64 (100 + t5)) + t10)),.int .i64 (rd y7 t8),.int .i64 x120006_13] (0,0) _ rfl (by (with_reducible repeat refine bu ?_);refine blk_put (cs:=#[.bool (t3 == 0),.int .i64 (rd y33 t34),.int .i64 (wrap64 ((wrap64 (1 + t4)) + t9)),.int .i64 (wrap64 (100 + t5)),.int .i64 (wrap64 ((wrap64 (100 + t5)) + t10)),.int .i64 (rd y7 t8),.int .i64 0]) ?_ 6 _ rfl;(with_reducible repeat refine bu ?_);refine blk_put (cs:=#[.bool (t3 == 0),.int .i64 (rd y33 t34),.int .i64 (wrap64 ((wrap64 (1 + t4)) + t9)),.int .i64 (wrap64 (100 + t5)),.int .i64 (wrap64 ((wrap64 (100 + t5)) + t10)),.int .i64 0,.int .i64 0]) ?_ 5 _ rfl;(with_reducible repeat refine bu ?_);refine blk_put (cs:=#[.bool (t3 == 0),.int .i64 (rd y33 t34),.int .i64 (wrap64 ((wrap64 (1 + t4)) + t9)),.int .i64 (wrap64 (100 + t5)),.int .i64 0,.int .i64 0,.int .i64 0]) ?_ 4 _ rfl;(with_reducible repeat refine bu ?_);refine blk_put (cs:=#[.bool (t3 == 0),.int .i64 (rd y33 t34),.int .i64 (wrap64 ((wrap64 (1 + t4)) + t9)),.int .i64 0,.int .i64 0,.int .i64 0,.int .i64 0]) ?_ 3 _ rfl;(with_reducible repeat refine bu ?_);refine blk_put (cs:=#[.bool (t3 == 0),.int .i64 (rd y33 t34),.int .i64 0,.int .i64 0,.int .i64 0,.int .i64 0,.int .i64 0]) ?_ 2 _ rfl;(with_reducible repeat refine bu ?_);refine blk_put (cs:=#[.bool (t3 == 0),.int .i64 0,.int .i64 0,.int .i64 0,.int .i64 0,.int .i64 0,.int .i64 0]) ?_ 1 _ rfl;(with_reducible repeat refine bu ?_);refine blk_put (cs:=#[.bool false,.int .i64 0,.int .i64 0,.int .i64 0,.int .i64 0,.int .i64 0,.int .i64 0]) ?_ 0 _ rfl;(with_reducible repeat refine bu ?_);refine blk_far ?_ NB21_25.out _;(with_reducible repeat refine bu ?_);exact BK21.out) Tryz.underlying35 rfl (by kernel_rfl)) rfl ?_;exact ⟨fi_,m17_,m18_,m19_⟩
          ·rw [if_neg c55] at H;exact absurd H (by simp)
         ·rw [if_neg c54] at H;exact absurd H (by simp)
        ·rw [if_neg c52] at H;have c52b0 : (t31 == 0) = false:=beq_eq_false_iff_ne.mpr c52;have c52b1 : (t31 != 0) = true:=bne_iff_ne.mpr c52
         by_cases c67 : t31 = 1
         ·rw [if_pos c67] at H;have c67b0 : (t31 == 1) = true:=beq_iff_eq.mpr c67;have c67b1 : (t31 != 1) = false:=bne_eq_false_iff_eq.mpr c67;clear c67;obtain ⟨y39,hy39⟩ : ∃ y_ : List Int,y_ = (([110,99] : List Int)):=⟨_,rfl⟩;replace H : ((spec_l20Rd_pick.f kj13 s0_0 t32 2).bind fun bt40=>(if 0 ≤ bt40.1 then (if bt40.1 < (y39.length : Int) then (some ((t3 == 0),(wrap64 (1 + t4)),(wrap64 ((wrap64 (1 + t4)) + t9)),(wrap64 (100 + t5)),rd y39 bt40.1,(rd y7 t8),x120006_13,bt40.2)) else (none)) else (none))) = some (r1,r2,r3,r4,r5,r6,r7,r8):=by first | (rw [hy39];with_reducible exact H) | (have H2_:=(Option.bind_some _ _).symm.trans H;rw [hy39];with_reducible exact H2_) | (have H2_:=(Option.bind_some _ _).symm.trans H;with_reducible exact H2_) | with_reducible exact H | (rw [hy39];exact H) | exact H
          have Ny39:=am hy39;clear hy39;obtain ⟨⟨t40,t41⟩,A68,H⟩:=bse H
          try dsimp only at H
          by_cases c69 : 0 ≤ t40
          ·rw [if_pos c69] at H;have c69b0 : decide (0 ≤ t40) = true:=decide_eq_true c69;clear c69
           by_cases c70 : t40 < (y39.length : Int)
           ·rw [if_pos c70] at H;have c70b0 : decide (t40 < (y39.length : Int)) = true:=decide_eq_true c70;clear c70;simp only [Option.some.injEq,Prod.mk.injEq] at H;obtain ⟨rfl,rfl,rfl,rfl,rfl,rfl,rfl,rfl⟩:=H
            go_wp2_with (first | ((with_reducible refine gC 90 rfl ?_);refine gL (some 51) Tryz.func90 #[.pointer (some ⟨g,0,none⟩),.int .i64 a1] ?_;(with_reducible refine (spec_l20Rd_odd.calls kj13 g s0_0 t20 a1 true t30 w0 _ ?side1 ?side2 A49.out).mono ?_);(case side1=>exact m17_);(case side2=>exact m18_);rintro e w71 ⟨rfl,hi,hb,hk⟩;refine ⟨_,rfl,?_⟩;replace BK21:=am (KeepBut.blk hk (g':=gb21) (o:=.cells #[.bool false,.int .i64 0,.int .i64 0,.int .i64 0,.int .i64 0,.int .i64 0,.int .i64 0] 35 (0,0)) (bk BK21) NB21_0.out (by simp));replace BK25:=am (KeepBut.blk hk (g':=gb25) (o:=.cells #[.bool (t3 == 0),.int .i64 (wrap64 (1 + t4)),.int .i64 (wrap64 ((wrap64 (1 + t4)) + t9)),.int .i64 (wrap64 (100 + t5)),.int .i64 (wrap64 ((wrap64 (100 + t5)) + t10)),.int .i64 (rd y7 t8),.int .i64 x120006_13] 35 (0,0)) (bk BK25) NB25_0.out (by simp));replace HK:=am (KeepBut.trans m19_ hk (.inl rfl));replace HB:=am hb;replace HI0:=am hi;(try clear hb);(try clear hk);(try clear hi)) | ((with_reducible refine gC 84 rfl ?_);refine gL (some 53) Tryz.func84 #[.pointer (some ⟨g,0,none⟩),.int .i64 4] ?_;(with_reducible refine (spec_l20Rd_pick.calls kj13 g s0_0 t30 4 t31 t32 w0 _ ?side1 ?side2 A51.out).mono ?_);(case side1=>exact m17_);(case side2=>exact m18_);rintro e w72 ⟨rfl,hi,hb,hk⟩;refine ⟨_,rfl,?_⟩;replace BK21:=am (KeepBut.blk hk (g':=gb21) (o:=.cells #[.bool false,.int .i64 0,.int .i64 0,.int .i64 0,.int .i64 0,.int .i64 0,.int .i64 0] 35 (0,0)) (bk BK21) NB21_0.out (by simp));replace BK25:=am (KeepBut.blk hk (g':=gb25) (o:=.cells #[.bool (t3 == 0),.int .i64 (wrap64 (1 + t4)),.int .i64 (wrap64 ((wrap64 (1 + t4)) + t9)),.int .i64 (wrap64 (100 + t5)),.int .i64 (wrap64 ((wrap64 (100 + t5)) + t10)),.int .i64 (rd y7 t8),.int .i64 x120006_13] 35 (0,0)) (bk BK25) NB25_0.out (by simp));replace HK:=am (KeepBut.trans m19_ hk (.inl rfl));replace HB:=am hb;replace HI0:=am hi;(try clear hb);(try clear hk);(try clear hi)) | ((with_reducible refine gD 65 rfl ?_);refine Kd.R_lit (Kd.int .i64) _ 3 rfl (N:=65) rfl (xs:=([110,99] : List Int)) (inner:=[.int .i64 110,.int .i64 99]) (ok:=fun _=>True) (okp:=fun _=>True) hr_ ?hp (fun _ hk=>hk) trivial (Below.refl _ _) (Nat.le_refl _) (by simp) ?_;(case hp=>exact (Reps.one (show Kd.M (Kd.int .i64) _ _ _ 110 [.int .i64 110] from rfl) (Reps.one (show Kd.M (Kd.int .i64) _ _ _ 99 [.int .i64 99] from rfl) (Reps.none _ _))));intro v42 w73 ho74 hb hg_ hnew_;clear hg_ hnew_;(first | rw [← Ny39.out] at ho74 | (simp only [Int.reduceToNat] at ho74;rw [← Ny39.out] at ho74));have HO43:=am (Kd.R_lower ho74 (keep_size (w:=w) (g:=g) (row:=none) m19_));replace BK21:=bkB BK21 hb;replace BK25:=bkB BK25 hb;replace HK:=am (KeepBut.trans m19_ (KeepBut.of_below hb g none) (.inl rfl));replace HB:=am (below_step m18_ hb);replace HI0:=am (IsS131.below m17_ hb);clear hb ho74) | ((with_reducible refine gC 84 rfl ?_);refine gL (some 67) Tryz.func84 #[.pointer (some ⟨g,0,none⟩),.int .i64 2] ?_;(with_reducible refine (spec_l20Rd_pick.calls kj13 g s0_0 t32 2 t40 t41 w0 _ ?side1 ?side2 A68.out).mono ?_);(case side1=>exact m17_);(case side2=>exact m18_);rintro e w75 ⟨rfl,hi,hb,hk⟩;refine ⟨_,rfl,?_⟩;replace BK21:=am (KeepBut.blk hk (g':=gb21) (o:=.cells #[.bool false,.int .i64 0,.int .i64 0,.int .i64 0,.int .i64 0,.int .i64 0,.int .i64 0] 35 (0,0)) (bk BK21) NB21_0.out (by simp));replace BK25:=am (KeepBut.blk hk (g':=gb25) (o:=.cells #[.bool (t3 == 0),.int .i64 (wrap64 (1 + t4)),.int .i64 (wrap64 ((wrap64 (1 + t4)) + t9)),.int .i64 (wrap64 (100 + t5)),.int .i64 (wrap64 ((wrap64 (100 + t5)) + t10)),.int .i64 (rd y7 t8),.int .i64 x120006_13] 35 (0,0)) (bk BK25) NB25_0.out (by simp));replace HO43:=am (Kd.R_mono (Kd.R_keep (IsS131.apart (show IsS131 w0 _ g s0_0 t32 from m17_) (rs HO43) (by decide)) hk (fun _ h=>h.2)) (fun _ h=>h.1));replace HK:=am (KeepBut.trans m19_ hk (.inl rfl));replace HB:=am hb;replace HI0:=am hi;(try clear hb);(try clear hk);(try clear hi);obtain ⟨Ao76,co76,eo76⟩:=Kd.R_slice HO43.out;subst eo76;have p44 : 0 ≤ (t40 : Int):=of_decide_eq_true da_;have q44 : t40 < (y39.length : Int):=of_decide_eq_true da_;obtain ⟨ad44,e44,hx44_0⟩:=Kd.at_int (Kd.R_reads' HO43.out).2.2 t40 p44 q44;cases e44;replace p44:=eq_true p44;replace q44:=eq_true q44;have:=NB25_21.out;have:=NB21_25.out;have:=NB25_0.out;have:=NB0_25.out;have ⟨_,_,_,_,_,_,_,_,_,_,_,_,_,_⟩:=cf7 BK25;have:=NB21_0.out;have:=NB0_21.out;have ⟨_,_,_,_,_,_,_,_,_,_,_,_,_,_⟩:=cf7 BK21))
            refine bodyPost_ret (results_cell_row rfl _ _ gb21 35 #[.bool (t3 == 0),.int .i64 (wrap64 (1 + t4)),.int .i64 (wrap64 ((wrap64 (1 + t4)) + t9)),.int .i64 (wrap64 (100 + t5)),.int .i64 (rd y39 t40),.int .i64 (rd y7 t8),.int .i64 x120006_13] (0,0) _ rfl (by (with_reducible repeat refine bu ?_);refine blk_put (cs:=#[.bool (t3 == 0),.int .i64 (wrap64 (1 + t4)),.int .i64 (wrap64 ((wrap64 (1 + t4)) + t9)),.int .i64 (wrap64 (100 + t5)),.int .i64 (rd y39 t40),.int .i64 (rd y7 t8),.int .i64 0]) ?_ 6 _ rfl;(with_reducible repeat refine bu ?_);refine blk_put (cs:=#[.bool (t3 == 0),.int .i64 (wrap64 (1 + t4)),.int .i64 (wrap64 ((wrap64 (1 + t4)) + t9)),.int .i64 (wrap64 (100 + t5)),.int .i64 (rd y39 t40),.int .i64 0,.int .i64 0]) ?_ 5 _ rfl;(with_reducible repeat refine bu ?_);refine blk_put (cs:=#[.bool (t3 == 0),.int .i64 (wrap64 (1 + t4)),.int .i64 (wrap64 ((wrap64 (1 + t4)) + t9)),.int .i64 (wrap64 (100 + t5)),.int .i64 0,.int .i64 0,.int .i64 0]) ?_ 4 _ rfl;(with_reducible repeat refine bu ?_);refine blk_put (cs:=#[.bool (t3 == 0),.int .i64 (wrap64 (1 + t4)),.int .i64 (wrap64 ((wrap64 (1 + t4)) + t9)),.int .i64 0,.int .i64 0,.int .i64 0,.int .i64 0]) ?_ 3 _ rfl;(with_reducible repeat refine bu ?_);refine blk_put (cs:=#[.bool (t3 == 0),.int .i64 (wrap64 (1 + t4)),.int .i64 0,.int .i64 0,.int .i64 0,.int .i64 0,.int .i64 0]) ?_ 2 _ rfl;(with_reducible repeat refine bu ?_);refine blk_put (cs:=#[.bool (t3 == 0),.int .i64 0,.int .i64 0,.int .i64 0,.int .i64 0,.int .i64 0,.int .i64 0]) ?_ 1 _ rfl;(with_reducible repeat refine bu ?_);refine blk_put (cs:=#[.bool false,.int .i64 0,.int .i64 0,.int .i64 0,.int .i64 0,.int .i64 0,.int .i64 0]) ?_ 0 _ rfl;(with_reducible repeat refine bu ?_);refine blk_far ?_ NB21_25.out _;(with_reducible repeat refine bu ?_);exact BK21.out) Tryz.underlying35 rfl (by kernel_rfl)) rfl ?_;exact ⟨fi_,m17_,m18_,m19_⟩
           ·rw [if_neg c70] at H;exact absurd H (by simp)
          ·rw [if_neg c69] at H;exact absurd H (by simp)
         ·rw [if_neg c67] at H;have c67b0 : (t31 == 1) = false:=beq_eq_false_iff_ne.mpr c67;have c67b1 : (t31 != 1) = true:=bne_iff_ne.mpr c67
          by_cases c82 : t31 = 2
          ·rw [if_pos c82] at H;have c82b0 : (t31 == 2) = true:=beq_iff_eq.mpr c82;have c82b1 : (t31 != 2) = false:=bne_eq_false_iff_eq.mpr c82;clear c82;obtain ⟨y45,hy45⟩ : ∃ y_ : List Int,y_ = (([0,1000] : List Int)):=⟨_,rfl⟩;replace H : ((spec_l20Rd_pick.f kj13 s0_0 t32 2).bind fun bt46=>(if 0 ≤ bt46.1 then (if bt46.1 < (y45.length : Int) then (some ((t3 == 0),(wrap64 (1 + t4)),(wrap64 ((wrap64 (1 + t4)) + t9)),(wrap64 (100 + t5)),(wrap64 ((wrap64 (100 + t5)) + t10)),(rd y7 t8),rd y45 bt46.1,bt46.2)) else (none)) else (none))) = some (r1,r2,r3,r4,r5,r6,r7,r8):=by first | (rw [hy45];with_reducible exact H) | (have H2_:=(Option.bind_some _ _).symm.trans H;rw [hy45];with_reducible exact H2_) | (have H2_:=(Option.bind_some _ _).symm.trans H;with_reducible exact H2_) | with_reducible exact H | (rw [hy45];exact H) | exact H
           have Ny45:=am hy45;clear hy45;obtain ⟨⟨t46,t47⟩,A83,H⟩:=bse H
           try dsimp only at H
           by_cases c84 : 0 ≤ t46
           ·rw [if_pos c84] at H;have c84b0 : decide (0 ≤ t46) = true:=decide_eq_true c84;clear c84
            by_cases c85 : t46 < (y45.length : Int)
            ·rw [if_pos c85] at H;have c85b0 : decide (t46 < (y45.length : Int)) = true:=decide_eq_true c85;clear c85;simp only [Option.some.injEq,Prod.mk.injEq] at H;obtain ⟨rfl,rfl,rfl,rfl,rfl,rfl,rfl,rfl⟩:=H
             go_wp2_with (first | ((with_reducible refine gC 90 rfl ?_);refine gL (some 51) Tryz.func90 #[.pointer (some ⟨g,0,none⟩),.int .i64 a1] ?_;(with_reducible refine (spec_l20Rd_odd.calls kj13 g s0_0 t20 a1 true t30 w0 _ ?side1 ?side2 A49.out).mono ?_);(case side1=>exact m17_);(case side2=>exact m18_);rintro e w86 ⟨rfl,hi,hb,hk⟩;refine ⟨_,rfl,?_⟩;replace BK21:=am (KeepBut.blk hk (g':=gb21) (o:=.cells #[.bool false,.int .i64 0,.int .i64 0,.int .i64 0,.int .i64 0,.int .i64 0,.int .i64 0] 35 (0,0)) (bk BK21) NB21_0.out (by simp));replace BK25:=am (KeepBut.blk hk (g':=gb25) (o:=.cells #[.bool (t3 == 0),.int .i64 (wrap64 (1 + t4)),.int .i64 (wrap64 ((wrap64 (1 + t4)) + t9)),.int .i64 (wrap64 (100 + t5)),.int .i64 (wrap64 ((wrap64 (100 + t5)) + t10)),.int .i64 (rd y7 t8),.int .i64 x120006_13] 35 (0,0)) (bk BK25) NB25_0.out (by simp));replace HK:=am (KeepBut.trans m19_ hk (.inl rfl));replace HB:=am hb;replace HI0:=am hi;(try clear hb);(try clear hk);(try clear hi)) | ((with_reducible refine gC 84 rfl ?_);refine gL (some 53) Tryz.func84 #[.pointer (some ⟨g,0,none⟩),.int .i64 4] ?_;(with_reducible refine (spec_l20Rd_pick.calls kj13 g s0_0 t30 4 t31 t32 w0 _ ?side1 ?side2 A51.out).mono ?_);(case side1=>exact m17_);(case side2=>exact m18_);rintro e w87 ⟨rfl,hi,hb,hk⟩;refine ⟨_,rfl,?_⟩;replace BK21:=am (KeepBut.blk hk (g':=gb21) (o:=.cells #[.bool false,.int .i64 0,.int .i64 0,.int .i64 0,.int .i64 0,.int .i64 0,.int .i64 0] 35 (0,0)) (bk BK21) NB21_0.out (by simp));replace BK25:=am (KeepBut.blk hk (g':=gb25) (o:=.cells #[.bool (t3 == 0),.int .i64 (wrap64 (1 + t4)),.int .i64 (wrap64 ((wrap64 (1 + t4)) + t9)),.int .i64 (wrap64 (100 + t5)),.int .i64 (wrap64 ((wrap64 (100 + t5)) + t10)),.int .i64 (rd y7 t8),.int .i64 x120006_13] 35 (0,0)) (bk BK25) NB25_0.out (by simp));replace HK:=am (KeepBut.trans m19_ hk (.inl rfl));replace HB:=am hb;replace HI0:=am hi;(try clear hb);(try clear hk);(try clear hi)) | ((with_reducible refine gD 73 rfl ?_);refine Kd.R_lit (Kd.int .i64) _ 3 rfl (N:=73) rfl (xs:=([0,1000] : List Int)) (inner:=[.int .i64 0,.int .i64 1000]) (ok:=fun _=>True) (okp:=fun _=>True) hr_ ?hp (fun _ hk=>hk) trivial (Below.refl _ _) (Nat.le_refl _) (by simp) ?_;(case hp=>exact (Reps.one (show Kd.M (Kd.int .i64) _ _ _ 0 [.int .i64 0] from rfl) (Reps.one (show Kd.M (Kd.int .i64) _ _ _ 1000 [.int .i64 1000] from rfl) (Reps.none _ _))));intro v48 w88 ho89 hb hg_ hnew_;clear hg_ hnew_;(first | rw [← Ny45.out] at ho89 | (simp only [Int.reduceToNat] at ho89;rw [← Ny45.out] at ho89));have HO49:=am (Kd.R_lower ho89 (keep_size (w:=w) (g:=g) (row:=none) m19_));replace BK21:=bkB BK21 hb;replace BK25:=bkB BK25 hb;replace HK:=am (KeepBut.trans m19_ (KeepBut.of_below hb g none) (.inl rfl));replace HB:=am (below_step m18_ hb);replace HI0:=am (IsS131.below m17_ hb);clear hb ho89) | ((with_reducible refine gC 84 rfl ?_);refine gL (some 75) Tryz.func84 #[.pointer (some ⟨g,0,none⟩),.int .i64 2] ?_;(with_reducible refine (spec_l20Rd_pick.calls kj13 g s0_0 t32 2 t46 t47 w0 _ ?side1 ?side2 A83.out).mono ?_);(case side1=>exact m17_);(case side2=>exact m18_);rintro e w90 ⟨rfl,hi,hb,hk⟩;refine ⟨_,rfl,?_⟩;replace BK21:=am (KeepBut.blk hk (g':=gb21) (o:=.cells #[.bool false,.int .i64 0,.int .i64 0,.int .i64 0,.int .i64 0,.int .i64 0,.int .i64 0] 35 (0,0)) (bk BK21) NB21_0.out (by simp));replace BK25:=am (KeepBut.blk hk (g':=gb25) (o:=.cells #[.bool (t3 == 0),.int .i64 (wrap64 (1 + t4)),.int .i64 (wrap64 ((wrap64 (1 + t4)) + t9)),.int .i64 (wrap64 (100 + t5)),.int .i64 (wrap64 ((wrap64 (100 + t5)) + t10)),.int .i64 (rd y7 t8),.int .i64 x120006_13] 35 (0,0)) (bk BK25) NB25_0.out (by simp));replace HO49:=am (Kd.R_mono (Kd.R_keep (IsS131.apart (show IsS131 w0 _ g s0_0 t32 from m17_) (rs HO49) (by decide)) hk (fun _ h=>h.2)) (fun _ h=>h.1));replace HK:=am (KeepBut.trans m19_ hk (.inl rfl));replace HB:=am hb;replace HI0:=am hi;(try clear hb);(try clear hk);(try clear hi);obtain ⟨Ao91,co91,eo91⟩:=Kd.R_slice HO49.out;subst eo91;have p50 : 0 ≤ (t46 : Int):=of_decide_eq_true da_;have q50 : t46 < (y45.length : Int):=of_decide_eq_true da_;obtain ⟨ad50,e50,hx50_0⟩:=Kd.at_int (Kd.R_reads' HO49.out).2.2 t46 p50 q50;cases e50;replace p50:=eq_true p50;replace q50:=eq_true q50;have:=NB25_21.out;have:=NB21_25.out;have:=NB25_0.out;have:=NB0_25.out;have ⟨_,_,_,_,_,_,_,_,_,_,_,_,_,_⟩:=cf7 BK25;have:=NB21_0.out;have:=NB0_21.out;have ⟨_,_,_,_,_,_,_,_,_,_,_,_,_,_⟩:=cf7 BK21))
             refine bodyPost_ret (results_cell_row rfl _ _ gb21 35 #[.bool (t3 == 0),.int .i64 (wrap64 (1 + t4)),.int .i64 (wrap64 ((wrap64 (1 + t4)) + t9)),.int .i64 (wrap64 (100 + t5)),.int .i64 (wrap64 ((wrap64 (100 + t5)) + t10)),.int .i64 (rd y7 t8),.int .i64 (rd y45 t46)] (0,0) _ rfl (by (with_reducible repeat refine bu ?_);refine blk_put (cs:=#[.bool (t3 == 0),.int .i64 (wrap64 (1 + t4)),.int .i64 (wrap64 ((wrap64 (1 + t4)) + t9)),.int .i64 (wrap64 (100 + t5)),.int .i64 (wrap64 ((wrap64 (100 + t5)) + t10)),.int .i64 (rd y7 t8),.int .i64 0]) ?_ 6 _ rfl;(with_reducible repeat refine bu ?_);refine blk_put (cs:=#[.bool (t3 == 0),.int .i64 (wrap64 (1 + t4)),.int .i64 (wrap64 ((wrap64 (1 + t4)) + t9)),.int .i64 (wrap64 (100 + t5)),.int .i64 (wrap64 ((wrap64 (100 + t5)) + t10)),.int .i64 0,.int .i64 0]) ?_ 5 _ rfl;(with_reducible repeat refine bu ?_);refine blk_put (cs:=#[.bool (t3 == 0),.int .i64 (wrap64 (1 + t4)),.int .i64 (wrap64 ((wrap64 (1 + t4)) + t9)),.int .i64 (wrap64 (100 + t5)),.int .i64 0,.int .i64 0,.int .i64 0]) ?_ 4 _ rfl;(with_reducible repeat refine bu ?_);refine blk_put (cs:=#[.bool (t3 == 0),.int .i64 (wrap64 (1 + t4)),.int .i64 (wrap64 ((wrap64 (1 + t4)) + t9)),.int .i64 0,.int .i64 0,.int .i64 0,.int .i64 0]) ?_ 3 _ rfl;(with_reducible repeat refine bu ?_);refine blk_put (cs:=#[.bool (t3 == 0),.int .i64 (wrap64 (1 + t4)),.int .i64 0,.int .i64 0,.int .i64 0,.int .i64 0,.int .i64 0]) ?_ 2 _ rfl;(with_reducible repeat refine bu ?_);refine blk_put (cs:=#[.bool (t3 == 0),.int .i64 0,.int .i64 0,.int .i64 0,.int .i64 0,.int .i64 0,.int .i64 0]) ?_ 1 _ rfl;(with_reducible repeat refine bu ?_);refine blk_put (cs:=#[.bool false,.int .i64 0,.int .i64 0,.int .i64 0,.int .i64 0,.int .i64 0,.int .i64 0]) ?_ 0 _ rfl;(with_reducible repeat refine bu ?_);refine blk_far ?_ NB21_25.out _;(with_reducible repeat refine bu ?_);exact BK21.out) Tryz.underlying35 rfl (by kernel_rfl)) rfl ?_;exact ⟨fi_,m17_,m18_,m19_⟩
            ·rw [if_neg c85] at H;exact absurd H (by simp)
           ·rw [if_neg c84] at H;exact absurd H (by simp)
          ·rw [if_neg c82] at H;have c82b0 : (t31 == 2) = false:=beq_eq_false_iff_ne.mpr c82;have c82b1 : (t31 != 2) = true:=bne_iff_ne.mpr c82;simp only [Option.some.injEq,Prod.mk.injEq] at H;obtain ⟨rfl,rfl,rfl,rfl,rfl,rfl,rfl,rfl⟩:=H
           go_wp2_with (first | ((with_reducible refine gC 90 rfl ?_);refine gL (some 51) Tryz.func90 #[.pointer (some ⟨g,0,none⟩),.int .i64 a1] ?_;(with_reducible refine (spec_l20Rd_odd.calls kj13 g s0_0 t20 a1 true t30 w0 _ ?side1 ?side2 A49.out).mono ?_);(case side1=>exact m17_);(case side2=>exact m18_);rintro e w97 ⟨rfl,hi,hb,hk⟩;refine ⟨_,rfl,?_⟩;replace BK21:=am (KeepBut.blk hk (g':=gb21) (o:=.cells #[.bool false,.int .i64 0,.int .i64 0,.int .i64 0,.int .i64 0,.int .i64 0,.int .i64 0] 35 (0,0)) (bk BK21) NB21_0.out (by simp));replace BK25:=am (KeepBut.blk hk (g':=gb25) (o:=.cells #[.bool (t3 == 0),.int .i64 (wrap64 (1 + t4)),.int .i64 (wrap64 ((wrap64 (1 + t4)) + t9)),.int .i64 (wrap64 (100 + t5)),.int .i64 (wrap64 ((wrap64 (100 + t5)) + t10)),.int .i64 (rd y7 t8),.int .i64 x120006_13] 35 (0,0)) (bk BK25) NB25_0.out (by simp));replace HK:=am (KeepBut.trans m19_ hk (.inl rfl));replace HB:=am hb;replace HI0:=am hi;(try clear hb);(try clear hk);(try clear hi)) | ((with_reducible refine gC 84 rfl ?_);refine gL (some 53) Tryz.func84 #[.pointer (some ⟨g,0,none⟩),.int .i64 4] ?_;(with_reducible refine (spec_l20Rd_pick.calls kj13 g s0_0 t30 4 t31 t32 w0 _ ?side1 ?side2 A51.out).mono ?_);(case side1=>exact m17_);(case side2=>exact m18_);rintro e w98 ⟨rfl,hi,hb,hk⟩;refine ⟨_,rfl,?_⟩;replace BK21:=am (KeepBut.blk hk (g':=gb21) (o:=.cells #[.bool false,.int .i64 0,.int .i64 0,.int .i64 0,.int .i64 0,.int .i64 0,.int .i64 0] 35 (0,0)) (bk BK21) NB21_0.out (by simp));replace BK25:=am (KeepBut.blk hk (g':=gb25) (o:=.cells #[.bool (t3 == 0),.int .i64 (wrap64 (1 + t4)),.int .i64 (wrap64 ((wrap64 (1 + t4)) + t9)),.int .i64 (wrap64 (100 + t5)),.int .i64 (wrap64 ((wrap64 (100 + t5)) + t10)),.int .i64 (rd y7 t8),.int .i64 x120006_13] 35 (0,0)) (bk BK25) NB25_0.out (by simp));replace HK:=am (KeepBut.trans m19_ hk (.inl rfl));replace HB:=am hb;replace HI0:=am hi;(try clear hb);(try clear hk);(try clear hi);have:=NB25_21.out;have:=NB21_25.out;have:=NB25_0.out;have:=NB0_25.out;have ⟨_,_,_,_,_,_,_,_,_,_,_,_,_,_⟩:=cf7 BK25;have:=NB21_0.out;have:=NB0_21.out;have ⟨_,_,_,_,_,_,_,_,_,_,_,_,_,_⟩:=cf7 BK21))
           refine bodyPost_ret (results_cell_row rfl _ _ gb21 35 #[.bool (t3 == 0),.int .i64 (wrap64 (1 + t4)),.int .i64 10,.int .i64 (wrap64 (100 + t5)),.int .i64 (wrap64 ((wrap64 (100 + t5)) + t10)),.int .i64 (rd y7 t8),.int .i64 x120006_13] (0,0) _ rfl (by (with_reducible repeat refine bu ?_);refine blk_put (cs:=#[.bool (t3 == 0),.int .i64 (wrap64 (1 + t4)),.int .i64 10,.int .i64 (wrap64 (100 + t5)),.int .i64 (wrap64 ((wrap64 (100 + t5)) + t10)),.int .i64 (rd y7 t8),.int .i64 0]) ?_ 6 _ rfl;(with_reducible repeat refine bu ?_);refine blk_put (cs:=#[.bool (t3 == 0),.int .i64 (wrap64 (1 + t4)),.int .i64 10,.int .i64 (wrap64 (100 + t5)),.int .i64 (wrap64 ((wrap64 (100 + t5)) + t10)),.int .i64 0,.int .i64 0]) ?_ 5 _ rfl;(with_reducible repeat refine bu ?_);refine blk_put (cs:=#[.bool (t3 == 0),.int .i64 (wrap64 (1 + t4)),.int .i64 10,.int .i64 (wrap64 (100 + t5)),.int .i64 0,.int .i64 0,.int .i64 0]) ?_ 4 _ rfl;(with_reducible repeat refine bu ?_);refine blk_put (cs:=#[.bool (t3 == 0),.int .i64 (wrap64 (1 + t4)),.int .i64 10,.int .i64 0,.int .i64 0,.int .i64 0,.int .i64 0]) ?_ 3 _ rfl;(with_reducible repeat refine bu ?_);refine blk_put (cs:=#[.bool (t3 == 0),.int .i64 (wrap64 (1 + t4)),.int .i64 0,.int .i64 0,.int .i64 0,.int .i64 0,.int .i64 0]) ?_ 2 _ rfl;(with_reducible repeat refine bu ?_);refine blk_put (cs:=#[.bool (t3 == 0),.int .i64 0,.int .i64 0,.int .i64 0,.int .i64 0,.int .i64 0,.int .i64 0]) ?_ 1 _ rfl;(with_reducible repeat refine bu ?_);refine blk_put (cs:=#[.bool false,.int .i64 0,.int .i64 0,.int .i64 0,.int .i64 0,.int .i64 0,.int .i64 0]) ?_ 0 _ rfl;(with_reducible repeat refine bu ?_);refine blk_far ?_ NB21_25.out _;(with_reducible repeat refine bu ?_);exact BK21.out) Tryz.underlying35 rfl (by kernel_rfl)) rfl ?_;exact ⟨fi_,m17_,m18_,m19_⟩
       ·replace c50:=Bool.eq_false_iff.mpr c50;subst c50;rw [if_neg nft_] at H;simp only [Option.some.injEq,Prod.mk.injEq] at H;obtain ⟨rfl,rfl,rfl,rfl,rfl,rfl,rfl,rfl⟩:=H
        go_wp2_with (first | ((with_reducible refine gC 90 rfl ?_);refine gL (some 51) Tryz.func90 #[.pointer (some ⟨g,0,none⟩),.int .i64 a1] ?_;(with_reducible refine (spec_l20Rd_odd.calls kj13 g s0_0 t20 a1 false t30 w0 _ ?side1 ?side2 A49.out).mono ?_);(case side1=>exact m17_);(case side2=>exact m18_);rintro e w104 ⟨rfl,hi,hb,hk⟩;refine ⟨_,rfl,?_⟩;replace BK21:=am (KeepBut.blk hk (g':=gb21) (o:=.cells #[.bool false,.int .i64 0,.int .i64 0,.int .i64 0,.int .i64 0,.int .i64 0,.int .i64 0] 35 (0,0)) (bk BK21) NB21_0.out (by simp));replace BK25:=am (KeepBut.blk hk (g':=gb25) (o:=.cells #[.bool (t3 == 0),.int .i64 (wrap64 (1 + t4)),.int .i64 (wrap64 ((wrap64 (1 + t4)) + t9)),.int .i64 (wrap64 (100 + t5)),.int .i64 (wrap64 ((wrap64 (100 + t5)) + t10)),.int .i64 (rd y7 t8),.int .i64 x120006_13] 35 (0,0)) (bk BK25) NB25_0.out (by simp));replace HK:=am (KeepBut.trans m19_ hk (.inl rfl));replace HB:=am hb;replace HI0:=am hi;(try clear hb);(try clear hk);(try clear hi);have:=NB25_21.out;have:=NB21_25.out;have:=NB25_0.out;have:=NB0_25.out;have ⟨_,_,_,_,_,_,_,_,_,_,_,_,_,_⟩:=cf7 BK25;have:=NB21_0.out;have:=NB0_21.out;have ⟨_,_,_,_,_,_,_,_,_,_,_,_,_,_⟩:=cf7 BK21))
        refine bodyPost_ret (results_cell_row rfl _ _ gb21 35 #[.bool (t3 == 0),.int .i64 (wrap64 (1 + t4)),.int .i64 (wrap64 ((wrap64 (1 + t4)) + t9)),.int .i64 (wrap64 (100 + t5)),.int .i64 (wrap64 ((wrap64 (100 + t5)) + t10)),.int .i64 (rd y7 t8),.int .i64 x120006_13] (0,0) _ rfl (by (with_reducible repeat refine bu ?_);refine blk_put (cs:=#[.bool (t3 == 0),.int .i64 (wrap64 (1 + t4)),.int .i64 (wrap64 ((wrap64 (1 + t4)) + t9)),.int .i64 (wrap64 (100 + t5)),.int .i64 (wrap64 ((wrap64 (100 + t5)) + t10)),.int .i64 (rd y7 t8),.int .i64 0]) ?_ 6 _ rfl;(with_reducible repeat refine bu ?_);refine blk_put (cs:=#[.bool (t3 == 0),.int .i64 (wrap64 (1 + t4)),.int .i64 (wrap64 ((wrap64 (1 + t4)) + t9)),.int .i64 (wrap64 (100 + t5)),.int .i64 (wrap64 ((wrap64 (100 + t5)) + t10)),.int .i64 0,.int .i64 0]) ?_ 5 _ rfl;(with_reducible repeat refine bu ?_);refine blk_put (cs:=#[.bool (t3 == 0),.int .i64 (wrap64 (1 + t4)),.int .i64 (wrap64 ((wrap64 (1 + t4)) + t9)),.int .i64 (wrap64 (100 + t5)),.int .i64 0,.int .i64 0,.int .i64 0]) ?_ 4 _ rfl;(with_reducible repeat refine bu ?_);refine blk_put (cs:=#[.bool (t3 == 0),.int .i64 (wrap64 (1 + t4)),.int .i64 (wrap64 ((wrap64 (1 + t4)) + t9)),.int .i64 0,.int .i64 0,.int .i64 0,.int .i64 0]) ?_ 3 _ rfl;(with_reducible repeat refine bu ?_);refine blk_put (cs:=#[.bool (t3 == 0),.int .i64 (wrap64 (1 + t4)),.int .i64 0,.int .i64 0,.int .i64 0,.int .i64 0,.int .i64 0]) ?_ 2 _ rfl;(with_reducible repeat refine bu ?_);refine blk_put (cs:=#[.bool (t3 == 0),.int .i64 0,.int .i64 0,.int .i64 0,.int .i64 0,.int .i64 0,.int .i64 0]) ?_ 1 _ rfl;(with_reducible repeat refine bu ?_);refine blk_put (cs:=#[.bool false,.int .i64 0,.int .i64 0,.int .i64 0,.int .i64 0,.int .i64 0,.int .i64 0]) ?_ 0 _ rfl;(with_reducible repeat refine bu ?_);exact BK21.out) Tryz.underlying35 rfl (by kernel_rfl)) rfl ?_;exact ⟨fi_,m17_,m18_,m19_⟩
    ·rw [if_neg c13] at H;exact absurd H (by simp)
   ·rw [if_neg c12] at H;exact absurd H (by simp)
  ·rw [if_neg c8] at H;exact absurd H (by simp)
 ·rw [if_neg c7] at H;exact absurd H (by simp)
mutual
def spec_l20Rules.j1 : Nat → Int → List (S35) → List Int → Int → Option ((List (S35)) × Int)
 | 0,_,_,_,_=>none
 | k + 1,x1,x5,x1000,x1001=>(spec_l20Rd_odd.f k x1000 x1001 x1).bind fun bt170=>(if bt170.1 = true then ((spec_l20Rd_pick.f k x1000 bt170.2 2).bind fun bt172=>(if bt172.1 = 0 then ((spec_l20Rule.f k x1000 bt172.2 1).bind fun bt174=>(if x5.length < 2513169434916 then (some ((x5 ++ [(⟨bt174.1,bt174.2.1,bt174.2.2.1,bt174.2.2.2.1,bt174.2.2.2.2.1,bt174.2.2.2.2.2.1,bt174.2.2.2.2.2.2.1⟩ : S35)]),bt174.2.2.2.2.2.2.2)) else (none))) else (spec_l20Rules.l1 k x5 x1000 bt172.2))) else (some (x5,bt170.2)))
def spec_l20Rules.l1 : Nat → List (S35) → List Int → Int → Option ((List (S35)) × Int)
 | 0,_,_,_=>none
 | k + 1,x5,x1000,x1001=>if (x5.length : Int) ≤ 5 then ((spec_l20Rule.f k x1000 x1001 99999).bind fun bt185=>(if x5.length < 2513169434916 then (spec_l20Rules.l1 k (x5 ++ [(⟨bt185.1,bt185.2.1,bt185.2.2.1,bt185.2.2.2.1,bt185.2.2.2.2.1,bt185.2.2.2.2.2.1,bt185.2.2.2.2.2.2.1⟩ : S35)]) x1000 bt185.2.2.2.2.2.2.2) else (none))) else (some (x5,x1001))
def spec_l20Rules.l0 : Nat → Int → List (S35) → Int → List Int → Int → Option ((List (S35)) × Int)
 | 0,_,_,_,_,_=>none
 | k + 1,x1,x5,x6,x1000,x1001=>if x6 > 0 then ((spec_l20Rule.f k x1000 x1001 99999).bind fun bt159=>(if x5.length < 2513169434916 then (spec_l20Rules.l0 k x1 (x5 ++ [(⟨bt159.1,bt159.2.1,bt159.2.2.1,bt159.2.2.2.1,bt159.2.2.2.2.1,bt159.2.2.2.2.2.1,bt159.2.2.2.2.2.2.1⟩ : S35)]) (wrap64 (x6 - 1)) x1000 bt159.2.2.2.2.2.2.2) else (none))) else (spec_l20Rules.j1 k x1 x5 x1000 x1001)
end
def spec_l20Rules.f (k : Nat) (s0_0 : List Int) (s0_1 : Int) (a1 : Int) : Option ((List (S35)) × Int):=(some (([] : List (S35)) : List (S35))).bind fun y152=>((spec_l20Rd_pick.f k s0_0 s0_1 3).bind fun bt155=>(if bt155.1 > 0 then ((spec_l20Rd_pick.f k s0_0 bt155.2 4).bind fun bt157=>(spec_l20Rules.l0 k a1 y152 bt157.1 s0_0 bt157.2)) else (spec_l20Rules.j1 k a1 y152 s0_0 bt155.2)))
theorem spec_l20Rules.mono_l : ∀ k,(∀ y0 y1 y2 y3,LeO (spec_l20Rules.j1 k y0 y1 y2 y3) (spec_l20Rules.j1 (k + 1) y0 y1 y2 y3)) ∧ (∀ y0 y1 y2,LeO (spec_l20Rules.l1 k y0 y1 y2) (spec_l20Rules.l1 (k + 1) y0 y1 y2)) ∧ (∀ y0 y1 y2 y3 y4,LeO (spec_l20Rules.l0 k y0 y1 y2 y3 y4) (spec_l20Rules.l0 (k + 1) y0 y1 y2 y3 y4))
 | 0=>⟨fun _ _ _ _ r h=>by simp [spec_l20Rules.j1] at h,fun _ _ _ r h=>by simp [spec_l20Rules.l1] at h,fun _ _ _ _ _ r h=>by simp [spec_l20Rules.l0] at h⟩
 | k + 1=>by
  obtain ⟨ih0,ih1,ih2⟩:=spec_l20Rules.mono_l k;refine ⟨?_,?_,?_⟩
  ·intro y0 y1 y2 y3;unfold spec_l20Rules.j1
   repeat' first | (with_reducible first | exact ih0 _ _ _ _ | exact ih1 _ _ _ | exact ih2 _ _ _ _ _ | exact spec_l20Rd_odd.mono _ _ _ _ | exact spec_l20Rd_pick.mono _ _ _ _ | exact spec_l20Rule.mono _ _ _ _ | exact LeO.refl _ | exact LeO.none _ | refine LeO.ite ?_ ?_ | refine LeO.bind ?_ (fun _=>?_)) | exact ih0 _ _ _ _ | exact ih1 _ _ _ | exact ih2 _ _ _ _ _ | exact spec_l20Rd_odd.mono _ _ _ _ | exact spec_l20Rd_pick.mono _ _ _ _ | exact spec_l20Rule.mono _ _ _ _ | exact LeO.none _ | refine LeO.ite ?_ ?_ | refine LeO.bind ?_ (fun _=>?_)
  ·intro y0 y1 y2;unfold spec_l20Rules.l1
   repeat' first | (with_reducible first | exact ih0 _ _ _ _ | exact ih1 _ _ _ | exact ih2 _ _ _ _ _ | exact spec_l20Rd_odd.mono _ _ _ _ | exact spec_l20Rd_pick.mono _ _ _ _ | exact spec_l20Rule.mono _ _ _ _ | exact LeO.refl _ | exact LeO.none _ | refine LeO.ite ?_ ?_ | refine LeO.bind ?_ (fun _=>?_)) | exact ih0 _ _ _ _ | exact ih1 _ _ _ | exact ih2 _ _ _ _ _ | exact spec_l20Rd_odd.mono _ _ _ _ | exact spec_l20Rd_pick.mono _ _ _ _ | exact spec_l20Rule.mono _ _ _ _ | exact LeO.none _ | refine LeO.ite ?_ ?_ | refine LeO.bind ?_ (fun _=>?_)
  ·intro y0 y1 y2 y3 y4;unfold spec_l20Rules.l0
   repeat' first | (with_reducible first | exact ih0 _ _ _ _ | exact ih1 _ _ _ | exact ih2 _ _ _ _ _ | exact spec_l20Rd_odd.mono _ _ _ _ | exact spec_l20Rd_pick.mono _ _ _ _ | exact spec_l20Rule.mono _ _ _ _ | exact LeO.refl _ | exact LeO.none _ | refine LeO.ite ?_ ?_ | refine LeO.bind ?_ (fun _=>?_)) | exact ih0 _ _ _ _ | exact ih1 _ _ _ | exact ih2 _ _ _ _ _ | exact spec_l20Rd_odd.mono _ _ _ _ | exact spec_l20Rd_pick.mono _ _ _ _ | exact spec_l20Rule.mono _ _ _ _ | exact LeO.none _ | refine LeO.ite ?_ ?_ | refine LeO.bind ?_ (fun _=>?_)
theorem spec_l20Rules.mono : ∀ a0 a1 a2 k,LeO (spec_l20Rules.f k a0 a1 a2) (spec_l20Rules.f (k + 1) a0 a1 a2):=by
 intro a0 a1 a2 k;obtain ⟨ih0,ih1,ih2⟩:=spec_l20Rules.mono_l k;unfold spec_l20Rules.f
 repeat' first | (with_reducible first | exact ih0 _ _ _ _ | exact ih1 _ _ _ | exact ih2 _ _ _ _ _ | exact spec_l20Rd_odd.mono _ _ _ _ | exact spec_l20Rd_pick.mono _ _ _ _ | exact spec_l20Rule.mono _ _ _ _ | exact LeO.refl _ | exact LeO.none _ | refine LeO.ite ?_ ?_ | refine LeO.bind ?_ (fun _=>?_)) | exact ih0 _ _ _ _ | exact ih1 _ _ _ | exact ih2 _ _ _ _ _ | exact spec_l20Rd_odd.mono _ _ _ _ | exact spec_l20Rd_pick.mono _ _ _ _ | exact spec_l20Rule.mono _ _ _ _ | exact LeO.none _ | refine LeO.ite ?_ ?_ | refine LeO.bind ?_ (fun _=>?_)
set_option maxHeartbeats 8000000 in
set_option maxRecDepth 100000 in
theorem spec_l20Rules.calls (k : Nat) (g : Nat) (s0_0 : List Int) (s0_1 : Int) (a1 : Int) (r1 : List (S35)) (r2 : Int) (w0 w : World) (hI : IsS131 w0 w g s0_0 s0_1) (hB : Below w0.heap.size w0 w) (h : spec_l20Rules.f k s0_0 s0_1 a1 = some (r1,r2)) :
  Calls Tryz.prog 41 #[.pointer (some ⟨g,0,none⟩),.int .i64 a1] w fun e w'=>∃ v0_ : Value,e = .returned (v0_) ∧ Kd.R k35 35 w' w.heap.size (fun _=>True) v0_ r1 ∧ IsS131 w0 w' g s0_0 r2 ∧ Below w0.heap.size w0 w' ∧ KeepBut w w' g none:=by
 have HI0:=am hI;have HK:=am (KeepBut.refl w g none);have HL:=am hB.size;clear hI;have HW0:=am hB.size;have HB:=am hB;clear hB;have H : ((some (([] : List (S35)) : List (S35))).bind fun y0=>((spec_l20Rd_pick.f k s0_0 s0_1 3).bind fun bt1=>(if bt1.1 > 0 then ((spec_l20Rd_pick.f k s0_0 bt1.2 4).bind fun bt3=>(spec_l20Rules.l0 k a1 y0 bt3.1 s0_0 bt3.2)) else (spec_l20Rules.j1 k a1 y0 s0_0 bt1.2)))) = some (r1,r2):=h;clear h;obtain ⟨y0,hy0⟩ : ∃ y_ : List (S35),y_ = (([] : List (S35))):=⟨_,rfl⟩;replace H : ((spec_l20Rd_pick.f k s0_0 s0_1 3).bind fun bt1=>(if bt1.1 > 0 then ((spec_l20Rd_pick.f k s0_0 bt1.2 4).bind fun bt3=>(spec_l20Rules.l0 k a1 y0 bt3.1 s0_0 bt3.2)) else (spec_l20Rules.j1 k a1 y0 s0_0 bt1.2))) = some (r1,r2):=by first | (rw [hy0];with_reducible exact H) | (have H2_:=(Option.bind_some _ _).symm.trans H;rw [hy0];with_reducible exact H2_) | (have H2_:=(Option.bind_some _ _).symm.trans H;with_reducible exact H2_) | with_reducible exact H | (rw [hy0];exact H) | exact H
 have Ny0:=am hy0;clear hy0;obtain ⟨⟨t1,t4⟩,A3,H⟩:=bse H
 try dsimp only at H
 have HC4:=am H;clear H
 go_enter Tryz.func41,Tryz.ntmps41
 go_upto_if 10 with (first | ((with_reducible refine gD 7 rfl ?_);refine Kd.R_lit k35 _ 35 rfl (N:=7) rfl (xs:=([] : List (S35))) (inner:=[]) (ok:=fun _=>True) (okp:=fun _=>True) hr_ ?hp (fun _ hk=>hk) trivial (Below.refl _ _) (Nat.le_refl _) (by simp) ?_;(case hp=>exact (Reps.none _ _));intro v7 w5 ho6 hb hg_ hnew_;clear hg_ hnew_;(first | rw [← Ny0.out] at ho6 | (simp only [Int.reduceToNat] at ho6;rw [← Ny0.out] at ho6));have HO8:=am (Kd.R_lower ho6 (keep_size (w:=w) (g:=g) (row:=none) m15_));replace HK:=am (KeepBut.trans m15_ (KeepBut.of_below hb g none) (.inl rfl));replace HB:=am (below_step m14_ hb);replace HI0:=am (IsS131.below m16_ hb);clear hb ho6) | ((with_reducible refine gC 84 rfl ?_);refine gL (some 9) Tryz.func84 #[.pointer (some ⟨g,0,none⟩),.int .i64 3] ?_;(with_reducible refine (spec_l20Rd_pick.calls k g s0_0 s0_1 3 t1 t4 w0 _ ?side1 ?side2 A3.out).mono ?_);(case side1=>exact m16_);(case side2=>exact m14_);rintro e w7 ⟨rfl,hi,hb,hk⟩;refine ⟨_,rfl,?_⟩;replace HO8:=am (Kd.R_mono (Kd.R_keep (IsS131.apart (show IsS131 w0 _ g s0_0 s0_1 from m16_) (rs HO8) (by decide)) hk (fun _ h=>h.2)) (fun _ h=>h.1));replace HK:=am (KeepBut.trans m15_ hk (.inl rfl));replace HB:=am hb;replace HI0:=am hi;(try clear hb);(try clear hk);(try clear hi)))
 (try simp only [Act.put,List.setIfInBounds_toArray,List.set_cons_zero,List.set_cons_succ])
 go_cut [5] (fun v5 wc=>∃ (kq : Nat) (x5_3 : List (S35)) (x1001_3 : Int),Aside0 (spec_l20Rules.j1 kq a1 x5_3 s0_0 x1001_3 = some (r1,r2)) ∧ Aside0 (kq ≤ k) ∧ Aside0 (Kd.R k35 35 wc w.heap.size (fun _=>True) v5 x5_3) ∧ Aside0 (IsS131 w0 wc g s0_0 x1001_3) ∧ Aside0 (KeepBut w wc g none) ∧ Aside0 (Below w0.heap.size w0 wc))
 case first=>
  have H:=HC4.out;clear HC4
  by_cases c8 : t1 > 0
  ·rw [if_pos c8] at H;have c8b0 : decide (0 < t1) = true:=decide_eq_true c8;clear c8;(first | rw [c8b0] | (simp only [i64_w,i32_w];rw [c8b0]) | skip);obtain ⟨⟨t3,t9⟩,A9,H⟩:=bse H
   try dsimp only at H
   have H':=am H;clear H
   go_wp2_with (first | ((with_reducible refine gC 84 rfl ?_);refine gL (some 12) Tryz.func84 #[.pointer (some ⟨g,0,none⟩),.int .i64 4] ?_;(with_reducible refine (spec_l20Rd_pick.calls k g s0_0 t4 4 t3 t9 w0 _ ?side1 ?side2 A9.out).mono ?_);(case side1=>exact m16_);(case side2=>exact m14_);rintro e w10 ⟨rfl,hi,hb,hk⟩;refine ⟨_,rfl,?_⟩;replace HO8:=am (Kd.R_mono (Kd.R_keep (IsS131.apart (show IsS131 w0 _ g s0_0 t4 from m16_) (rs HO8) (by decide)) hk (fun _ h=>h.2)) (fun _ h=>h.1));replace HK:=am (KeepBut.trans m15_ hk (.inl rfl));replace HB:=am hb;replace HI0:=am hi;(try clear hb);(try clear hk);(try clear hi)))
   go_loopg [5,6] k (fun kq v5 v6 w'=>∃ (x5_1 : List (S35)) (x6_1 : Int) (x1001_1 : Int),v6 = .int .i64 x6_1 ∧ Aside0 (spec_l20Rules.l0 kq a1 x5_1 x6_1 s0_0 x1001_1 = some (r1,r2)) ∧ Aside0 (kq ≤ k) ∧ Aside0 (Kd.R k35 35 w' w.heap.size (fun _=>True) v5 x5_1) ∧ Aside0 (IsS131 w0 w' g s0_0 x1001_1) ∧ Aside0 (KeepBut w w' g none) ∧ Aside0 (Below w0.heap.size w0 w'))
   case atStart=>exact ⟨(y0),(t3),(t9),rs_,H',⟨Nat.le_refl _⟩,⟨by (with_reducible repeat apply ru);exact HO8.out⟩,⟨m16_⟩,⟨m15_⟩,⟨m14_⟩⟩
   case round=>
    clear H';(try clear p2);(try clear c4);(try clear c8);(try clear c8b0);obtain ⟨x5_1,x6_1,x1001_1,rfl,HA,HK1,HO_5,HI0,HK,HB⟩:=hrel
    cases gk with
    | zero=>exact absurd HA.out (by simp [spec_l20Rules.l0])
    | succ k1=>
     have H:=HA.out;clear HA;simp only [spec_l20Rules.l0] at H
     by_cases c11 : x6_1 > 0
     ·rw [if_pos c11] at H;have c11b0 : decide (0 < x6_1) = true:=decide_eq_true c11;clear c11;obtain ⟨⟨t10,t11,t12,t13,t14,t15,t16,t17⟩,A12,H⟩:=bse H
      try dsimp only at H
      by_cases c13 : x5_1.length < 2513169434916
      ·rw [if_pos c13] at H;have LMc13:=am c13;clear c13;obtain ⟨y18,hy18⟩ : ∃ y_ : List (S35),y_ = (x5_1 ++ [(⟨t10,t11,t12,t13,t14,t15,t16⟩ : S35)]):=⟨_,rfl⟩;replace H : (spec_l20Rules.l0 k1 a1 y18 (wrap64 (x6_1 - 1)) s0_0 t17) = some (r1,r2):=by first | (rw [hy18];with_reducible exact H) | (have H2_:=(Option.bind_some _ _).symm.trans H;rw [hy18];with_reducible exact H2_) | (have H2_:=(Option.bind_some _ _).symm.trans H;with_reducible exact H2_) | with_reducible exact H | (rw [hy18];exact H) | exact H
       have Ny18:=am hy18;clear hy18;have H':=am H;clear H
       go_wp2_with (first | ((with_reducible refine gC 97 rfl ?_);refine gL (some 19) Tryz.func97 #[.pointer (some ⟨g,0,none⟩),.int .i64 99999] ?_;(with_reducible refine (spec_l20Rule.calls k1 g s0_0 x1001_1 99999 t10 t11 t12 t13 t14 t15 t16 t17 w0 _ ?side1 ?side2 A12.out).mono ?_);(case side1=>exact m16_);(case side2=>exact m14_);rintro e w14 ⟨rfl,hi,hb,hk⟩;refine ⟨_,rfl,?_⟩;replace HO_5:=am (Kd.R_mono (Kd.R_keep (IsS131.apart (show IsS131 w0 _ g s0_0 x1001_1 from m16_) (rs HO_5) (by decide)) hk (fun _ h=>h.2)) (fun _ h=>h.1));replace HK:=am (KeepBut.trans m15_ hk (.inl rfl));replace HB:=am hb;replace HI0:=am hi;(try clear hb);(try clear hk);(try clear hi)) | ((with_reducible refine gate_builtin (b:=.append) (xs:=#[.tmp 17,.tmp 20]) rfl ?_);at_builtin;refine Kd.R_append k35 w.heap.size rfl (.tmp 17) (.tmp 20) 23 35 (.agg #[(.bool false),(.int .i64 0),(.int .i64 0),(.int .i64 0),(.int .i64 0),(.int .i64 0),(.int .i64 0)]) 56 rfl Tryz.underlying23 info35 rfl (by decide) (by omega) u5 x5_1 (⟨t10,t11,t12,t13,t14,t15,t16⟩ : S35) [.bool t10,.int .i64 t11,.int .i64 t12,.int .i64 t13,.int .i64 t14,.int .i64 t15,.int .i64 t16] (fun _=>True) (fun _=>False) rfl rfl ?aP (fun _ hk=>hk.elim) ?aF ?aO (Below.refl _ _) ?aS ?aL ?_;(case aP=>exact k35_mkM _ _ _ (⟨t10,t11,t12,t13,t14,t15,t16⟩ : S35));(case aF=>exact (fun _ _=>trivial));(case aO=>exact (rs HO_5));(case aS=>exact (keep_size (w:=w) (g:=g) (row:=none) m15_));(case aL=>have:=LMc13.out;omega);intro v19 w15 ho hb hg hat;rw [← Ny18.out] at ho;replace HB:=am (below_weaken m14_ HL.out hb);replace HI0:=am (IsS131.grown m16_ hg (IsS131.own_ne HI0.out HO_5.out (by decide)));replace HK:=am (KeepBut.trans m15_ (KeepBut.of_grown hg g) (Kd.R_base2 HO_5.out));have HO20:=am (ho);clear HO_5;clear ho hb hg hat))
       go_roundg k1
       case measure=>have:=HK1.out;omega
       case rel=>exact ⟨(y18),(wrap64 (x6_1 - 1)),(t17),rs_,H',⟨by have:=HK1.out;omega⟩,⟨by (with_reducible repeat apply ru);exact HO20.out⟩,⟨m16_⟩,⟨m15_⟩,⟨m14_⟩⟩
      ·rw [if_neg c13] at H;exact absurd H (by simp)
     ·rw [if_neg c11] at H;have c11b0 : decide (0 < x6_1) = false:=decide_eq_false c11;clear c11;have H':=am H;clear H
      go_wp2
      go_meet
      case rel=>exact ⟨_,(x5_1),(x1001_1),H',⟨by have:=HK1.out;first | omega | exact Nat.le_refl _⟩,⟨by (with_reducible repeat apply ru);exact HO_5.out⟩,⟨m16_⟩,⟨m15_⟩,⟨m14_⟩⟩
  ·rw [if_neg c8] at H;have c8b0 : decide (0 < t1) = false:=decide_eq_false c8;clear c8;(first | rw [c8b0] | (simp only [i64_w,i32_w];rw [c8b0]) | skip);have H':=am H;clear H
   go_wp2
   go_meet
   case rel=>exact ⟨_,(y0),(t4),H',⟨by first | omega | exact Nat.le_refl _⟩,⟨by (with_reducible repeat apply ru);exact HO8.out⟩,⟨m16_⟩,⟨m15_⟩,⟨m14_⟩⟩
 case rest=>
  clear HC4;(try clear c1);(try clear p2);(try clear c4);(try clear p6);(try clear c8);(try clear c8b0);(try clear c9);(try clear c11);(try clear c11b0);(try clear c13);(try clear p2);obtain ⟨kq,x5_3,x1001_3,HA,HJ3,HO_5,HI0,HK,HB⟩:=hcut
  cases kq with
  | zero=>exact absurd HA.out (by simp [spec_l20Rules.j1])
  | succ kj3=>
   have H:=HA.out;clear HA;simp only [spec_l20Rules.j1] at H;obtain ⟨⟨t21,t22⟩,A16,H⟩:=bse H
   try dsimp only at H
   by_cases c17 : t21 = true
   ·subst c17;rw [if_pos rfl] at H;obtain ⟨⟨t23,t24⟩,A18,H⟩:=bse H
    try dsimp only at H
    by_cases c19 : t23 = 0
    ·rw [if_pos c19] at H;have c19b0 : (t23 == 0) = true:=beq_iff_eq.mpr c19;have c19b1 : (t23 != 0) = false:=bne_eq_false_iff_eq.mpr c19;clear c19;obtain ⟨⟨t25,t26,t27,t28,t29,t30,t31,t32⟩,A20,H⟩:=bse H
     try dsimp only at H
     by_cases c21 : x5_3.length < 2513169434916
     ·rw [if_pos c21] at H;have LMc21:=am c21;clear c21;obtain ⟨y33,hy33⟩ : ∃ y_ : List (S35),y_ = (x5_3 ++ [(⟨t25,t26,t27,t28,t29,t30,t31⟩ : S35)]):=⟨_,rfl⟩;replace H : (some (y33,t32)) = some (r1,r2):=by first | (rw [hy33];with_reducible exact H) | (have H2_:=(Option.bind_some _ _).symm.trans H;rw [hy33];with_reducible exact H2_) | (have H2_:=(Option.bind_some _ _).symm.trans H;with_reducible exact H2_) | with_reducible exact H | (rw [hy33];exact H) | exact H
      have Ny33:=am hy33;clear hy33;simp only [Option.some.injEq,Prod.mk.injEq] at H;obtain ⟨rfl,rfl⟩:=H
      go_wp2_with (first | ((with_reducible refine gC 90 rfl ?_);refine gL (some 24) Tryz.func90 #[.pointer (some ⟨g,0,none⟩),.int .i64 a1] ?_;(with_reducible refine (spec_l20Rd_odd.calls kj3 g s0_0 x1001_3 a1 true t22 w0 _ ?side1 ?side2 A16.out).mono ?_);(case side1=>exact m16_);(case side2=>exact m14_);rintro e w22 ⟨rfl,hi,hb,hk⟩;refine ⟨_,rfl,?_⟩;replace HO_5:=am (Kd.R_mono (Kd.R_keep (IsS131.apart (show IsS131 w0 _ g s0_0 x1001_3 from m16_) (rs HO_5) (by decide)) hk (fun _ h=>h.2)) (fun _ h=>h.1));replace HK:=am (KeepBut.trans m15_ hk (.inl rfl));replace HB:=am hb;replace HI0:=am hi;(try clear hb);(try clear hk);(try clear hi)) | ((with_reducible refine gC 84 rfl ?_);refine gL (some 26) Tryz.func84 #[.pointer (some ⟨g,0,none⟩),.int .i64 2] ?_;(with_reducible refine (spec_l20Rd_pick.calls kj3 g s0_0 t22 2 t23 t24 w0 _ ?side1 ?side2 A18.out).mono ?_);(case side1=>exact m16_);(case side2=>exact m14_);rintro e w23 ⟨rfl,hi,hb,hk⟩;refine ⟨_,rfl,?_⟩;replace HO_5:=am (Kd.R_mono (Kd.R_keep (IsS131.apart (show IsS131 w0 _ g s0_0 t22 from m16_) (rs HO_5) (by decide)) hk (fun _ h=>h.2)) (fun _ h=>h.1));replace HK:=am (KeepBut.trans m15_ hk (.inl rfl));replace HB:=am hb;replace HI0:=am hi;(try clear hb);(try clear hk);(try clear hi)) | ((with_reducible refine gC 97 rfl ?_);refine gL (some 30) Tryz.func97 #[.pointer (some ⟨g,0,none⟩),.int .i64 1] ?_;(with_reducible refine (spec_l20Rule.calls kj3 g s0_0 t24 1 t25 t26 t27 t28 t29 t30 t31 t32 w0 _ ?side1 ?side2 A20.out).mono ?_);(case side1=>exact m16_);(case side2=>exact m14_);rintro e w24 ⟨rfl,hi,hb,hk⟩;refine ⟨_,rfl,?_⟩;replace HO_5:=am (Kd.R_mono (Kd.R_keep (IsS131.apart (show IsS131 w0 _ g s0_0 t24 from m16_) (rs HO_5) (by decide)) hk (fun _ h=>h.2)) (fun _ h=>h.1));replace HK:=am (KeepBut.trans m15_ hk (.inl rfl));replace HB:=am hb;replace HI0:=am hi;(try clear hb);(try clear hk);(try clear hi)) | ((with_reducible refine gate_builtin (b:=.append) (xs:=#[.tmp 28,.tmp 31]) rfl ?_);at_builtin;refine Kd.R_append k35 w.heap.size rfl (.tmp 28) (.tmp 31) 23 35 (.agg #[(.bool false),(.int .i64 0),(.int .i64 0),(.int .i64 0),(.int .i64 0),(.int .i64 0),(.int .i64 0)]) 56 rfl Tryz.underlying23 info35 rfl (by decide) (by omega) u5 x5_3 (⟨t25,t26,t27,t28,t29,t30,t31⟩ : S35) [.bool t25,.int .i64 t26,.int .i64 t27,.int .i64 t28,.int .i64 t29,.int .i64 t30,.int .i64 t31] (fun _=>True) (fun _=>False) rfl rfl ?aP (fun _ hk=>hk.elim) ?aF ?aO (Below.refl _ _) ?aS ?aL ?_;(case aP=>exact k35_mkM _ _ _ (⟨t25,t26,t27,t28,t29,t30,t31⟩ : S35));(case aF=>exact (fun _ _=>trivial));(case aO=>exact (rs HO_5));(case aS=>exact (keep_size (w:=w) (g:=g) (row:=none) m15_));(case aL=>have:=LMc21.out;omega);intro v34 w25 ho hb hg hat;rw [← Ny33.out] at ho;replace HB:=am (below_weaken m14_ HL.out hb);replace HI0:=am (IsS131.grown m16_ hg (IsS131.own_ne HI0.out HO_5.out (by decide)));replace HK:=am (KeepBut.trans m15_ (KeepBut.of_grown hg g) (Kd.R_base2 HO_5.out));have HO35:=am (ho);clear HO_5;clear ho hb hg hat))
      go_ret
      exact ⟨_,fi_,by (with_reducible repeat apply ru);exact HO35.out,m16_,m14_,m15_⟩
     ·rw [if_neg c21] at H;exact absurd H (by simp)
    ·rw [if_neg c19] at H;have c19b0 : (t23 == 0) = false:=beq_eq_false_iff_ne.mpr c19;have c19b1 : (t23 != 0) = true:=bne_iff_ne.mpr c19;have H':=am H;clear H
     go_wp2_with (first | ((with_reducible refine gC 90 rfl ?_);refine gL (some 24) Tryz.func90 #[.pointer (some ⟨g,0,none⟩),.int .i64 a1] ?_;(with_reducible refine (spec_l20Rd_odd.calls kj3 g s0_0 x1001_3 a1 true t22 w0 _ ?side1 ?side2 A16.out).mono ?_);(case side1=>exact m16_);(case side2=>exact m14_);rintro e w26 ⟨rfl,hi,hb,hk⟩;refine ⟨_,rfl,?_⟩;replace HO_5:=am (Kd.R_mono (Kd.R_keep (IsS131.apart (show IsS131 w0 _ g s0_0 x1001_3 from m16_) (rs HO_5) (by decide)) hk (fun _ h=>h.2)) (fun _ h=>h.1));replace HK:=am (KeepBut.trans m15_ hk (.inl rfl));replace HB:=am hb;replace HI0:=am hi;(try clear hb);(try clear hk);(try clear hi)) | ((with_reducible refine gC 84 rfl ?_);refine gL (some 26) Tryz.func84 #[.pointer (some ⟨g,0,none⟩),.int .i64 2] ?_;(with_reducible refine (spec_l20Rd_pick.calls kj3 g s0_0 t22 2 t23 t24 w0 _ ?side1 ?side2 A18.out).mono ?_);(case side1=>exact m16_);(case side2=>exact m14_);rintro e w27 ⟨rfl,hi,hb,hk⟩;refine ⟨_,rfl,?_⟩;replace HO_5:=am (Kd.R_mono (Kd.R_keep (IsS131.apart (show IsS131 w0 _ g s0_0 t22 from m16_) (rs HO_5) (by decide)) hk (fun _ h=>h.2)) (fun _ h=>h.1));replace HK:=am (KeepBut.trans m15_ hk (.inl rfl));replace HB:=am hb;replace HI0:=am hi;(try clear hb);(try clear hk);(try clear hi)))
     go_loopg [5] kj3 (fun kq v5 w'=>∃ (x5_2 : List (S35)) (x1001_2 : Int),Aside0 (spec_l20Rules.l1 kq x5_2 s0_0 x1001_2 = some (r1,r2)) ∧ Aside0 (kq ≤ kj3) ∧ Aside0 (Kd.R k35 35 w' w.heap.size (fun _=>True) v5 x5_2) ∧ Aside0 (IsS131 w0 w' g s0_0 x1001_2) ∧ Aside0 (KeepBut w w' g none) ∧ Aside0 (Below w0.heap.size w0 w'))
     case atStart=>exact ⟨(x5_3),(t24),H',⟨Nat.le_refl _⟩,⟨by (with_reducible repeat apply ru);exact HO_5.out⟩,⟨m16_⟩,⟨m15_⟩,⟨m14_⟩⟩
     case round=>
      clear H';(try clear c1);(try clear c2);(try clear p2);(try clear c4);(try clear p6);(try clear c8);(try clear c8b0);(try clear c9);(try clear c11);(try clear c11b0);(try clear c13);(try clear c17);(try clear c19);(try clear c19b0);(try clear c19b1);(try clear c21);(try clear p2);(try clear p6);obtain ⟨x5_2,x1001_2,HA,HK2,HO_5,HI0,HK,HB⟩:=hrel
      cases gk with
      | zero=>exact absurd HA.out (by simp [spec_l20Rules.l1])
      | succ k2=>
       have H:=HA.out;clear HA;simp only [spec_l20Rules.l1] at H
       by_cases c28 : (x5_2.length : Int) ≤ 5
       ·rw [if_pos c28] at H;have c28b0 : decide ((x5_2.length : Int) ≤ 5) = true:=decide_eq_true c28;have c28b1 : decide (x5_2.length ≤ 5) = true:=decide_eq_true (by omega);clear c28;obtain ⟨⟨t36,t37,t38,t39,t40,t41,t42,t43⟩,A29,H⟩:=bse H
        try dsimp only at H
        by_cases c30 : x5_2.length < 2513169434916
        ·rw [if_pos c30] at H;have LMc30:=am c30;clear c30;obtain ⟨y44,hy44⟩ : ∃ y_ : List (S35),y_ = (x5_2 ++ [(⟨t36,t37,t38,t39,t40,t41,t42⟩ : S35)]):=⟨_,rfl⟩;replace H : (spec_l20Rules.l1 k2 y44 s0_0 t43) = some (r1,r2):=by first | (rw [hy44];with_reducible exact H) | (have H2_:=(Option.bind_some _ _).symm.trans H;rw [hy44];with_reducible exact H2_) | (have H2_:=(Option.bind_some _ _).symm.trans H;with_reducible exact H2_) | with_reducible exact H | (rw [hy44];exact H) | exact H
         have Ny44:=am hy44;clear hy44;have H':=am H;clear H;obtain ⟨Ao31,co31,eo31⟩:=Kd.R_slice HO_5.out;subst eo31
         go_wp2_with (first | ((with_reducible refine gC 97 rfl ?_);refine gL (some 38) Tryz.func97 #[.pointer (some ⟨g,0,none⟩),.int .i64 99999] ?_;(with_reducible refine (spec_l20Rule.calls k2 g s0_0 x1001_2 99999 t36 t37 t38 t39 t40 t41 t42 t43 w0 _ ?side1 ?side2 A29.out).mono ?_);(case side1=>exact m16_);(case side2=>exact m14_);rintro e w32 ⟨rfl,hi,hb,hk⟩;refine ⟨_,rfl,?_⟩;replace HO_5:=am (Kd.R_mono (Kd.R_keep (IsS131.apart (show IsS131 w0 _ g s0_0 x1001_2 from m16_) (rs HO_5) (by decide)) hk (fun _ h=>h.2)) (fun _ h=>h.1));replace HK:=am (KeepBut.trans m15_ hk (.inl rfl));replace HB:=am hb;replace HI0:=am hi;(try clear hb);(try clear hk);(try clear hi)) | ((with_reducible refine gate_builtin (b:=.append) (xs:=#[.tmp 36,.tmp 39]) rfl ?_);at_builtin;refine Kd.R_append k35 w.heap.size rfl (.tmp 36) (.tmp 39) 23 35 (.agg #[(.bool false),(.int .i64 0),(.int .i64 0),(.int .i64 0),(.int .i64 0),(.int .i64 0),(.int .i64 0)]) 56 rfl Tryz.underlying23 info35 rfl (by decide) (by omega) (.slice Ao31 x5_2.length co31) x5_2 (⟨t36,t37,t38,t39,t40,t41,t42⟩ : S35) [.bool t36,.int .i64 t37,.int .i64 t38,.int .i64 t39,.int .i64 t40,.int .i64 t41,.int .i64 t42] (fun _=>True) (fun _=>False) rfl rfl ?aP (fun _ hk=>hk.elim) ?aF ?aO (Below.refl _ _) ?aS ?aL ?_;(case aP=>exact k35_mkM _ _ _ (⟨t36,t37,t38,t39,t40,t41,t42⟩ : S35));(case aF=>exact (fun _ _=>trivial));(case aO=>exact (rs HO_5));(case aS=>exact (keep_size (w:=w) (g:=g) (row:=none) m15_));(case aL=>have:=LMc30.out;omega);intro v45 w33 ho hb hg hat;rw [← Ny44.out] at ho;replace HB:=am (below_weaken m14_ HL.out hb);replace HI0:=am (IsS131.grown m16_ hg (IsS131.own_ne HI0.out HO_5.out (by decide)));replace HK:=am (KeepBut.trans m15_ (KeepBut.of_grown hg g) (Kd.R_base2 HO_5.out));have HO46:=am (ho);clear HO_5;clear ho hb hg hat))
         go_roundg k2
         case measure=>have:=HJ3.out;have:=HK2.out;omega
         case rel=>exact ⟨(y44),(t43),H',⟨by have:=HJ3.out;have:=HK2.out;omega⟩,⟨by (with_reducible repeat apply ru);exact HO46.out⟩,⟨m16_⟩,⟨m15_⟩,⟨m14_⟩⟩
        ·rw [if_neg c30] at H;exact absurd H (by simp)
       ·rw [if_neg c28] at H;have c28b0 : decide ((x5_2.length : Int) ≤ 5) = false:=decide_eq_false c28;have c28b1 : decide (x5_2.length ≤ 5) = false:=decide_eq_false (by omega);clear c28;simp only [Option.some.injEq,Prod.mk.injEq] at H;obtain ⟨rfl,rfl⟩:=H;obtain ⟨Ao34,co34,eo34⟩:=Kd.R_slice HO_5.out;subst eo34
        go_wp2
        go_ret
        exact ⟨_,fi_,by (with_reducible repeat apply ru);exact HO_5.out,m16_,m14_,m15_⟩
   ·replace c17:=Bool.eq_false_iff.mpr c17;subst c17;rw [if_neg nft_] at H;simp only [Option.some.injEq,Prod.mk.injEq] at H;obtain ⟨rfl,rfl⟩:=H
    go_wp2_with (first | ((with_reducible refine gC 90 rfl ?_);refine gL (some 24) Tryz.func90 #[.pointer (some ⟨g,0,none⟩),.int .i64 a1] ?_;(with_reducible refine (spec_l20Rd_odd.calls kj3 g s0_0 x1001_3 a1 false t22 w0 _ ?side1 ?side2 A16.out).mono ?_);(case side1=>exact m16_);(case side2=>exact m14_);rintro e w35 ⟨rfl,hi,hb,hk⟩;refine ⟨_,rfl,?_⟩;replace HO_5:=am (Kd.R_mono (Kd.R_keep (IsS131.apart (show IsS131 w0 _ g s0_0 x1001_3 from m16_) (rs HO_5) (by decide)) hk (fun _ h=>h.2)) (fun _ h=>h.1));replace HK:=am (KeepBut.trans m15_ hk (.inl rfl));replace HB:=am hb;replace HI0:=am hi;(try clear hb);(try clear hk);(try clear hi)))
    go_ret
    exact ⟨_,fi_,by (with_reducible repeat apply ru);exact HO_5.out,m16_,m14_,m15_⟩
def spec_l20Open.f (l0 : List Int) : Option (List Int × Int):=if (l0.length : Int) > 2000 then (if 2000 ≤ (l0.length : Int) then (some (l0.take 2000,0)) else (none)) else (some (l0,0))
set_option maxHeartbeats 8000000 in
set_option maxRecDepth 100000 in
theorem spec_l20Open.calls (A0 : Option Addr) (c0 : Nat) (l0 : List Int) (r1 : List Int) (r2 : Int) (w0 w : World) (hB : Below w0.heap.size w0 w) (hr0 : Kd.C (Kd.int .u8) w0 A0 l0.length l0) (hc0 : l0.length ≤ c0) (h : spec_l20Open.f l0 = some (r1,r2)) :
  Calls Tryz.prog 42 #[.slice A0 l0.length c0] w fun e w'=>∃ g_ : Nat,e = .returned (.pointer (some ⟨g_,0,none⟩)) ∧ IsS131 w0 w' g_ r1 r2 ∧ Below w0.heap.size w0 w' ∧ Below w.heap.size w w':=by
 have hu131:=Tryz.underlying131;have HR0:=am hr0;have HC0:=am hc0;clear hr0 hc0;have HBW:=am (Below.refl w.heap.size w);have HW0:=am hB.size;have HB:=am hB;clear hB;have H : (if (l0.length : Int) > 2000 then (if 2000 ≤ (l0.length : Int) then (some (l0.take 2000,0)) else (none)) else (some (l0,0))) = some (r1,r2):=h;clear h
 by_cases c2 : (l0.length : Int) > 2000
 ·rw [if_pos c2] at H;have c2b0 : decide (2000 < (l0.length : Int)) = true:=decide_eq_true c2;have c2b1 : decide (2000 < l0.length) = true:=decide_eq_true (by omega);clear c2
  by_cases c3 : 2000 ≤ (l0.length : Int)
  ·rw [if_pos c3] at H;have c3b0:=eq_true c3;have c3b1 : decide (2000 ≤ (l0.length : Int)) = true:=decide_eq_true c3;clear c3;simp only [Option.some.injEq,Prod.mk.injEq] at H;obtain ⟨rfl,rfl⟩:=H;obtain ⟨i04,hi04,_,hsz4,_⟩:=info_parts info5;obtain ⟨hcut4,hA4,hC4⟩:=print_take_of (P:=Tryz.prog) (Value.int .u8) 0 22 5 .i64 Tryz.underlying22 hi04 hsz4 A0 c0 l0 2000 (by omega) (of_decide_eq_true da_) HC0.out;have HR196:=am (Kd.C_of_reads (h1:=fun _=>rfl) (hA4 _ (Kd.reads_of_C HR0.out)));have HC196:=am hC4;clear hA4 hC4 hi04 hsz4
   go_enter Tryz.func42,Tryz.ntmps42
   go_wp2_with (first | ((with_reducible refine gD 10 rfl ?_);refine box_event rfl (N:=10) rfl (cs:=#[.slice A0 (l0.take 2000).length c0,.int .i64 0]) (t:=131) hr_ ?_;intro gb0 hg w5 hbox hb;replace HB:=hbS HB hb;have BK0:=am hbox;have GW0:=am ((by rw [hg];exact (below_size m48_) : w.heap.size ≤ gb0));have GE0:=am ((Nat.le_trans HW0.out (by rw [hg];exact (below_size m48_) : w.heap.size ≤ gb0) : w0.heap.size ≤ gb0));replace HBW:=am (below_step HBW.out hb);clear hb hbox hg))
   go_ret
   exact ⟨_,rfl,(show IsS131 w0 _ gb0 (l0.take 2000) 0 from ⟨_,_,by (with_reducible repeat refine bu ?_);exact BK0.out,GE0.out,HR196.out⟩),m4_,m49_⟩
  ·rw [if_neg c3] at H;exact absurd H (by simp)
 ·rw [if_neg c2] at H;have c2b0 : decide (2000 < (l0.length : Int)) = false:=decide_eq_false c2;have c2b1 : decide (2000 < l0.length) = false:=decide_eq_false (by omega);clear c2;simp only [Option.some.injEq,Prod.mk.injEq] at H;obtain ⟨rfl,rfl⟩:=H
  go_enter Tryz.func42,Tryz.ntmps42
  go_wp2_with (first | ((with_reducible refine gD 10 rfl ?_);refine box_event rfl (N:=10) rfl (cs:=#[.slice A0 l0.length c0,.int .i64 0]) (t:=131) hr_ ?_;intro gb1 hg w6 hbox hb;replace HB:=hbS HB hb;have BK1:=am hbox;have GW1:=am ((by rw [hg];exact (below_size m48_) : w.heap.size ≤ gb1));have GE1:=am ((Nat.le_trans HW0.out (by rw [hg];exact (below_size m48_) : w.heap.size ≤ gb1) : w0.heap.size ≤ gb1));replace HBW:=am (below_step HBW.out hb);clear hb hbox hg))
  go_ret
  exact ⟨_,rfl,(show IsS131 w0 _ gb1 l0 0 from ⟨_,_,by (with_reducible repeat refine bu ?_);exact BK1.out,GE1.out,HR0.out⟩),m4_,m49_⟩
end
end Go.Proofs.YtgpolhlmedmloaaGreatDoor.P
