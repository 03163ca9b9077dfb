import Derived.Test.YtgpolhlmedmloaaGreatDoorProg
import Derived.Below
import Derived.Deep.Draws
import Derived.Deep.AppendLies
import Derived.Maps.AppendAt
import Derived.OwnWalk
import Derived.Laws.BytesArg
import Derived.Laws.MakeOwn
import Derived.Laws.OwnMore
import Derived.Deep.OwnRows
import Derived.Tactics
import Derived.Lib.ConvBytes
import Derived.Laws.Slices
import Derived.WalkKit
import Derived.KernelRfl
import Derived.RowKit3
import Derived.Deep.LoopGhost
import Derived.Deep.QuietTactic
import Derived.BigQuiet
import Derived.WideLaws
import Derived.Deep.DeepCutAuto
import Derived.Deep.CutBlock
import Derived.Deep.RegionHeld3
import Derived.Laws.Rows
import Derived.Lib.AppendStr
import Derived.ArgAppend
import Derived.Laws.IdiomCopy
import Derived.OrdersHeld
import Derived.Laws.BitsLemmas
import Derived.RowKit
import Derived.Test.YtgpolhlmedmloaaGreatDoorUBoxEWords
import Derived.Test.YtgpolhlmedmloaaGreatDoorUBoxELast
import Derived.Test.YtgpolhlmedmloaaGreatDoorUBoxETab
import Derived.Test.YtgpolhlmedmloaaGreatDoorUBoxEFour
import Derived.Test.YtgpolhlmedmloaaGreatDoorUBoxEQPut
import Derived.Test.YtgpolhlmedmloaaGreatDoorUBoxEApart
import Derived.Test.YtgpolhlmedmloaaGreatDoorUBoxEArr
import Derived.Test.YtgpolhlmedmloaaGreatDoorUBoxEZeros
import Derived.Test.YtgpolhlmedmloaaGreatDoorUBoxEFoot
import Derived.Test.YtgpolhlmedmloaaGreatDoorUBoxEKept
import Derived.Test.YtgpolhlmedmloaaGreatDoorUBoxEShare
import Derived.Test.YtgpolhlmedmloaaGreatDoorUBoxEN
import Derived.Test.YtgpolhlmedmloaaGreatDoorUBoxEFootNe
import Derived.Test.YtgpolhlmedmloaaGreatDoorUBoxEAt
import Derived.Test.YtgpolhlmedmloaaGreatDoorUBoxEEqStruct
import Derived.Test.YtgpolhlmedmloaaGreatDoorUBoxERepsOne
import Derived.Test.YtgpolhlmedmloaaGreatDoorUBoxEInv
import Derived.Test.YtgpolhlmedmloaaGreatDoorUBoxEInvWords
import Derived.Test.YtgpolhlmedmloaaGreatDoorUBoxEGuard
import Derived.Test.YtgpolhlmedmloaaGreatDoorUBoxENEv
import Derived.Test.YtgpolhlmedmloaaGreatDoorUBoxEMore
import Derived.Shelf.Small.Wraps
import Derived.Shelf.LaysM
import Derived.Shelf.Strconv.Itoa3
import Derived.Shelf.LaysC
import Derived.Shelf.Strconv.AtoiAll
import Derived.Shelf.Strings.Cut
import Derived.Shelf.Vars
import Derived.Shelf.Lays
import Derived.Lib.Hide
import Derived.WalkSmall
import Derived.Test.YtgpolhlmedmloaaGreatDoorRows
import Derived.Lay
import Derived.LaidSub
import Derived.MakeChecks
import Derived.Stop.Joined
import Derived.Deep.DeepHandedRow
import Derived.Lib.LaidTab
import Derived.Maps.OwnSet
import Derived.Maps.OwnOps
import Derived.Maps.Views
import Derived.DeepKeys4
namespace Go.Proofs.YtgpolhlmedmloaaGreatDoor.P
open Go.Proofs.YtgpolhlmedmloaaGreatDoorUBoxE.PrintLast Go.Proofs.YtgpolhlmedmloaaGreatDoorUBoxE.PrintMore Go.Proofs.YtgpolhlmedmloaaGreatDoorUBoxE.PrintWords Go.RowKit
set_option linter.unusedVariables false
set_option linter.unusedSimpArgs false
section
attribute [local go_sem] max2_int min2_int max_two min_two max_three min_three max_four min_four
def errW : Option Int → Value
 | none=>.nilIface
 | some c=>.iface 209 (.int .i64 c)
theorem errW_none : errW none = .nilIface:=rfl
theorem errW_some (c : Int) : errW (some c) = .iface 209 (.int .i64 c):=rfl
theorem info9 : (Tryz.prog.info? 9).map (fun i=>(i.zero,i.size,i.bytes)) = some (some (.string ⟨#[]⟩),1,16):=by kernel_rfl
theorem info35 : (Tryz.prog.info? 35).map (fun i=>(i.zero,i.size,i.bytes)) = some (some (.agg #[(.bool false),(.int .i64 0),(.int .i64 0),(.int .i64 0),(.int .i64 0),(.int .i64 0),(.int .i64 0)]),7,56):=by kernel_rfl
theorem info54 : (Tryz.prog.info? 54).map (fun i=>(i.zero,i.size,i.bytes)) = some (some (.agg #[(.int .i64 0),(.int .i64 0)]),2,16):=by kernel_rfl
theorem info56 : (Tryz.prog.info? 56).map (fun i=>(i.zero,i.size,i.bytes)) = some (some (.agg #[(.int .i64 0),(.int .i64 0),(.int .i64 0),(.int .i64 0),(.string ⟨#[]⟩),(.string ⟨#[]⟩),(.string ⟨#[]⟩)]),7,80):=by kernel_rfl
structure S35 where
 f0 : Bool
 f1 : Int
 f2 : Int
 f3 : Int
 f4 : Int
 f5 : Int
 f6 : Int
def z35 : S35:=⟨false,(0 : Int),(0 : Int),(0 : Int),(0 : Int),(0 : Int),(0 : Int)⟩
def k35 : Kd S35:=Kd.iso (Kd.pair Kd.bool (Kd.pair (Kd.int .i64) (Kd.pair (Kd.int .i64) (Kd.pair (Kd.int .i64) (Kd.pair (Kd.int .i64) (Kd.pair (Kd.int .i64) (Kd.int .i64))))))) (fun x : S35=>(x.f0,x.f1,x.f2,x.f3,x.f4,x.f5,x.f6))
theorem k35_open {w : World} {x : S35} {cs : List Value} (h : k35.K w x cs) : cs = [.bool x.f0,.int .i64 x.f1,.int .i64 x.f2,.int .i64 x.f3,.int .i64 x.f4,.int .i64 x.f5,.int .i64 x.f6]:=by
 obtain ⟨_,_,rfl,rfl,⟨_,_,rfl,rfl,⟨_,_,rfl,rfl,⟨_,_,rfl,rfl,⟨_,_,rfl,rfl,⟨_,_,rfl,rfl,rfl⟩⟩⟩⟩⟩⟩:=h
 exact rfl
theorem k35_openM {w : World} {base : Nat} {ok : Nat → Prop} {x : S35} {cs : List Value} (h : k35.M w base ok x cs) : cs = [.bool x.f0,.int .i64 x.f1,.int .i64 x.f2,.int .i64 x.f3,.int .i64 x.f4,.int .i64 x.f5,.int .i64 x.f6]:=by
 obtain ⟨_,_,rfl,rfl,⟨_,_,rfl,rfl,⟨_,_,rfl,rfl,⟨_,_,rfl,rfl,⟨_,_,rfl,rfl,⟨_,_,rfl,rfl,rfl⟩⟩⟩⟩⟩⟩:=h
 exact rfl
theorem k35_mkM (w : World) (base : Nat) (ok : Nat → Prop) (x : S35)  : k35.M w base ok x [.bool x.f0,.int .i64 x.f1,.int .i64 x.f2,.int .i64 x.f3,.int .i64 x.f4,.int .i64 x.f5,.int .i64 x.f6]:=⟨[.bool x.f0],[.int .i64 x.f1,.int .i64 x.f2,.int .i64 x.f3,.int .i64 x.f4,.int .i64 x.f5,.int .i64 x.f6],rfl,rfl,⟨[.int .i64 x.f1],[.int .i64 x.f2,.int .i64 x.f3,.int .i64 x.f4,.int .i64 x.f5,.int .i64 x.f6],rfl,rfl,⟨[.int .i64 x.f2],[.int .i64 x.f3,.int .i64 x.f4,.int .i64 x.f5,.int .i64 x.f6],rfl,rfl,⟨[.int .i64 x.f3],[.int .i64 x.f4,.int .i64 x.f5,.int .i64 x.f6],rfl,rfl,⟨[.int .i64 x.f4],[.int .i64 x.f5,.int .i64 x.f6],rfl,rfl,⟨[.int .i64 x.f5],[.int .i64 x.f6],rfl,rfl,rfl⟩⟩⟩⟩⟩⟩
def rd_T35 (xs : List S35) (i : Int) : S35:=xs.getD i.toNat z35
theorem at_T35 {w : World} {A : Option Addr} {n : Nat} {xs : List S35} (h : Kd.C k35 w A n xs) (i : Int) (h0 : 0 ≤ i) (h1 : i < n) : ∃ ad ,A = some ad ∧ w.cell? (ad.add (i.toNat * 7)) = some (.bool (rd_T35 xs i).f0) ∧ w.cell? ⟨(ad.add (i.toNat * 7)).block,(ad.add (i.toNat * 7)).off + 1,none⟩ = some (.int .i64 (rd_T35 xs i).f1) ∧ w.cell? ⟨(ad.add (i.toNat * 7)).block,(ad.add (i.toNat * 7)).off + 2,none⟩ = some (.int .i64 (rd_T35 xs i).f2) ∧ w.cell? ⟨(ad.add (i.toNat * 7)).block,(ad.add (i.toNat * 7)).off + 3,none⟩ = some (.int .i64 (rd_T35 xs i).f3) ∧ w.cell? ⟨(ad.add (i.toNat * 7)).block,(ad.add (i.toNat * 7)).off + 4,none⟩ = some (.int .i64 (rd_T35 xs i).f4) ∧ w.cell? ⟨(ad.add (i.toNat * 7)).block,(ad.add (i.toNat * 7)).off + 5,none⟩ = some (.int .i64 (rd_T35 xs i).f5) ∧ w.cell? ⟨(ad.add (i.toNat * 7)).block,(ad.add (i.toNat * 7)).off + 6,none⟩ = some (.int .i64 (rd_T35 xs i).f6):=by
 obtain ⟨ad,c,e,_,hK,hc0⟩:=Kd.C_get h z35 i h0 h1
 have hc : ∀ j u,c[j]? = some u → w.cell? (ad.add (i.toNat * 7 + j)) = some u:=hc0
 obtain rfl:=k35_open hK
 exact ⟨ad,e,hc 0 _ rfl,by rw [← add_field _ _ 1 (by omega)];exact hc 1 _ rfl,by rw [← add_field _ _ 2 (by omega)];exact hc 2 _ rfl,by rw [← add_field _ _ 3 (by omega)];exact hc 3 _ rfl,by rw [← add_field _ _ 4 (by omega)];exact hc 4 _ rfl,by rw [← add_field _ _ 5 (by omega)];exact hc 5 _ rfl,by rw [← add_field _ _ 6 (by omega)];exact hc 6 _ rfl⟩
structure S54 where
 f0 : Int
 f1 : Int
def z54 : S54:=⟨(0 : Int),(0 : Int)⟩
def k54 : Kd S54:=Kd.iso (Kd.pair (Kd.int .i64) (Kd.int .i64)) (fun x : S54=>(x.f0,x.f1))
theorem k54_heap : Kd.Heap k54:=Kd.heap_iso _ (Kd.heap_pair (Kd.heap_int .i64) (Kd.heap_int .i64))
theorem k54_open {w : World} {x : S54} {cs : List Value} (h : k54.K w x cs) : cs = [.int .i64 x.f0,.int .i64 x.f1]:=by
 obtain ⟨_,_,rfl,rfl,rfl⟩:=h
 exact rfl
theorem k54_openM {w : World} {base : Nat} {ok : Nat → Prop} {x : S54} {cs : List Value} (h : k54.M w base ok x cs) : cs = [.int .i64 x.f0,.int .i64 x.f1]:=by
 obtain ⟨_,_,rfl,rfl,rfl⟩:=h
 exact rfl
theorem k54_mkM (w : World) (base : Nat) (ok : Nat → Prop) (x : S54)  : k54.M w base ok x [.int .i64 x.f0,.int .i64 x.f1]:=⟨[.int .i64 x.f0],[.int .i64 x.f1],rfl,rfl,rfl⟩
def rd_T54 (xs : List S54) (i : Int) : S54:=xs.getD i.toNat z54
theorem at_T54 {w : World} {A : Option Addr} {n : Nat} {xs : List S54} (h : Kd.C k54 w A n xs) (i : Int) (h0 : 0 ≤ i) (h1 : i < n) : ∃ ad ,A = some ad ∧ w.cell? (ad.add (i.toNat * 2)) = some (.int .i64 (rd_T54 xs i).f0) ∧ w.cell? ⟨(ad.add (i.toNat * 2)).block,(ad.add (i.toNat * 2)).off + 1,none⟩ = some (.int .i64 (rd_T54 xs i).f1):=by
 obtain ⟨ad,c,e,_,hK,hc0⟩:=Kd.C_get h z54 i h0 h1
 have hc : ∀ j u,c[j]? = some u → w.cell? (ad.add (i.toNat * 2 + j)) = some u:=hc0
 obtain rfl:=k54_open hK
 exact ⟨ad,e,hc 0 _ rfl,by rw [← add_field _ _ 1 (by omega)];exact hc 1 _ rfl⟩
structure S56 where
 f0 : S54
 f1 : S54
 f2 : ByteArray
 f3 : ByteArray
 f4 : ByteArray
def z56 : S56:=⟨z54,z54,(⟨#[]⟩ : ByteArray),(⟨#[]⟩ : ByteArray),(⟨#[]⟩ : ByteArray)⟩
def k56 : Kd S56:=Kd.iso (Kd.pair k54 (Kd.pair k54 (Kd.pair Kd.string (Kd.pair Kd.string Kd.string)))) (fun x : S56=>(x.f0,x.f1,x.f2,x.f3,x.f4))
theorem k56_open {w : World} {x : S56} {cs : List Value} (h : k56.K w x cs) : cs = [.int .i64 x.f0.f0,.int .i64 x.f0.f1,.int .i64 x.f1.f0,.int .i64 x.f1.f1,.string x.f2,.string x.f3,.string x.f4]:=by
 obtain ⟨_,_,rfl,s0,⟨_,_,rfl,s2,⟨_,_,rfl,rfl,⟨_,_,rfl,rfl,rfl⟩⟩⟩⟩:=h
 obtain rfl:=k54_open s0
 obtain rfl:=k54_open s2
 exact rfl
theorem k56_openM {w : World} {base : Nat} {ok : Nat → Prop} {x : S56} {cs : List Value} (h : k56.M w base ok x cs) : cs = [.int .i64 x.f0.f0,.int .i64 x.f0.f1,.int .i64 x.f1.f0,.int .i64 x.f1.f1,.string x.f2,.string x.f3,.string x.f4]:=by
 obtain ⟨_,_,rfl,s0,⟨_,_,rfl,s2,⟨_,_,rfl,rfl,⟨_,_,rfl,rfl,rfl⟩⟩⟩⟩:=h
 obtain rfl:=k54_openM s0
 obtain rfl:=k54_openM s2
 exact rfl
theorem k56_mkM (w : World) (base : Nat) (ok : Nat → Prop) (x : S56)  : k56.M w base ok x [.int .i64 x.f0.f0,.int .i64 x.f0.f1,.int .i64 x.f1.f0,.int .i64 x.f1.f1,.string x.f2,.string x.f3,.string x.f4]:=⟨[.int .i64 x.f0.f0,.int .i64 x.f0.f1],[.int .i64 x.f1.f0,.int .i64 x.f1.f1,.string x.f2,.string x.f3,.string x.f4],rfl,(k54_mkM w base ok x.f0 ),⟨[.int .i64 x.f1.f0,.int .i64 x.f1.f1],[.string x.f2,.string x.f3,.string x.f4],rfl,(k54_mkM w base ok x.f1 ),⟨[.string x.f2],[.string x.f3,.string x.f4],rfl,rfl,⟨[.string x.f3],[.string x.f4],rfl,rfl,rfl⟩⟩⟩⟩
def rd_T56 (xs : List S56) (i : Int) : S56:=xs.getD i.toNat z56
theorem at_T56 {w : World} {A : Option Addr} {n : Nat} {xs : List S56} (h : Kd.C k56 w A n xs) (i : Int) (h0 : 0 ≤ i) (h1 : i < n) : ∃ ad ,A = some ad ∧ w.cell? (ad.add (i.toNat * 7)) = some (.int .i64 (rd_T56 xs i).f0.f0) ∧ w.cell? ⟨(ad.add (i.toNat * 7)).block,(ad.add (i.toNat * 7)).off + 1,none⟩ = some (.int .i64 (rd_T56 xs i).f0.f1) ∧ w.cell? ⟨(ad.add (i.toNat * 7)).block,(ad.add (i.toNat * 7)).off + 2,none⟩ = some (.int .i64 (rd_T56 xs i).f1.f0) ∧ w.cell? ⟨(ad.add (i.toNat * 7)).block,(ad.add (i.toNat * 7)).off + 3,none⟩ = some (.int .i64 (rd_T56 xs i).f1.f1) ∧ w.cell? ⟨(ad.add (i.toNat * 7)).block,(ad.add (i.toNat * 7)).off + 4,none⟩ = some (.string (rd_T56 xs i).f2) ∧ w.cell? ⟨(ad.add (i.toNat * 7)).block,(ad.add (i.toNat * 7)).off + 5,none⟩ = some (.string (rd_T56 xs i).f3) ∧ w.cell? ⟨(ad.add (i.toNat * 7)).block,(ad.add (i.toNat * 7)).off + 6,none⟩ = some (.string (rd_T56 xs i).f4):=by
 obtain ⟨ad,c,e,_,hK,hc0⟩:=Kd.C_get h z56 i h0 h1
 have hc : ∀ j u,c[j]? = some u → w.cell? (ad.add (i.toNat * 7 + j)) = some u:=hc0
 obtain rfl:=k56_open hK
 exact ⟨ad,e,hc 0 _ rfl,by rw [← add_field _ _ 1 (by omega)];exact hc 1 _ rfl,by rw [← add_field _ _ 2 (by omega)];exact hc 2 _ rfl,by rw [← add_field _ _ 3 (by omega)];exact hc 3 _ rfl,by rw [← add_field _ _ 4 (by omega)];exact hc 4 _ rfl,by rw [← add_field _ _ 5 (by omega)];exact hc 5 _ rfl,by rw [← add_field _ _ 6 (by omega)];exact hc 6 _ rfl⟩
structure S144 where
 f0 : Bool
 f1 : Int
 f2 : Int
 f3 : Int
 f4 : Int
 f5 : Int
 f6 : Int
def z144 : S144:=⟨false,(0 : Int),(0 : Int),(0 : Int),(0 : Int),(0 : Int),(0 : Int)⟩
def k144 : Kd S144:=Kd.iso (Kd.pair Kd.bool (Kd.pair (Kd.int .i64) (Kd.pair (Kd.int .i64) (Kd.pair (Kd.int .i64) (Kd.pair (Kd.int .i64) (Kd.pair (Kd.int .i64) (Kd.int .i64))))))) (fun x : S144=>(x.f0,x.f1,x.f2,x.f3,x.f4,x.f5,x.f6))
theorem k144_open {w : World} {x : S144} {cs : List Value} (h : k144.K w x cs) : cs = [.bool x.f0,.int .i64 x.f1,.int .i64 x.f2,.int .i64 x.f3,.int .i64 x.f4,.int .i64 x.f5,.int .i64 x.f6]:=by
 obtain ⟨_,_,rfl,rfl,⟨_,_,rfl,rfl,⟨_,_,rfl,rfl,⟨_,_,rfl,rfl,⟨_,_,rfl,rfl,⟨_,_,rfl,rfl,rfl⟩⟩⟩⟩⟩⟩:=h
 exact rfl
theorem k144_mk (w : World) (x : S144)  : k144.K w x [.bool x.f0,.int .i64 x.f1,.int .i64 x.f2,.int .i64 x.f3,.int .i64 x.f4,.int .i64 x.f5,.int .i64 x.f6]:=⟨[.bool x.f0],[.int .i64 x.f1,.int .i64 x.f2,.int .i64 x.f3,.int .i64 x.f4,.int .i64 x.f5,.int .i64 x.f6],rfl,rfl,⟨[.int .i64 x.f1],[.int .i64 x.f2,.int .i64 x.f3,.int .i64 x.f4,.int .i64 x.f5,.int .i64 x.f6],rfl,rfl,⟨[.int .i64 x.f2],[.int .i64 x.f3,.int .i64 x.f4,.int .i64 x.f5,.int .i64 x.f6],rfl,rfl,⟨[.int .i64 x.f3],[.int .i64 x.f4,.int .i64 x.f5,.int .i64 x.f6],rfl,rfl,⟨[.int .i64 x.f4],[.int .i64 x.f5,.int .i64 x.f6],rfl,rfl,⟨[.int .i64 x.f5],[.int .i64 x.f6],rfl,rfl,rfl⟩⟩⟩⟩⟩⟩
def rd_T144 (xs : List S144) (i : Int) : S144:=xs.getD i.toNat z144
theorem at_T144 {w : World} {A : Option Addr} {n : Nat} {xs : List S144} (h : Kd.C k144 w A n xs) (i : Int) (h0 : 0 ≤ i) (h1 : i < n) : ∃ ad ,A = some ad ∧ w.cell? (ad.add (i.toNat * 7)) = some (.bool (rd_T144 xs i).f0) ∧ w.cell? ⟨(ad.add (i.toNat * 7)).block,(ad.add (i.toNat * 7)).off + 1,none⟩ = some (.int .i64 (rd_T144 xs i).f1) ∧ w.cell? ⟨(ad.add (i.toNat * 7)).block,(ad.add (i.toNat * 7)).off + 2,none⟩ = some (.int .i64 (rd_T144 xs i).f2) ∧ w.cell? ⟨(ad.add (i.toNat * 7)).block,(ad.add (i.toNat * 7)).off + 3,none⟩ = some (.int .i64 (rd_T144 xs i).f3) ∧ w.cell? ⟨(ad.add (i.toNat * 7)).block,(ad.add (i.toNat * 7)).off + 4,none⟩ = some (.int .i64 (rd_T144 xs i).f4) ∧ w.cell? ⟨(ad.add (i.toNat * 7)).block,(ad.add (i.toNat * 7)).off + 5,none⟩ = some (.int .i64 (rd_T144 xs i).f5) ∧ w.cell? ⟨(ad.add (i.toNat * 7)).block,(ad.add (i.toNat * 7)).off + 6,none⟩ = some (.int .i64 (rd_T144 xs i).f6):=by
 obtain ⟨ad,c,e,_,hK,hc0⟩:=Kd.C_get h z144 i h0 h1
 have hc : ∀ j u,c[j]? = some u → w.cell? (ad.add (i.toNat * 7 + j)) = some u:=hc0
 obtain rfl:=k144_open hK
 exact ⟨ad,e,hc 0 _ rfl,by rw [← add_field _ _ 1 (by omega)];exact hc 1 _ rfl,by rw [← add_field _ _ 2 (by omega)];exact hc 2 _ rfl,by rw [← add_field _ _ 3 (by omega)];exact hc 3 _ rfl,by rw [← add_field _ _ 4 (by omega)];exact hc 4 _ rfl,by rw [← add_field _ _ 5 (by omega)];exact hc 5 _ rfl,by rw [← add_field _ _ 6 (by omega)];exact hc 6 _ rfl⟩
structure S57 where
 f0 : Int
 f1 : Int
def z57 : S57:=⟨(0 : Int),(0 : Int)⟩
def k57 : Kd S57:=Kd.iso (Kd.pair (Kd.int .i64) (Kd.int .i64)) (fun x : S57=>(x.f0,x.f1))
theorem k57_open {w : World} {x : S57} {cs : List Value} (h : k57.K w x cs) : cs = [.int .i64 x.f0,.int .i64 x.f1]:=by
 obtain ⟨_,_,rfl,rfl,rfl⟩:=h
 exact rfl
theorem k57_mk (w : World) (x : S57)  : k57.K w x [.int .i64 x.f0,.int .i64 x.f1]:=⟨[.int .i64 x.f0],[.int .i64 x.f1],rfl,rfl,rfl⟩
def rd_T57 (xs : List S57) (i : Int) : S57:=xs.getD i.toNat z57
theorem at_T57 {w : World} {A : Option Addr} {n : Nat} {xs : List S57} (h : Kd.C k57 w A n xs) (i : Int) (h0 : 0 ≤ i) (h1 : i < n) : ∃ ad ,A = some ad ∧ w.cell? (ad.add (i.toNat * 2)) = some (.int .i64 (rd_T57 xs i).f0) ∧ w.cell? ⟨(ad.add (i.toNat * 2)).block,(ad.add (i.toNat * 2)).off + 1,none⟩ = some (.int .i64 (rd_T57 xs i).f1):=by
 obtain ⟨ad,c,e,_,hK,hc0⟩:=Kd.C_get h z57 i h0 h1
 have hc : ∀ j u,c[j]? = some u → w.cell? (ad.add (i.toNat * 2 + j)) = some u:=hc0
 obtain rfl:=k57_open hK
 exact ⟨ad,e,hc 0 _ rfl,by rw [← add_field _ _ 1 (by omega)];exact hc 1 _ rfl⟩
structure S139 where
 f0 : S57
 f1 : S57
 f2 : ByteArray
 f3 : ByteArray
 f4 : ByteArray
def z139 : S139:=⟨z57,z57,(⟨#[]⟩ : ByteArray),(⟨#[]⟩ : ByteArray),(⟨#[]⟩ : ByteArray)⟩
def k139 : Kd S139:=Kd.iso (Kd.pair k57 (Kd.pair k57 (Kd.pair Kd.string (Kd.pair Kd.string Kd.string)))) (fun x : S139=>(x.f0,x.f1,x.f2,x.f3,x.f4))
theorem k139_open {w : World} {x : S139} {cs : List Value} (h : k139.K w x cs) : cs = [.int .i64 x.f0.f0,.int .i64 x.f0.f1,.int .i64 x.f1.f0,.int .i64 x.f1.f1,.string x.f2,.string x.f3,.string x.f4]:=by
 obtain ⟨_,_,rfl,s0,⟨_,_,rfl,s2,⟨_,_,rfl,rfl,⟨_,_,rfl,rfl,rfl⟩⟩⟩⟩:=h
 obtain rfl:=k57_open s0
 obtain rfl:=k57_open s2
 exact rfl
theorem k139_mk (w : World) (x : S139)  : k139.K w x [.int .i64 x.f0.f0,.int .i64 x.f0.f1,.int .i64 x.f1.f0,.int .i64 x.f1.f1,.string x.f2,.string x.f3,.string x.f4]:=⟨[.int .i64 x.f0.f0,.int .i64 x.f0.f1],[.int .i64 x.f1.f0,.int .i64 x.f1.f1,.string x.f2,.string x.f3,.string x.f4],rfl,(k57_mk w x.f0 ),⟨[.int .i64 x.f1.f0,.int .i64 x.f1.f1],[.string x.f2,.string x.f3,.string x.f4],rfl,(k57_mk w x.f1 ),⟨[.string x.f2],[.string x.f3,.string x.f4],rfl,rfl,⟨[.string x.f3],[.string x.f4],rfl,rfl,rfl⟩⟩⟩⟩
def rd_T139 (xs : List S139) (i : Int) : S139:=xs.getD i.toNat z139
theorem at_T139 {w : World} {A : Option Addr} {n : Nat} {xs : List S139} (h : Kd.C k139 w A n xs) (i : Int) (h0 : 0 ≤ i) (h1 : i < n) : ∃ ad ,A = some ad ∧ w.cell? (ad.add (i.toNat * 7)) = some (.int .i64 (rd_T139 xs i).f0.f0) ∧ w.cell? ⟨(ad.add (i.toNat * 7)).block,(ad.add (i.toNat * 7)).off + 1,none⟩ = some (.int .i64 (rd_T139 xs i).f0.f1) ∧ w.cell? ⟨(ad.add (i.toNat * 7)).block,(ad.add (i.toNat * 7)).off + 2,none⟩ = some (.int .i64 (rd_T139 xs i).f1.f0) ∧ w.cell? ⟨(ad.add (i.toNat * 7)).block,(ad.add (i.toNat * 7)).off + 3,none⟩ = some (.int .i64 (rd_T139 xs i).f1.f1) ∧ w.cell? ⟨(ad.add (i.toNat * 7)).block,(ad.add (i.toNat * 7)).off + 4,none⟩ = some (.string (rd_T139 xs i).f2) ∧ w.cell? ⟨(ad.add (i.toNat * 7)).block,(ad.add (i.toNat * 7)).off + 5,none⟩ = some (.string (rd_T139 xs i).f3) ∧ w.cell? ⟨(ad.add (i.toNat * 7)).block,(ad.add (i.toNat * 7)).off + 6,none⟩ = some (.string (rd_T139 xs i).f4):=by
 obtain ⟨ad,c,e,_,hK,hc0⟩:=Kd.C_get h z139 i h0 h1
 have hc : ∀ j u,c[j]? = some u → w.cell? (ad.add (i.toNat * 7 + j)) = some u:=hc0
 obtain rfl:=k139_open hK
 exact ⟨ad,e,hc 0 _ rfl,by rw [← add_field _ _ 1 (by omega)];exact hc 1 _ rfl,by rw [← add_field _ _ 2 (by omega)];exact hc 2 _ rfl,by rw [← add_field _ _ 3 (by omega)];exact hc 3 _ rfl,by rw [← add_field _ _ 4 (by omega)];exact hc 4 _ rfl,by rw [← add_field _ _ 5 (by omega)];exact hc 5 _ rfl,by rw [← add_field _ _ 6 (by omega)];exact hc 6 _ rfl⟩
end
end Go.Proofs.YtgpolhlmedmloaaGreatDoor.P
namespace Go.Proofs
open Go.Shelf
def Tryz.lays103_ren : Go.Shelf.Ren:=⟨fun | 103=>148 | 210=>175 | 206=>192 | n=>n,fun | 9=>9 | 4=>4 | 24=>165 | 3=>3 | n=>n,fun | n=>n⟩
theorem Tryz.lays103 : Go.Proofs.Lays.n103 Tryz.prog Tryz.lays103_ren:={
  mixed:=by kernel_rfl
  f103:=Tryz.func148.trans (congrArg some (by kernel_rfl))
  f206:=Tryz.func192.trans (congrArg some (by kernel_rfl))
  f210:=Tryz.func175.trans (congrArg some (by kernel_rfl))
  t3:=Tryz.underlying3
  a3:=Tryz.isAgg3
  z3:=Tryz.sizeOf3
  v3:=Tryz.zeroValue3
  t4:=Tryz.underlying4
  a4:=Tryz.isAgg4
  z4:=Tryz.sizeOf4
  v4:=Tryz.zeroValue4
  t9:=Tryz.underlying9
  a9:=Tryz.isAgg9
  z9:=Tryz.sizeOf9
  v9:=Tryz.zeroValue9
  t24:=Tryz.underlying165
  a24:=Tryz.isAgg165
  z24:=Tryz.sizeOf165
  v24:=Tryz.zeroValue165 }
open Go.RowKit in
theorem Tryz.strings_CutPrefix (s p : ByteArray) (w : World) :
    Calls Tryz.prog 148 #[.string s,.string p] w fun e w'=>e = .returned (.tuple #[.string ⟨(Lib.trimPrefix s.data.toList p.data.toList).toArray⟩,.bool (Lib.hasPrefix s.data.toList p.data.toList)]) ∧ w' = w:=Any.strings_CutPrefix Tryz.lays103 s p w
def Tryz.laysM171_ren : Go.Shelf.Ren:=⟨fun | 171=>195 | 243=>214 | 246=>222 | 283=>225 | 284=>226 | 285=>227 | 286=>228 | 129=>230 | 317=>229 | 318=>231 | 319=>232 | 320=>233 | 337=>234 | 338=>235 | n=>n,fun | 3=>3 | 9=>9 | 2=>2 | 4=>4 | 171=>230 | 0=>0 | 53=>219 | 37=>22 | 5=>5 | 173=>233 | 212=>236 | 51=>188 | 20=>20 | 213=>237 | 46=>197 | 232=>240 | 233=>241 | n=>n,fun | 17=>4 | 18=>5 | 19=>6 | n=>n⟩
theorem Tryz.laysM171 : Go.Proofs.LaysM.n171 Tryz.prog Tryz.laysM171_ren:={
  mixed:=by kernel_rfl
  f129:=Tryz.func230.trans (congrArg some (by kernel_rfl))
  f171:=Tryz.func195.trans (congrArg some (by kernel_rfl))
  f243:=Tryz.func214.trans (congrArg some (by kernel_rfl))
  f246:=Tryz.func222.trans (congrArg some (by kernel_rfl))
  f283:=Tryz.func225.trans (congrArg some (by kernel_rfl))
  f284:=Tryz.func226.trans (congrArg some (by kernel_rfl))
  f285:=Tryz.func227.trans (congrArg some (by kernel_rfl))
  f286:=Tryz.func228.trans (congrArg some (by kernel_rfl))
  f317:=Tryz.func229.trans (congrArg some (by kernel_rfl))
  f318:=Tryz.func231.trans (congrArg some (by kernel_rfl))
  f319:=Tryz.func232.trans (congrArg some (by kernel_rfl))
  f320:=Tryz.func233.trans (congrArg some (by kernel_rfl))
  f337:=Tryz.func234.trans (congrArg some (by kernel_rfl))
  f338:=Tryz.func235.trans (congrArg some (by kernel_rfl))
  t0:=Tryz.underlying0
  a0:=Tryz.isAgg0
  z0:=Tryz.sizeOf0
  v0:=Tryz.zeroValue0
  t2:=Tryz.underlying2
  a2:=Tryz.isAgg2
  z2:=Tryz.sizeOf2
  v2:=Tryz.zeroValue2
  t3:=Tryz.underlying3
  a3:=Tryz.isAgg3
  z3:=Tryz.sizeOf3
  v3:=Tryz.zeroValue3
  t4:=Tryz.underlying4
  a4:=Tryz.isAgg4
  z4:=Tryz.sizeOf4
  v4:=Tryz.zeroValue4
  t5:=Tryz.underlying5
  a5:=Tryz.isAgg5
  z5:=Tryz.sizeOf5
  v5:=Tryz.zeroValue5
  t9:=Tryz.underlying9
  a9:=Tryz.isAgg9
  z9:=Tryz.sizeOf9
  v9:=Tryz.zeroValue9
  t20:=Tryz.underlying20
  a20:=Tryz.isAgg20
  z20:=Tryz.sizeOf20
  v20:=Tryz.zeroValue20
  t37:=Tryz.underlying22
  a37:=Tryz.isAgg22
  z37:=Tryz.sizeOf22
  v37:=Tryz.zeroValue22
  t46:=Tryz.underlying197
  a46:=Tryz.isAgg197
  z46:=Tryz.sizeOf197
  v46:=Tryz.zeroValue197
  t51:=Tryz.underlying188
  a51:=Tryz.isAgg188
  z51:=Tryz.sizeOf188
  v51:=Tryz.zeroValue188
  t53:=Tryz.underlying219
  a53:=Tryz.isAgg219
  z53:=Tryz.sizeOf219
  v53:=Tryz.zeroValue219
  t171:=Tryz.underlying230
  a171:=Tryz.isAgg230
  z171:=Tryz.sizeOf230
  v171:=Tryz.zeroValue230
  t173:=Tryz.underlying233
  a173:=Tryz.isAgg233
  z173:=Tryz.sizeOf233
  v173:=Tryz.zeroValue233
  t212:=Tryz.underlying236
  a212:=Tryz.isAgg236
  z212:=Tryz.sizeOf236
  v212:=Tryz.zeroValue236
  t213:=Tryz.underlying237
  a213:=Tryz.isAgg237
  z213:=Tryz.sizeOf237
  t232:=Tryz.underlying240
  a232:=Tryz.isAgg240
  z232:=Tryz.sizeOf240
  v232:=Tryz.zeroValue240
  t233:=Tryz.underlying241
  a233:=Tryz.isAgg241
  z233:=Tryz.sizeOf241
  v233:=Tryz.zeroValue241
  g17:=by kernel_rfl
  g18:=by kernel_rfl
  g19:=by kernel_rfl
  i0:=by kernel_rfl
  i2:=by kernel_rfl
  i3:=by kernel_rfl
  i4:=by kernel_rfl
  i5:=by kernel_rfl
  i9:=by kernel_rfl
  i20:=by kernel_rfl
  i37:=by kernel_rfl
  i46:=by kernel_rfl
  i51:=by kernel_rfl
  i53:=by kernel_rfl
  i171:=by kernel_rfl
  i173:=by kernel_rfl
  i212:=by kernel_rfl
  i232:=by kernel_rfl
  i233:=by kernel_rfl
  m17:=by kernel_rfl
  m18:=by kernel_rfl
  m19:=by kernel_rfl }
open Go.RowKit Go.Sort Go.Lib in
theorem Tryz.strconv_Itoa (n : Int) (h0 : -9223372036854775808 ≤ n) (h1 : n ≤ 9223372036854775807) (w : World) (htab : Lib.TabIs Tryz.prog w "internal/strconv.uint64pow10" .u64 Lib.pow10Tab) :
    Calls Tryz.prog 195 #[.int .i64 n] w fun e w'=>e = .returned (.string ⟨(Lib.itoa n).toArray⟩) ∧ ∃ k os,w' = grow (w.drewN k) os:=Any.strconv_Itoa Tryz.laysM171 n h0 h1 w htab
def Tryz.laysC172_ren : Go.Shelf.Ren:=⟨fun | 172=>176 | 244=>193 | 245=>194 | 247=>209 | 279=>210 | 280=>211 | 281=>212 | 282=>213 | 287=>219 | 316=>220 | 171=>195 | 205=>221 | 321=>223 | 322=>224 | 243=>214 | 246=>222 | 283=>225 | 284=>226 | 285=>227 | 286=>228 | 129=>230 | 317=>229 | 318=>231 | 319=>232 | 320=>233 | 337=>234 | 338=>235 | n=>n,fun | 9=>9 | 3=>3 | 75=>168 | 76=>181 | 4=>4 | 5=>5 | 167=>209 | 37=>22 | 0=>0 | 85=>210 | 2=>2 | 168=>212 | 53=>219 | 175=>220 | 46=>197 | 210=>223 | 127=>194 | 145=>229 | 143=>227 | 21=>21 | 171=>230 | 173=>233 | 212=>236 | 51=>188 | 20=>20 | 213=>237 | 232=>240 | 233=>241 | 80=>183 | n=>n,fun | 15=>2 | 16=>3 | 17=>4 | 18=>5 | 19=>6 | n=>n⟩
theorem Tryz.laysC172 : Go.Proofs.LaysC.n172 Tryz.prog Tryz.laysC172_ren:={
  mixed:=by kernel_rfl
  f129:=Tryz.func230.trans (congrArg some (by kernel_rfl))
  f171:=Tryz.func195.trans (congrArg some (by kernel_rfl))
  f172:=Tryz.func176.trans (congrArg some (by kernel_rfl))
  f205:=Tryz.func221.trans (congrArg some (by kernel_rfl))
  f243:=Tryz.func214.trans (congrArg some (by kernel_rfl))
  f244:=Tryz.func193.trans (congrArg some (by kernel_rfl))
  f245:=Tryz.func194.trans (congrArg some (by kernel_rfl))
  f246:=Tryz.func222.trans (congrArg some (by kernel_rfl))
  f247:=Tryz.func209.trans (congrArg some (by kernel_rfl))
  f279:=Tryz.func210.trans (congrArg some (by kernel_rfl))
  f280:=Tryz.func211.trans (congrArg some (by kernel_rfl))
  f281:=Tryz.func212.trans (congrArg some (by kernel_rfl))
  f282:=Tryz.func213.trans (congrArg some (by kernel_rfl))
  f283:=Tryz.func225.trans (congrArg some (by kernel_rfl))
  f284:=Tryz.func226.trans (congrArg some (by kernel_rfl))
  f285:=Tryz.func227.trans (congrArg some (by kernel_rfl))
  f286:=Tryz.func228.trans (congrArg some (by kernel_rfl))
  f287:=Tryz.func219.trans (congrArg some (by kernel_rfl))
  f316:=Tryz.func220.trans (congrArg some (by kernel_rfl))
  f317:=Tryz.func229.trans (congrArg some (by kernel_rfl))
  f318:=Tryz.func231.trans (congrArg some (by kernel_rfl))
  f319:=Tryz.func232.trans (congrArg some (by kernel_rfl))
  f320:=Tryz.func233.trans (congrArg some (by kernel_rfl))
  f321:=Tryz.func223.trans (congrArg some (by kernel_rfl))
  f322:=Tryz.func224.trans (congrArg some (by kernel_rfl))
  f337:=Tryz.func234.trans (congrArg some (by kernel_rfl))
  f338:=Tryz.func235.trans (congrArg some (by kernel_rfl))
  t0:=Tryz.underlying0
  a0:=Tryz.isAgg0
  z0:=Tryz.sizeOf0
  v0:=Tryz.zeroValue0
  t2:=Tryz.underlying2
  a2:=Tryz.isAgg2
  z2:=Tryz.sizeOf2
  v2:=Tryz.zeroValue2
  t3:=Tryz.underlying3
  a3:=Tryz.isAgg3
  z3:=Tryz.sizeOf3
  v3:=Tryz.zeroValue3
  t4:=Tryz.underlying4
  a4:=Tryz.isAgg4
  z4:=Tryz.sizeOf4
  v4:=Tryz.zeroValue4
  t5:=Tryz.underlying5
  a5:=Tryz.isAgg5
  z5:=Tryz.sizeOf5
  v5:=Tryz.zeroValue5
  t9:=Tryz.underlying9
  a9:=Tryz.isAgg9
  z9:=Tryz.sizeOf9
  v9:=Tryz.zeroValue9
  t20:=Tryz.underlying20
  a20:=Tryz.isAgg20
  z20:=Tryz.sizeOf20
  v20:=Tryz.zeroValue20
  t21:=Tryz.underlying21
  a21:=Tryz.isAgg21
  z21:=Tryz.sizeOf21
  v21:=Tryz.zeroValue21
  t37:=Tryz.underlying22
  a37:=Tryz.isAgg22
  z37:=Tryz.sizeOf22
  v37:=Tryz.zeroValue22
  t46:=Tryz.underlying197
  a46:=Tryz.isAgg197
  z46:=Tryz.sizeOf197
  v46:=Tryz.zeroValue197
  t51:=Tryz.underlying188
  a51:=Tryz.isAgg188
  z51:=Tryz.sizeOf188
  v51:=Tryz.zeroValue188
  t53:=Tryz.underlying219
  a53:=Tryz.isAgg219
  z53:=Tryz.sizeOf219
  v53:=Tryz.zeroValue219
  t75:=Tryz.underlying168
  a75:=Tryz.isAgg168
  z75:=Tryz.sizeOf168
  v75:=Tryz.zeroValue168
  t76:=Tryz.underlying181
  a76:=Tryz.isAgg181
  z76:=Tryz.sizeOf181
  v76:=Tryz.zeroValue181
  t85:=Tryz.underlying210
  a85:=Tryz.isAgg210
  z85:=Tryz.sizeOf210
  v85:=Tryz.zeroValue210
  t127:=Tryz.underlying194
  a127:=Tryz.isAgg194
  z127:=Tryz.sizeOf194
  v127:=Tryz.zeroValue194
  t143:=Tryz.underlying227
  a143:=Tryz.isAgg227
  z143:=Tryz.sizeOf227
  v143:=Tryz.zeroValue227
  t145:=Tryz.underlying229
  a145:=Tryz.isAgg229
  z145:=Tryz.sizeOf229
  v145:=Tryz.zeroValue229
  t167:=Tryz.underlying209
  a167:=Tryz.isAgg209
  z167:=Tryz.sizeOf209
  v167:=Tryz.zeroValue209
  t168:=Tryz.underlying212
  a168:=Tryz.isAgg212
  z168:=Tryz.sizeOf212
  v168:=Tryz.zeroValue212
  t171:=Tryz.underlying230
  a171:=Tryz.isAgg230
  z171:=Tryz.sizeOf230
  v171:=Tryz.zeroValue230
  t173:=Tryz.underlying233
  a173:=Tryz.isAgg233
  z173:=Tryz.sizeOf233
  v173:=Tryz.zeroValue233
  t175:=Tryz.underlying220
  a175:=Tryz.isAgg220
  z175:=Tryz.sizeOf220
  v175:=Tryz.zeroValue220
  t210:=Tryz.underlying223
  a210:=Tryz.isAgg223
  z210:=Tryz.sizeOf223
  v210:=Tryz.zeroValue223
  t212:=Tryz.underlying236
  a212:=Tryz.isAgg236
  z212:=Tryz.sizeOf236
  v212:=Tryz.zeroValue236
  t213:=Tryz.underlying237
  a213:=Tryz.isAgg237
  z213:=Tryz.sizeOf237
  t232:=Tryz.underlying240
  a232:=Tryz.isAgg240
  z232:=Tryz.sizeOf240
  v232:=Tryz.zeroValue240
  t233:=Tryz.underlying241
  a233:=Tryz.isAgg241
  z233:=Tryz.sizeOf241
  v233:=Tryz.zeroValue241
  g15:=by kernel_rfl
  g16:=by kernel_rfl
  g17:=by kernel_rfl
  g18:=by kernel_rfl
  g19:=by kernel_rfl
  t80:=Tryz.underlying183
  a80:=Tryz.isAgg183
  z80:=Tryz.sizeOf183
  v80:=Tryz.zeroValue183
  i0:=by kernel_rfl
  i2:=by kernel_rfl
  i3:=by kernel_rfl
  i4:=by kernel_rfl
  i5:=by kernel_rfl
  i9:=by kernel_rfl
  i20:=by kernel_rfl
  i21:=by kernel_rfl
  i37:=by kernel_rfl
  i46:=by kernel_rfl
  i51:=by kernel_rfl
  i53:=by kernel_rfl
  i75:=by kernel_rfl
  i76:=by kernel_rfl
  i80:=by kernel_rfl
  i85:=by kernel_rfl
  i127:=by kernel_rfl
  i143:=by kernel_rfl
  i145:=by kernel_rfl
  i167:=by kernel_rfl
  i168:=by kernel_rfl
  i171:=by kernel_rfl
  i173:=by kernel_rfl
  i175:=by kernel_rfl
  i210:=by kernel_rfl
  i212:=by kernel_rfl
  i232:=by kernel_rfl
  i233:=by kernel_rfl
  m15:=by kernel_rfl
  m16:=by kernel_rfl
  m17:=by kernel_rfl
  m18:=by kernel_rfl
  m19:=by kernel_rfl
  c0:=by kernel_rfl
  c2:=by kernel_rfl
  c3:=by kernel_rfl
  c4:=by kernel_rfl
  c5:=by kernel_rfl
  c9:=by kernel_rfl
  c20:=by kernel_rfl
  c21:=by kernel_rfl
  c37:=by kernel_rfl
  c46:=by kernel_rfl
  c51:=by kernel_rfl
  c53:=by kernel_rfl
  c75:=by kernel_rfl
  c76:=by kernel_rfl
  c80:=by kernel_rfl
  c85:=by kernel_rfl
  c127:=by kernel_rfl
  c143:=by kernel_rfl
  c145:=by kernel_rfl
  c167:=by kernel_rfl
  c168:=by kernel_rfl
  c171:=by kernel_rfl
  c173:=by kernel_rfl
  c175:=by kernel_rfl
  c210:=by kernel_rfl
  c212:=by kernel_rfl
  c213:=by kernel_rfl
  c232:=by kernel_rfl
  c233:=by kernel_rfl }
open Go.RowKit in
theorem Tryz.strconv_Atoi_ok (s : ByteArray) (hmax : s.size ≤ 9223372036854775806) (v : Int) (h : Lib.atoiAll s.data.toList = .ok v) (w : World) :
    Calls Tryz.prog 176 #[.string s] w fun e w'=>e = .returned (.tuple #[.int .i64 v,.nilIface]) ∧ (w' = w ∨ ∃ t,w' = Lib.bytesWorld w 5 t):=Any.strconv_Atoi_ok Tryz.laysC172 s hmax v h w
open Go.RowKit in
theorem Tryz.strconv_Atoi_syntax (s : ByteArray) (hlim : s.size ≤ 281474976710656) (h : Lib.atoiAll s.data.toList = Lib.atoiAll []) (ev : Value) (w : World) (hv : w.cell? ⟨2,0,none⟩ = some ev) (hev : ev = .nilIface ∨ ∃ te pe,ev = .iface te pe) :
    Calls Tryz.prog 176 #[.string s] w fun e w'=>∃ N,e = .returned (.tuple #[.int .i64 (0),.iface 212 (.pointer (some ⟨N,0,none⟩))]) ∧ w.heap.size ≤ N ∧ w'.heap[N]? = some (.cells #[.string ⟨#[65,116,111,105]⟩,.string s,ev] 223 (0,0)) ∧ Below w.heap.size w w':=Any.strconv_Atoi_syntax Tryz.laysC172 s hlim h ev w hv hev
open Go.RowKit in
theorem Tryz.strconv_Atoi_range (s : ByteArray) (hlim : s.size ≤ 281474976710656) (h : Lib.atoiAll s.data.toList = .range) (ev : Value) (w : World) (hv : w.cell? ⟨3,0,none⟩ = some ev) (hev : ev = .nilIface ∨ ∃ te pe,ev = .iface te pe) :
    Calls Tryz.prog 176 #[.string s] w fun e w'=>∃ N,e = .returned (.tuple #[.int .i64 (Lib.atoiSat s.data.toList),.iface 212 (.pointer (some ⟨N,0,none⟩))]) ∧ w.heap.size ≤ N ∧ w'.heap[N]? = some (.cells #[.string ⟨#[65,116,111,105]⟩,.string s,ev] 223 (0,0)) ∧ Below w.heap.size w w':=Any.strconv_Atoi_range Tryz.laysC172 s hlim h ev w hv hev
def Tryz.lays145_ren : Go.Shelf.Ren:=⟨fun | 145=>145 | 220=>173 | 219=>172 | 217=>188 | 225=>189 | 224=>190 | 267=>191 | 266=>207 | 314=>208 | n=>n,fun | 9=>9 | 4=>4 | 59=>163 | 3=>3 | 5=>5 | 46=>197 | 146=>189 | 51=>188 | n=>n,fun | 1=>0 | n=>n⟩
theorem Tryz.lays145 : Go.Proofs.Lays.n145 Tryz.prog Tryz.lays145_ren:={
  mixed:=by kernel_rfl
  f145:=Tryz.func145.trans (congrArg some (by kernel_rfl))
  f217:=Tryz.func188.trans (congrArg some (by kernel_rfl))
  f219:=Tryz.func172.trans (congrArg some (by kernel_rfl))
  f220:=Tryz.func173.trans (congrArg some (by kernel_rfl))
  f224:=Tryz.func190.trans (congrArg some (by kernel_rfl))
  f225:=Tryz.func189.trans (congrArg some (by kernel_rfl))
  f266:=Tryz.func207.trans (congrArg some (by kernel_rfl))
  f267:=Tryz.func191.trans (congrArg some (by kernel_rfl))
  f314:=Tryz.func208.trans (congrArg some (by kernel_rfl))
  t3:=Tryz.underlying3
  a3:=Tryz.isAgg3
  z3:=Tryz.sizeOf3
  v3:=Tryz.zeroValue3
  t4:=Tryz.underlying4
  a4:=Tryz.isAgg4
  z4:=Tryz.sizeOf4
  v4:=Tryz.zeroValue4
  t5:=Tryz.underlying5
  a5:=Tryz.isAgg5
  z5:=Tryz.sizeOf5
  v5:=Tryz.zeroValue5
  t9:=Tryz.underlying9
  a9:=Tryz.isAgg9
  z9:=Tryz.sizeOf9
  v9:=Tryz.zeroValue9
  t46:=Tryz.underlying197
  a46:=Tryz.isAgg197
  z46:=Tryz.sizeOf197
  v46:=Tryz.zeroValue197
  t51:=Tryz.underlying188
  a51:=Tryz.isAgg188
  z51:=Tryz.sizeOf188
  v51:=Tryz.zeroValue188
  t59:=Tryz.underlying163
  a59:=Tryz.isAgg163
  z59:=Tryz.sizeOf163
  v59:=Tryz.zeroValue163
  t146:=Tryz.underlying189
  a146:=Tryz.isAgg189
  z146:=Tryz.sizeOf189
  v146:=Tryz.zeroValue189
  g1:=by kernel_rfl }
open Go.RowKit Go.Lib in
theorem Tryz.strings_Cut (s sep : ByteArray) (m : Int) (w : World) (hs : s.size < 4294967281) (hm : w.cell? ⟨0,0,none⟩ = some (.int .i64 m)) :
    Calls Tryz.prog 145 #[.string s,.string sep] w fun e w'=>e = .returned (.tuple #[.string ⟨(Lib.cut s.data.toList sep.data.toList).1.toArray⟩,.string ⟨(Lib.cut s.data.toList sep.data.toList).2.1.toArray⟩,.bool (Lib.cut s.data.toList sep.data.toList).2.2]) ∧ ∃ n,w' = w.drewN n:=Any.strings_Cut Tryz.lays145 s sep m w hs hm
end Go.Proofs
namespace Go.Proofs.YtgpolhlmedmloaaGreatDoor.P
open Go Go.Proofs.YtgpolhlmedmloaaGreatDoorUBoxE.PrintLast Go.Proofs.YtgpolhlmedmloaaGreatDoorUBoxE.PrintMore Go.Proofs.YtgpolhlmedmloaaGreatDoorUBoxE.PrintWords Go.RowKit Go.Sort
set_option linter.unusedVariables false
theorem var_below {P : Program} {n : String} {cs : Array Value} {w w' : World} (h : w.var? P n = some cs) (b : Below w.heap.size w w') : w'.var? P n = some cs:=by
  simp only [World.var?] at h ⊢
  cases hg : P.globalNamed n with
  | none=>rw [hg] at h;exact h
  | some g=>
    rw [hg] at h
    simp only [Option.bind_some] at h ⊢
    cases hk : w.heap[g]? with
    | none=>rw [hk] at h;simp at h
    | some o=>rw [b.block g (Array.getElem?_eq_some_iff.1 hk).1,hk];rw [hk] at h;exact h
theorem cell_below {g : Nat} {v : Value} {w w' : World} (h : w.cell? ⟨g,0,none⟩ = some v) (b : Below w.heap.size w w') : w'.cell? ⟨g,0,none⟩ = some v:=by
  simp only [World.cell?] at h ⊢
  cases hk : w.heap[g]? with
  | none=>rw [hk] at h;simp at h
  | some o=>rw [b.block g (Array.getElem?_eq_some_iff.1 hk).1,hk];rw [hk] at h;exact h
structure EnvT (w : World) : Prop where
  pow : Lib.TabIs Tryz.prog w "internal/strconv.uint64pow10" .u64 Lib.pow10Tab
theorem EnvT.below {w w' : World} (h : EnvT w) (b : Below w.heap.size w w') : EnvT w':=⟨var_below h.pow b⟩
theorem below_grow {B : Nat} {a w : World} (h : Below B a w) (hB : B ≤ w.heap.size) (os : Array Obj) : Below B a (grow w os):=
  h.trans ⟨rfl,rfl,rfl,by simp [grow],fun k hk=>by simp only [grow];rw [Array.getElem?_append_left (by omega)]⟩
theorem itoa_calls (n : Int) (h0 : 0 ≤ n) (h1 : n ≤ 1000000) (w : World) (hE : EnvT w) :
    Calls Tryz.prog 195 #[.int .i64 n] w fun e w'=>e = .returned (.string ⟨(Lib.itoa n).toArray⟩) ∧ Below w.heap.size w w':=by
  refine (Tryz.strconv_Itoa n (by omega) (by omega) w hE.pow).mono ?_
  rintro e w' ⟨rfl,k,os,rfl⟩
  exact ⟨rfl,below_grow (below_drewN (Below.refl _ _) k) (Nat.le_refl _) os⟩
theorem toList_inj {a b : ByteArray} (h : a.toList = b.toList) : a = b:=by
  rw [ByteArray.toList_eq,ByteArray.toList_eq] at h
  cases a;cases b;simp at h;rw [h]
def numB (n : Int) : ByteArray:=⟨(Lib.itoa n).toArray⟩
theorem numB_size {n : Int} (h0 : 0 ≤ n) (h1 : n ≤ 999) : (numB n).size ≤ 3:=by
  obtain ⟨k,rfl⟩ : ∃ k : Nat,n = k:=⟨n.toNat,by omega⟩
  have hk : k < 1000:=by omega
  have h3 : Lib.nDigits k ≤ 3:=by
    by_cases a : k < 10
    · rw [Lib.nDigits_small a];omega
    · rw [Lib.nDigits_big a]
      by_cases b : k / 10 < 10
      · rw [Lib.nDigits_small b];omega
      · rw [Lib.nDigits_big b,Lib.nDigits_small (by omega)];omega
  have : (Lib.itoa (k : Int)).length ≤ 3:=by
    unfold Lib.itoa
    rw [if_neg (by omega),Lib.decDigits_length]
    simpa using h3
  simpa [numB,ByteArray.size] using this
theorem num_calls (n : Int) (h0 : 0 ≤ n) (h1 : n ≤ 999) (w : World) (hE : EnvT w) :
    Calls Tryz.prog 195 #[.int .i64 n] w fun e w'=>∃ b : ByteArray,e = .returned (.string b) ∧ b = numB n ∧ b.size ≤ 3 ∧ Below w.heap.size w w':=by
  refine (itoa_calls n h0 (by omega) w hE).mono ?_
  rintro e w' ⟨rfl,hb⟩
  exact ⟨_,rfl,rfl,numB_size h0 h1,hb⟩
structure Env (w : World) : Prop where
  t : EnvT w
  max : ∃ m,w.cell? ⟨0,0,none⟩ = some (.int .i64 m)
  syn : ∃ te pe,w.cell? ⟨2,0,none⟩ = some (.iface te pe)
  rng : ∃ te pe,w.cell? ⟨3,0,none⟩ = some (.iface te pe)
theorem Env.below {w w' : World} (h : Env w) (b : Below w.heap.size w w') : Env w':=
  ⟨h.t.below b,h.max.elim fun m hm=>⟨m,cell_below hm b⟩,h.syn.elim fun a ha=>ha.elim fun c hc=>⟨a,c,cell_below hc b⟩,h.rng.elim fun a ha=>ha.elim fun c hc=>⟨a,c,cell_below hc b⟩⟩
theorem below_bytesE (w : World) (e : TypeId) (s : ByteArray) : Below w.heap.size w (Lib.bytesWorld w e s):=by
  refine ⟨?_,?_,?_,?_,fun k hk=>Lib.bytesWorld_at_old w e s k hk⟩ <;> unfold Lib.bytesWorld World.freeze <;> simp [World.alloc,World.drew,-World.alloc_eq,-World.drew_eq]
theorem end_cases (x : Lib.NumEnd Int) : (∃ n,x = .ok n) ∨ x = .range ∨ x = Lib.atoiAll []:=by
  cases x <;> first | exact .inl ⟨_,rfl⟩ | exact .inr (.inl rfl) | exact .inr (.inr rfl)
def atoiP (s : ByteArray) (v : Int) (ev : Value) : Prop:=(Lib.atoiAll s.data.toList = .ok v ∧ ev = .nilIface) ∨ ((∀ n,Lib.atoiAll s.data.toList ≠ .ok n) ∧ ∃ t p,ev = .iface t p)
theorem atoi_calls (s : ByteArray) (hs : s.size ≤ 281474976710656) (w : World) (hE : Env w) :
    Calls Tryz.prog 176 #[.string s] w fun e w'=>∃ (v : Int) (ev : Value),e = .returned (.tuple #[.int .i64 v,ev]) ∧ atoiP s v ev ∧ Below w.heap.size w w':=by
  rcases end_cases (Lib.atoiAll s.data.toList) with ⟨n,h⟩ | h | h
  · refine (Tryz.strconv_Atoi_ok s (by omega) n h w).mono ?_
    rintro e w' ⟨rfl,hw⟩
    refine ⟨n,.nilIface,rfl,.inl ⟨h,rfl⟩,?_⟩
    rcases hw with rfl | ⟨t,rfl⟩
    · exact Below.refl _ _
    · exact below_bytesE _ _ _
  · obtain ⟨te,pe,hv⟩:=hE.rng
    refine (Tryz.strconv_Atoi_range s hs h _ w hv (.inr ⟨te,pe,rfl⟩)).mono ?_
    rintro e w' ⟨N,rfl,_,_,hb⟩
    exact ⟨_,_,rfl,.inr ⟨fun n hn=>(by rw [h] at hn;cases hn),_,_,rfl⟩,hb⟩
  · obtain ⟨te,pe,hv⟩:=hE.syn
    refine (Tryz.strconv_Atoi_syntax s hs h _ w hv (.inr ⟨te,pe,rfl⟩)).mono ?_
    rintro e w' ⟨N,rfl,_,_,hb⟩
    exact ⟨_,_,rfl,.inr ⟨fun n hn=>(by rw [h] at hn;cases hn),_,_,rfl⟩,hb⟩
def atoiO (s : ByteArray) : Option Int:=match Lib.atoiAll s.data.toList with | .ok n=>some n | _=>none
theorem atoi_ok (s : ByteArray) (hs : s.size ≤ 281474976710656) (v : Int) (h : atoiO s = some v) (w : World) (hE : Env w) :
    Calls Tryz.prog 176 #[.string s] w fun e w'=>e = .returned (.tuple #[.int .i64 v,.nilIface]) ∧ Below w.heap.size w w':=by
  refine (atoi_calls s hs w hE).mono ?_
  rintro e w' ⟨v',ev,rfl,hp,hb⟩
  rcases hp with ⟨h1,rfl⟩ | ⟨h1,_⟩
  · unfold atoiO at h;rw [h1] at h;cases h;exact ⟨rfl,hb⟩
  · unfold atoiO at h
    rcases end_cases (Lib.atoiAll s.data.toList) with ⟨n,h2⟩ | h2 | h2
    · exact absurd h2 (h1 n)
    · rw [h2] at h;cases h
    · rw [h2] at h;cases h
theorem atoi_no (s : ByteArray) (hs : s.size ≤ 281474976710656) (h : atoiO s = none) (w : World) (hE : Env w) :
    Calls Tryz.prog 176 #[.string s] w fun e w'=>∃ v t p,e = .returned (.tuple #[.int .i64 v,.iface t p]) ∧ Below w.heap.size w w':=by
  refine (atoi_calls s hs w hE).mono ?_
  rintro e w' ⟨v',ev,rfl,hp,hb⟩
  rcases hp with ⟨h1,rfl⟩ | ⟨h1,t,p,rfl⟩
  · unfold atoiO at h;rw [h1] at h;cases h
  · exact ⟨_,_,_,rfl,hb⟩
structure EnvE (w : World) : Prop where
  e : Env w
  err : ∃ te pe,w.cell? ⟨1,0,none⟩ = some (.iface te pe)
theorem EnvE.below {w w' : World} (h : EnvE w) (b : Below w.heap.size w w') : EnvE w':=
  ⟨h.e.below b,h.err.elim fun a ha=>ha.elim fun c hc=>⟨a,c,cell_below hc b⟩⟩
end Go.Proofs.YtgpolhlmedmloaaGreatDoor.P
namespace Go.Proofs.YtgpolhlmedmloaaGreatDoor.P
open Go Go.RowKit
set_option linter.unusedVariables false
theorem laid_iface {P : Program} {n nm : String} {d : DataW Unit} {r : List (String × DataW Unit)} {W : World} {g : Nat} {ti : TypeId} {ms : Array (String × TypeId)}
    (h : laidMet P ((n,.iface nm d) :: r) W) (hg : P.globalNamed n = some g) (ht : (P.globals[g]?).map (·.type) = some ti) (hi : P.underlying ti = some (.interface ms)) :
    ∃ u v,W.cell? ⟨g,0,none⟩ = some (.iface u v):=by
  obtain ⟨ps,⟨g0,t0,cs0,f0,p0,q0,hg0,ht0,hv0,hd0,_,e0⟩,_,hrows⟩:=h
  obtain rfl:=Option.some.inj (hg.symm.trans hg0)
  obtain rfl:=Option.some.inj (ht.symm.trans ht0)
  obtain ⟨f1,u,v,hc,_⟩:=iface_of_trod hi hd0
  refine ⟨u,v,?_⟩
  have:=World.var?_cell hg0 hv0 0
  rw [Array.eq_one_of_toList hc] at this
  simpa using this
theorem laid_one {P : Program} {L : List (String × DataW Unit)} {W : World} (h : laidMetH P L W) (n : String) {x : String × DataW Unit} (e : (L.filter fun x=>x.1 == n) = [x]) (hx : x.2.handleName?.isNone = true) : laidMet P [x] W:=by
  have h1:=h.filter (fun x=>x.1 == n)
  rw [e,MakeChecks.laidMetH_plain _ _ _ (by simp [hx])] at h1
  exact h1
theorem envT_of {L : List (String × DataW Unit)} {W : World} (h : laidMetH Tryz.prog L W)
    (e : (L.filter fun x => x.1 == "internal/strconv.uint64pow10") = [("internal/strconv.uint64pow10", Lib.tabData .u64 Lib.pow10Tab)]) : EnvT W :=
  ⟨Lib.tabIs_of_head (g:=4) (by kernel_rfl) (by kernel_rfl) Tryz.underlying236 Tryz.underlying219 (by kernel_rfl) (by kernel_rfl) (laid_one h _ e rfl)⟩
theorem env_of {L : List (String × DataW Unit)} {W : World} (h : laidMetH Tryz.prog L W) (hs : W.ShapedOpen Tryz.prog)
    (e : (L.filter fun x => x.1 == "internal/strconv.uint64pow10") = [("internal/strconv.uint64pow10", Lib.tabData .u64 Lib.pow10Tab)])
    (e1 : (L.filter fun x => x.1 == "strconv.ErrSyntax") = [("strconv.ErrSyntax", Rows.laid_strconv_ErrSyntax)])
    (e2 : (L.filter fun x => x.1 == "strconv.ErrRange") = [("strconv.ErrRange", Rows.laid_strconv_ErrRange)]) : Env W :=
  ⟨envT_of h e,cell_of_shapedOpen_int (zero:=#[.int .i64 0]) (t:=3) hs (of_decide_eq_true (by kernel_rfl)) (by kernel_rfl) rfl (by kernel_rfl) (by kernel_rfl) Tryz.underlying3,
   laid_iface (laid_one h _ e1 rfl) (by kernel_rfl) (by kernel_rfl) Tryz.underlying168,laid_iface (laid_one h _ e2 rfl) (by kernel_rfl) (by kernel_rfl) Tryz.underlying168⟩
theorem envE_of {L : List (String × DataW Unit)} {W : World} (h : laidMetH Tryz.prog L W) (hs : W.ShapedOpen Tryz.prog)
    (e : (L.filter fun x => x.1 == "internal/strconv.uint64pow10") = [("internal/strconv.uint64pow10", Lib.tabData .u64 Lib.pow10Tab)])
    (e1 : (L.filter fun x => x.1 == "strconv.ErrSyntax") = [("strconv.ErrSyntax", Rows.laid_strconv_ErrSyntax)])
    (e2 : (L.filter fun x => x.1 == "strconv.ErrRange") = [("strconv.ErrRange", Rows.laid_strconv_ErrRange)])
    (e3 : (L.filter fun x => x.1 == "loop.example/hatchway/impl.errEnd") = [("loop.example/hatchway/impl.errEnd", Rows.laid_loop_example_hatchway_impl_errEnd)]) : EnvE W :=
  ⟨env_of h hs e e1 e2,laid_iface (laid_one h _ e3 rfl) (by kernel_rfl) (by kernel_rfl) Tryz.underlying168⟩
theorem witness_laid {H : Type} {enc : TypeId × Value → H} {os : Os} {f : FuncId} {fn : Func} {s : OpenSpec} {conds : List PathCond} {apart : Bool} {laid : List (String × DataW Unit)} (args : Array Value)
    (hsh : ((World.laidAll Tryz.prog os laid).forCall (fun _ _=>0) ⟨#[],args,[]⟩).Shaped Tryz.prog)
    (hok : Input.okWideB Tryz.prog ((World.laidAll Tryz.prog os laid).forCall (fun _ _=>0) ⟨#[],args,[]⟩) f ⟨#[],args,[]⟩ = true)
    (hrow : s.preRow enc Tryz.prog fn conds apart laid ((World.laidAll Tryz.prog os laid).forCall (fun _ _=>0) ⟨#[],args,[]⟩).memory args) :
    ∃ (w : World) (tape : Tape) (i : Input),w.os = os ∧ (w.forCall tape i).Shaped Tryz.prog ∧ i.vars = [] ∧ Input.okWide Tryz.prog (w.forCall tape i) .any w.heap.size f i ∧
      s.preRow enc Tryz.prog fn conds apart laid (w.forCall tape i).memory i.args ∧ ({} : Assume).holds Tryz.prog (lone (Frame.enter Tryz.prog f i.args .normal) [] (w.forCall tape i)):=
  ⟨World.laidAll Tryz.prog os laid,fun _ _=>0,⟨#[],args,[]⟩,World.laidAll_os _ _ _,hsh,(Input.okWide_of_okWideB (base:=0) hok).1,(Input.okWide_of_okWideB hok).2,hrow,by simp [Assume.holds]⟩
end Go.Proofs.YtgpolhlmedmloaaGreatDoor.P
namespace Go.Proofs.YtgpolhlmedmloaaGreatDoor.P
open Go.Proofs.YtgpolhlmedmloaaGreatDoorUBoxE.PrintLast Go.Proofs.YtgpolhlmedmloaaGreatDoorUBoxE.PrintMore Go.Proofs.YtgpolhlmedmloaaGreatDoorUBoxE.PrintWords Go.RowKit
set_option linter.unusedVariables false
set_option linter.unusedSimpArgs false
section
attribute [local go_sem] max2_int min2_int max_two min_two max_three min_three max_four min_four
def impl_within.f (a0 : Int) (a1 : Int) (a2 : Int) : Option (Bool):=if a0 ≥ a1 then (some (decide (a0 ≤ a2))) else (some false)
set_option maxHeartbeats 8000000 in
set_option maxRecDepth 100000 in
theorem impl_within.calls (a0 : Int) (a1 : Int) (a2 : Int) (r : Bool) (w : World) (h : impl_within.f a0 a1 a2 = some r) :
  Calls Tryz.prog 65 #[.int .i64 a0,.int .i64 a1,.int .i64 a2] w fun e w'=>e = .returned (.bool r) ∧ Drawn0 w w':=by
 have H : (if a0 ≥ a1 then (some (decide (a0 ≤ a2))) else (some false)) = some r:=h
 clear h
 by_cases c4 : a0 ≥ a1
 ·rw [if_pos c4] at H
  have c4b0 : decide (a1 ≤ a0) = true:=decide_eq_true c4
  clear c4
  obtain rfl:=Option.some.inj H
  go_enter Tryz.func65,Tryz.ntmps65
  go_wp2
  go_ret
  exact ⟨by first | rfl | (simp;done) | (simp [*];done),by repeat (first | exact Drawn0.refl _ | apply Drawn0.step)⟩
 ·rw [if_neg c4] at H
  have c4b0 : decide (a1 ≤ a0) = false:=decide_eq_false c4
  clear c4
  obtain rfl:=Option.some.inj H
  go_enter Tryz.func65,Tryz.ntmps65
  go_wp2
  go_ret
  exact ⟨by first | rfl | (simp;done) | (simp [*];done),by repeat (first | exact Drawn0.refl _ | apply Drawn0.step)⟩
end
theorem bk {w W : World} {g : Nat} {o : Obj} (b : Aside0 (w.heap[g]? = some o)) (s : w.heap[g]? = some o → W.heap[g]? = some o:=by intro h;(with_reducible repeat (first | refine blk_drewN ?_ _ | refine blk_drew ?_ | refine blk_alloc ?_ _));exact h) : W.heap[g]? = some o:=s b.out
theorem bkL {w W : World} {g : Nat} {o : Obj} (b : Aside0 (w.heap[g]? = some o)) (s : w.heap[g]? = some o → W.heap[g]? = some o:=by intro h;(with_reducible repeat (first | refine blk_drewN ?_ _ | refine blk_drew ?_ | refine blk_alloc ?_ _));exact h) : g < W.heap.size:=blk_lt (s b.out)
theorem bkB {w W W' : World} {g : Nat} {o : Obj} (b : Aside0 (w.heap[g]? = some o)) (hb : Below W.heap.size W W') (s : w.heap[g]? = some o → W.heap[g]? = some o:=by intro h;(with_reducible repeat (first | refine blk_drewN ?_ _ | refine blk_drew ?_ | refine blk_alloc ?_ _));exact h) : Aside0 (W'.heap[g]? = some o):=⟨blk_below (s b.out) hb⟩
theorem bl {w W W' : World} {n : Nat} (b : Aside0 (Below n w W)) (s : Below n w W → Below n w W':=by intro h;repeat (first | (with_reducible first | exact h | apply below_alloc | apply pw_below_drewN | apply below_drew1 | refine below_set ?_ (Aside0.out (by with_reducible assumption))) | exact h)) : Below n w W':=s b.out
theorem rs {α : Type} {d : Kd α} {e : Nat} {w W : World} {base : Nat} {ok : Nat → Prop} {v : Value} {xs : List α} (b : Aside0 (Kd.R d e w base ok v xs)) (s : Kd.R d e w base ok v xs → Kd.R d e W base ok v xs:=by intro h;(with_reducible repeat (first | apply Kd.R_alloc | apply Kd.R_drewN | apply Kd.R_drew));exact h) : Kd.R d e W base ok v xs:=s b.out
class Up (w : outParam World) (W : World) : Prop where
  up : ∀ {g : Nat} {o : Obj},w.heap[g]? = some o → W.heap[g]? = some o
instance up_drew (w : World) : Up w w.drew:=⟨fun h=>blk_drew h⟩
instance up_drewN (w : World) (n : Nat) : Up w (w.drewN n):=⟨fun h=>blk_drewN h n⟩
instance up_alloc (w : World) (o : Obj) : Up w (w.alloc o):=⟨fun h=>blk_alloc h o⟩
theorem bu {w W : World} [u : Up w W] {g : Nat} {o : Obj} (h : w.heap[g]? = some o) : W.heap[g]? = some o:=u.up h
class UpR (w : outParam World) (W : World) : Prop where
  up : ∀ {α : Type} {d : Kd α} {e base : Nat} {ok : Nat → Prop} {v : Value} {xs : List α},Kd.R d e w base ok v xs → Kd.R d e W base ok v xs
instance upR_drew (w : World) : UpR w w.drew:=⟨fun h=>Kd.R_drew h⟩
instance upR_drewN (w : World) (n : Nat) : UpR w (w.drewN n):=⟨fun h=>Kd.R_drewN h n⟩
instance upR_alloc (w : World) (o : Obj) : UpR w (w.alloc o):=⟨fun h=>Kd.R_alloc h o⟩
theorem ru {w W : World} [u : UpR w W] {α : Type} {d : Kd α} {e base : Nat} {ok : Nat → Prop} {v : Value} {xs : List α} (h : Kd.R d e w base ok v xs) : Kd.R d e W base ok v xs:=u.up h
end Go.Proofs.YtgpolhlmedmloaaGreatDoor.P
namespace Go.Proofs.YtgpolhlmedmloaaGreatDoor.P
open Go.Proofs.YtgpolhlmedmloaaGreatDoorUBoxE.PrintWords Go.Proofs.YtgpolhlmedmloaaGreatDoorUBoxE.PrintLast Go.Proofs.YtgpolhlmedmloaaGreatDoorUBoxE.PrintMore
set_option linter.unusedVariables false
open Go.RowKit
theorem am {p : Prop} (h : p) : Aside0 p:=⟨h⟩
theorem bse {α β : Type} {o : Option α} {f : α → Option β} {r : β} (h : o.bind f = some r) : ∃ t,Aside0 (o = some t) ∧ f t = some r:=by obtain ⟨t,a,b⟩:=Option.bind_eq_some_iff.mp h;exact ⟨t,⟨a⟩,b⟩
theorem bfz {w : World} {g : Nat} {t : TypeId} {cs : Array Value} (b : Aside0 (w.heap[g]? = some (.cells cs t (0,0)))) (i : Nat) : w.frozen? ⟨g,i,none⟩ = false:=blk_frozen b.out i
theorem bf_ {w W : World} {g : Nat} {o : Obj} (b : Aside0 (w.heap[g]? = some o)) (s : w.heap[g]? = some o → W.heap[g]? = some o:=by intro h;repeat (first | (with_reducible refine bu ?_) | (refine blk_far ?_ (Aside0.out (by with_reducible assumption)) _) | exact h)) : Aside0 (W.heap[g]? = some o):=⟨s b.out⟩
theorem rcx {α : Type} {d : Kd α} {e base c n : Nat} {ok : Nat → Prop} {w W : World} {A : Option Addr} {xs : List α} (b : Aside0 (d.R e w base ok (.slice A n c) xs)) (s : d.C w A xs.length xs → d.C W A xs.length xs:=by intro h;repeat (first | exact h | (with_reducible refine Kd.C_alloc ?_ _) | (with_reducible refine Kd.C_drewN ?_ _) | (with_reducible refine Kd.C_drew ?_))) : d.C W A xs.length xs:=s (Kd.R_reads' b.out).2.2
def bm (n k : Nat) : Array Bool:=((List.range n).map fun i=>k.testBit i).toArray
theorem fi_ {p : Prop} (h : p:=by first | rfl | (simp [errW_none,errW_some] <;> rfl) | (simp [*,errW_none,errW_some] <;> rfl)) : p:=h
theorem hr_ {p : Prop} (h : p:=by first | (go_simp;done) | (go_simp;rfl)) : p:=h
theorem gwE {w W W' : World} {g : Nat} (b : Aside0 (Below w.heap.size w W)) (hg : g = W'.heap.size) (s : Below w.heap.size w W → Below w.heap.size w W':=by intro h;repeat (first | (with_reducible first | exact h | apply below_alloc | apply pw_below_drewN | apply below_drew1 | refine below_set ?_ (Aside0.out (by with_reducible assumption))) | exact h)) : Aside0 (w.heap.size ≤ g):=⟨hg ▸ below_size (s b.out)⟩
theorem hbS {w W W' W2 : World} (b : Aside0 (Below w.heap.size w W)) (hb : Below W'.heap.size W' W2) (s : Below w.heap.size w W → Below w.heap.size w W':=by intro h;repeat (first | (with_reducible first | exact h | apply below_alloc | apply pw_below_drewN | apply below_drew1 | refine below_set ?_ (Aside0.out (by with_reducible assumption))) | exact h)) : Aside0 (Below w.heap.size w W2):=⟨below_step (s b.out) hb⟩
theorem neL {w W : World} {g g' : Nat} {o : Obj} (b : Aside0 (w.heap[g]? = some o)) (hg : g' = W.heap.size) (s : w.heap[g]? = some o → W.heap[g]? = some o:=by intro h;(with_reducible repeat (first | refine blk_drewN ?_ _ | refine blk_drew ?_ | refine blk_alloc ?_ _));exact h) : Aside0 (g ≠ g'):=⟨hg ▸ Nat.ne_of_lt (blk_lt (s b.out))⟩
theorem neG {w W : World} {g g' : Nat} {o : Obj} (b : Aside0 (w.heap[g]? = some o)) (hg : g' = W.heap.size) (s : w.heap[g]? = some o → W.heap[g]? = some o:=by intro h;(with_reducible repeat (first | refine blk_drewN ?_ _ | refine blk_drew ?_ | refine blk_alloc ?_ _));exact h) : Aside0 (g' ≠ g):=⟨hg ▸ Nat.ne_of_gt (blk_lt (s b.out))⟩
theorem bcell {w : World} {g : Nat} {cs : Array Value} {t : TypeId} (b : Aside0 (w.heap[g]? = some (.cells cs t (0,0)))) (i : Nat) {v : Value} (h : cs.toList[i]? = some v:=by exact rfl) : w.cell? ⟨g,i,none⟩ = some v:=(blk_cell b.out i).trans (by rw [← Array.getElem?_toList];exact h)
theorem gL {P : Program} {ops : Array Oper} {rest : List Oper} {Q : Exit → Act → World → Prop} {oi : Oper} {a : Act} {w : World} (N : Option Tmp) {f : FuncId} {fn : Func} {ar : Array Operand} {ts : Array TypeId} (hf : P.funcs[f]? = some fn) (args : Array Value)
    (h : Calls P f args w fun e w'=>∃ v,e = .returned v ∧ wpList P ops Q rest (a.put N v) w')
    (hd : oi.dst = N := by exact rfl) (hg : oi.guard = none := by exact rfl) (hname : (fn.name == "runtime.NumGoroutine") = false := by kernel_rfl) (hb : fn.body.isSome = true := by exact rfl)
    (hop : oi.op = .call { callee:=.value (.func f),args:=ar,argTypes:=ts }:=by exact rfl) (hargs : ar.map a.eval = args:=by (try simp only [List.map_toArray,List.map_cons,List.map_nil]);first | done | rfl | (simp only [List.length_drop,List.length_take];rfl)) :
    wpList P ops Q (oi :: rest) a w:=goesL_ N hd hg hf hname hb args hop hargs h
theorem gR {P : Program} {ops : Array Oper} {Q : Exit → Act → World → Prop} {oi : Oper} {N : Option Tmp} {a : Act} {w : World} {K : Act → World → Prop} {f : FuncId} {fn : Func} {ar : Array Operand} {ts : Array TypeId} (hf : P.funcs[f]? = some fn) (args : Array Value)
    (h : Calls P f args w fun e w'=>∃ v,e = .returned v ∧ K (a.put N v) w')
    (hname : (fn.name == "runtime.NumGoroutine") = false := by kernel_rfl) (hb : fn.body.isSome = true := by exact rfl) (hw : Region.wanted oi (yielded ops a.tmps) = true := by rfl) (hN : oi.dst = N := by exact rfl)
    (hop : oi.op = .call { callee:=.value (.func f),args:=ar,argTypes:=ts }:=by exact rfl) (hargs : ar.map a.eval = args:=by (try simp only [List.map_toArray,List.map_cons,List.map_nil]);first | done | rfl | (simp only [List.length_drop,List.length_take];rfl)) :
    if Region.wanted oi (yielded ops a.tmps) = true then Oper.wp P oi a w K Q else K (a.put N undef) w:=goes_ hf hname hb args hw hN hop hargs h
theorem bcl {w W : World} (b : Aside0 (Below w.heap.size w W)) {a : Addr} {v : Value} (h : w.cell? a = some v) : W.cell? a = some v:=(b.out.cell (World.block_lt_of_cell? w _ h)).trans h
theorem bch {w W : World} (b : Below w.heap.size w W) {a : Addr} {v : Value} (h : w.cell? a = some v) : W.cell? a = some v:=(b.cell (World.block_lt_of_cell? w _ h)).trans h
theorem da_ {p : Prop} (h : p:=by first | (with_reducible assumption) | assumption) : p:=h
theorem isE_ne (l : List UInt8) : l.isEmpty = !(l != []):=by cases l <;> rfl
theorem rs_ {p : Prop} (h : p:=by first | rfl | (simp;done) | (simp [*];done) | (simp;exact isE_ne _)) : p:=h
theorem ok_ {p q : Nat → Prop} (h : ∀ k,p k → q k:=by intro k hk;first | exact hk | trivial | (simp only [hk,ne_eq,not_false_eq_true,and_self])) : ∀ k,p k → q k:=h
section
variable {P : Program} {ops : Array Oper} {Q : Exit → Act → World → Prop} {md : Region.Mode} {S : World → Prop} {ds : List Nat} {oi : Oper} {v : Value} {fuel : Nat} {l : Array Bool} {a a' : Act} {w : World}
theorem pu_ (i : Nat) (N : Option Tmp) (l' : Array Bool) (h : wpAnyLast P md ops Q S ds fuel l' a' w) (hi : ops[i]? = some oi:=by exact rfl) (hN : oi.dst = N:=by exact rfl)
    (hc : anyB md ops l l' i = true:=by first | exact any_of HT_.out (by kernel_rfl) | kernel_rfl) (hQ : ∀ c a w,Q (.panic c) (a.put oi.dst v) w → Q (.panic c) a w:=by exact fun _ _ _ h=>h)
    (hy : Yields P ops oi v a:=by (refine Or.inl ⟨by rfl,?_⟩;intro w';go_simp;with_reducible rfl)) (ha : a.put N v = a':=by (simp only [Act.put,List.setIfInBounds_toArray,List.set_cons_zero,List.set_cons_succ,i64_w,i32_w];rfl)) :
    wpAnyLast P md ops Q S ds (fuel + 1) l a w:=pure_ l' hi hN hc hQ hy ha h
theorem pv_ (i : Nat) (N : Option Tmp) (l' : Array Bool) (h : wpAnyLast P md ops Q S ds fuel l' a' w) (hi : ops[i]? = some oi:=by exact rfl) (hN : oi.dst = N:=by exact rfl)
    (hc : anyB md ops l l' i = true:=by first | exact any_of HT_.out (by kernel_rfl) | kernel_rfl) (hQ : ∀ c a w,Q (.panic c) (a.put oi.dst undef) w → Q (.panic c) a w:=by exact fun _ _ _ h=>h)
    (hy : Yields P ops oi undef a:=by exact Or.inr ⟨by rfl,rfl⟩) (ha : a.put N undef = a':=by (simp only [Act.put,List.setIfInBounds_toArray,List.set_cons_zero,List.set_cons_succ,i64_w,i32_w];rfl)) :
    wpAnyLast P md ops Q S ds (fuel + 1) l a w:=pure_ l' hi hN hc hQ hy ha h
theorem tk_ (i : Nat) (N : Option Tmp) (l' : Array Bool) (hi : ops[i]? = some oi) (hy : YieldsIf P ops S oi v a) (h : wpAnyLast P md ops Q S ds fuel l' a' w) (hN : oi.dst = N:=by exact rfl)
    (hc : takeB md ops ds l l' i = true:=by first | exact take_ofW HT_.out HW_.out (by kernel_rfl) | kernel_rfl) (hQ : ∀ c a w,Q (.panic c) (a.put oi.dst v) w → Q (.panic c) a w:=by exact fun _ _ _ h=>h)
    (hS : S w:=by exact hHeld) (ha : a.put N v = a':=by (simp only [Act.put,List.setIfInBounds_toArray,List.set_cons_zero,List.set_cons_succ,i64_w,i32_w];rfl)) :
    wpAnyLast P md ops Q S ds (fuel + 1) l a w:=take_ l' hi hN hc hQ hy hS ha h
theorem nm_ (h : wpAnyLast P md ops Q S ds fuel l a' w) (ha : a = a':=by (show Act.put _ (some _) _ = _;simp only [Act.put,List.setIfInBounds_toArray,List.set_cons_zero,List.set_cons_succ,i64_w,i32_w];rfl)) : wpAnyLast P md ops Q S ds fuel l a w:=norm_ ha h
theorem on_ (i : Nat) (N : Option Tmp) (l' : Array Bool)
    (h : ∀ K : Act → World → Prop,Shut (∀ a' w',S w' → (S w' → wpAnyLast P md ops Q S ds fuel l' a' w') → K a' w') → if Region.wanted oi (yielded ops a.tmps) = true then Oper.wp P oi a w K Q else K (a.put N undef) w)
    (hi : ops[i]? = some oi:=by exact rfl) (hN : oi.dst = N:=by exact rfl) (hc : readyB md ops l l' i = true:=by exact one_of HT_.out (by kernel_rfl)) (hd : i ∉ ds:=by decide) :
    wpAnyLast P md ops Q S ds (fuel + 1) l a w:=one_ l' hi hN hc hd h
end
theorem m0_ {p : Prop} (h : p:=by repeat (first | (with_reducible first | exact HB.out | apply below_alloc | apply pw_below_drewN | apply below_drew1) | exact HB.out)) : p:=h
theorem m1_ {p : Prop} (h : p:=by repeat (first | (with_reducible first | exact HI201.out | apply IsS131.alloc | apply IsS131.drewN | apply IsS131.drew | apply IsS131.set_1) | exact HI201.out)) : p:=h
theorem m3_ {p : Prop} (h : p:=by repeat (first | exact (Kd.C_below HR0.out HB.out) | (with_reducible refine Kd.C_alloc ?_ _) | (with_reducible refine Kd.C_drewN ?_ _) | (with_reducible refine Kd.C_drew ?_))) : p:=h
theorem m4_ {p : Prop} (h : p:=by repeat (first | (with_reducible first | exact HB.out | apply below_alloc | apply pw_below_drewN | apply below_drew1 | refine below_set ?_ (Aside0.out (by with_reducible assumption))) | exact HB.out)) : p:=h
theorem m5_ {p : Prop} (h : p:=by repeat (first | exact (Kd.C_below HR0_0.out HB.out) | (with_reducible refine Kd.C_alloc ?_ _) | (with_reducible refine Kd.C_drewN ?_ _) | (with_reducible refine Kd.C_drew ?_))) : p:=h
theorem m6_ {p : Prop} (h : p:=by (rintro w' ⟨s0,s1,s2⟩;go_simp;with_reducible rfl)) : p:=h
theorem m7_ {p : Prop} (h : p:=by (rintro w' ⟨s0,s1⟩;go_simp;with_reducible rfl)) : p:=h
theorem m8_ {p : Prop} (h : p:=by (rintro w' ⟨s0,s1,s2,s3,s4⟩;go_simp;with_reducible rfl)) : p:=h
theorem m9_ {p : Prop} (h : p:=by repeat (first | exact (Kd.C_below HR0_1.out HB.out) | (with_reducible refine Kd.C_alloc ?_ _) | (with_reducible refine Kd.C_drewN ?_ _) | (with_reducible refine Kd.C_drew ?_))) : p:=h
theorem m10_ {p : Prop} (h : p:=by repeat (first | exact (Kd.C_below HR1_1.out HB.out) | (with_reducible refine Kd.C_alloc ?_ _) | (with_reducible refine Kd.C_drewN ?_ _) | (with_reducible refine Kd.C_drew ?_))) : p:=h
theorem m11_ {p : Prop} (h : p:=by repeat (first | exact (Kd.C_below HR0_0.out (bl HB)) | (with_reducible refine Kd.C_alloc ?_ _) | (with_reducible refine Kd.C_drewN ?_ _) | (with_reducible refine Kd.C_drew ?_))) : p:=h
theorem m13_ {p : Prop} (h : p:=by (rintro w' ⟨s0,s1,s2,s3⟩;go_simp;with_reducible rfl)) : p:=h
theorem m21_ {p : Prop} (h : p:=by repeat (first | exact (Kd.C_below HR0_2.out HB.out) | (with_reducible refine Kd.C_alloc ?_ _) | (with_reducible refine Kd.C_drewN ?_ _) | (with_reducible refine Kd.C_drew ?_))) : p:=h
theorem m22_ {p : Prop} (h : p:=by (rintro w' ⟨s0,s1,s2,s3,s4,s5,s6,s7,s8,s9⟩;go_simp;with_reducible rfl)) : p:=h
theorem m24_ {p : Prop} (h : p:=by repeat (first | exact (Kd.C_below HR0_1.out (bl HB)) | (with_reducible refine Kd.C_alloc ?_ _) | (with_reducible refine Kd.C_drewN ?_ _) | (with_reducible refine Kd.C_drew ?_))) : p:=h
theorem m29_ {p : Prop} (h : p:=by (rintro w' ⟨s0,s1,s2,s3,s4,s5,s6,s7,s8,s9,s10,s11,s12,s13⟩;go_simp;with_reducible rfl)) : p:=h
theorem m31_ {p : Prop} (h : p:=by repeat (first | exact (Kd.C_below HR1_0.out HB.out) | (with_reducible refine Kd.C_alloc ?_ _) | (with_reducible refine Kd.C_drewN ?_ _) | (with_reducible refine Kd.C_drew ?_))) : p:=h
theorem m32_ {p : Prop} (h : p:=by repeat (first | exact (Kd.C_below HR1_2.out HB.out) | (with_reducible refine Kd.C_alloc ?_ _) | (with_reducible refine Kd.C_drewN ?_ _) | (with_reducible refine Kd.C_drew ?_))) : p:=h
theorem m33_ {p : Prop} (h : p:=by repeat (first | exact (Kd.C_below HR0_2.out (bl HB)) | (with_reducible refine Kd.C_alloc ?_ _) | (with_reducible refine Kd.C_drewN ?_ _) | (with_reducible refine Kd.C_drew ?_))) : p:=h
theorem m41_ {p : Prop} (h : p:=by (rintro w' ⟨s0,s1,s2,s3,s4,s5⟩;go_simp;with_reducible rfl)) : p:=h
theorem m50_ {p : Prop} (h : p:=by repeat (first | exact (Kd.C_below HR256.out HB.out) | (with_reducible refine Kd.C_alloc ?_ _) | (with_reducible refine Kd.C_drewN ?_ _) | (with_reducible refine Kd.C_drew ?_))) : p:=h
theorem m51_ {p : Prop} (h : p:=by repeat (first | exact (Kd.C_below HR423.out HB.out) | (with_reducible refine Kd.C_alloc ?_ _) | (with_reducible refine Kd.C_drewN ?_ _) | (with_reducible refine Kd.C_drew ?_))) : p:=h
theorem m52_ {p : Prop} (h : p:=by repeat (first | exact (Kd.C_below HR582.out HB.out) | (with_reducible refine Kd.C_alloc ?_ _) | (with_reducible refine Kd.C_drewN ?_ _) | (with_reducible refine Kd.C_drew ?_))) : p:=h
theorem nft_ : ¬ (false = true):=by decide
theorem gC {P : Program} {ops : Array Oper} {Q : Exit → Act → World → Prop} {o : Oper} {rest : List Oper} {a : Act} {W : World} (f : FuncId) {aa : Array Operand} {ts : Array TypeId} (_ho : o.op = .call { callee:=.value (.func f),args:=aa,argTypes:=ts }) (h : wpList P ops Q (o :: rest) a W) : wpList P ops Q (o :: rest) a W:=h
theorem gD {P : Program} {ops : Array Oper} {Q : Exit → Act → World → Prop} {o : Oper} {rest : List Oper} {a : Act} {W : World} (N : Tmp) (_hN : o.dst = some N) (h : wpList P ops Q (o :: rest) a W) : wpList P ops Q (o :: rest) a W:=h
theorem fr_ {p : Prop} (h : p:=by first | rfl | (simp;done) | (simp [*];done)) : p:=h
theorem dn_ {v w : World} (h : Drawn0 v w:=by repeat (first | exact Drawn0.refl _ | apply Drawn0.step)) : Drawn0 v w:=h
theorem cf1 {w : World} {g : Nat} {t : TypeId} {c0 : Value} (b : Aside0 (w.heap[g]? = some (.cells #[c0] t (0,0)))) : w.cell? ⟨g,0,none⟩ = some c0 ∧ w.frozen? ⟨g,0,none⟩ = false:=⟨bcell b 0,bfz b 0⟩
theorem cc2 {w : World} {g : Nat} {t : TypeId} {c0 c1 : Value} (b : Aside0 (w.heap[g]? = some (.cells #[c0,c1] t (0,0)))) : w.cell? ⟨g,0,none⟩ = some c0 ∧ w.cell? ⟨g,1,none⟩ = some c1:=⟨bcell b 0,bcell b 1⟩
theorem cf2 {w : World} {g : Nat} {t : TypeId} {c0 c1 : Value} (b : Aside0 (w.heap[g]? = some (.cells #[c0,c1] t (0,0)))) : w.cell? ⟨g,0,none⟩ = some c0 ∧ w.cell? ⟨g,1,none⟩ = some c1 ∧ w.frozen? ⟨g,0,none⟩ = false ∧ w.frozen? ⟨g,1,none⟩ = false:=⟨bcell b 0,bcell b 1,bfz b 0,bfz b 1⟩
theorem cc3 {w : World} {g : Nat} {t : TypeId} {c0 c1 c2 : Value} (b : Aside0 (w.heap[g]? = some (.cells #[c0,c1,c2] t (0,0)))) : w.cell? ⟨g,0,none⟩ = some c0 ∧ w.cell? ⟨g,1,none⟩ = some c1 ∧ w.cell? ⟨g,2,none⟩ = some c2:=⟨bcell b 0,bcell b 1,bcell b 2⟩
theorem cf3 {w : World} {g : Nat} {t : TypeId} {c0 c1 c2 : Value} (b : Aside0 (w.heap[g]? = some (.cells #[c0,c1,c2] t (0,0)))) : w.cell? ⟨g,0,none⟩ = some c0 ∧ w.cell? ⟨g,1,none⟩ = some c1 ∧ w.cell? ⟨g,2,none⟩ = some c2 ∧ w.frozen? ⟨g,0,none⟩ = false ∧ w.frozen? ⟨g,1,none⟩ = false ∧ w.frozen? ⟨g,2,none⟩ = false:=⟨bcell b 0,bcell b 1,bcell b 2,bfz b 0,bfz b 1,bfz b 2⟩
theorem cc4 {w : World} {g : Nat} {t : TypeId} {c0 c1 c2 c3 : Value} (b : Aside0 (w.heap[g]? = some (.cells #[c0,c1,c2,c3] t (0,0)))) : w.cell? ⟨g,0,none⟩ = some c0 ∧ w.cell? ⟨g,1,none⟩ = some c1 ∧ w.cell? ⟨g,2,none⟩ = some c2 ∧ w.cell? ⟨g,3,none⟩ = some c3:=⟨bcell b 0,bcell b 1,bcell b 2,bcell b 3⟩
theorem cf4 {w : World} {g : Nat} {t : TypeId} {c0 c1 c2 c3 : Value} (b : Aside0 (w.heap[g]? = some (.cells #[c0,c1,c2,c3] t (0,0)))) : w.cell? ⟨g,0,none⟩ = some c0 ∧ w.cell? ⟨g,1,none⟩ = some c1 ∧ w.cell? ⟨g,2,none⟩ = some c2 ∧ w.cell? ⟨g,3,none⟩ = some c3 ∧ w.frozen? ⟨g,0,none⟩ = false ∧ w.frozen? ⟨g,1,none⟩ = false ∧ w.frozen? ⟨g,2,none⟩ = false ∧ w.frozen? ⟨g,3,none⟩ = false:=⟨bcell b 0,bcell b 1,bcell b 2,bcell b 3,bfz b 0,bfz b 1,bfz b 2,bfz b 3⟩
theorem cc5 {w : World} {g : Nat} {t : TypeId} {c0 c1 c2 c3 c4 : Value} (b : Aside0 (w.heap[g]? = some (.cells #[c0,c1,c2,c3,c4] t (0,0)))) : w.cell? ⟨g,0,none⟩ = some c0 ∧ w.cell? ⟨g,1,none⟩ = some c1 ∧ w.cell? ⟨g,2,none⟩ = some c2 ∧ w.cell? ⟨g,3,none⟩ = some c3 ∧ w.cell? ⟨g,4,none⟩ = some c4:=⟨bcell b 0,bcell b 1,bcell b 2,bcell b 3,bcell b 4⟩
theorem cf5 {w : World} {g : Nat} {t : TypeId} {c0 c1 c2 c3 c4 : Value} (b : Aside0 (w.heap[g]? = some (.cells #[c0,c1,c2,c3,c4] t (0,0)))) : w.cell? ⟨g,0,none⟩ = some c0 ∧ w.cell? ⟨g,1,none⟩ = some c1 ∧ w.cell? ⟨g,2,none⟩ = some c2 ∧ w.cell? ⟨g,3,none⟩ = some c3 ∧ w.cell? ⟨g,4,none⟩ = some c4 ∧ w.frozen? ⟨g,0,none⟩ = false ∧ w.frozen? ⟨g,1,none⟩ = false ∧ w.frozen? ⟨g,2,none⟩ = false ∧ w.frozen? ⟨g,3,none⟩ = false ∧ w.frozen? ⟨g,4,none⟩ = false:=⟨bcell b 0,bcell b 1,bcell b 2,bcell b 3,bcell b 4,bfz b 0,bfz b 1,bfz b 2,bfz b 3,bfz b 4⟩
theorem cc6 {w : World} {g : Nat} {t : TypeId} {c0 c1 c2 c3 c4 c5 : Value} (b : Aside0 (w.heap[g]? = some (.cells #[c0,c1,c2,c3,c4,c5] t (0,0)))) : w.cell? ⟨g,0,none⟩ = some c0 ∧ w.cell? ⟨g,1,none⟩ = some c1 ∧ w.cell? ⟨g,2,none⟩ = some c2 ∧ w.cell? ⟨g,3,none⟩ = some c3 ∧ w.cell? ⟨g,4,none⟩ = some c4 ∧ w.cell? ⟨g,5,none⟩ = some c5:=⟨bcell b 0,bcell b 1,bcell b 2,bcell b 3,bcell b 4,bcell b 5⟩
theorem cf6 {w : World} {g : Nat} {t : TypeId} {c0 c1 c2 c3 c4 c5 : Value} (b : Aside0 (w.heap[g]? = some (.cells #[c0,c1,c2,c3,c4,c5] t (0,0)))) : w.cell? ⟨g,0,none⟩ = some c0 ∧ w.cell? ⟨g,1,none⟩ = some c1 ∧ w.cell? ⟨g,2,none⟩ = some c2 ∧ w.cell? ⟨g,3,none⟩ = some c3 ∧ w.cell? ⟨g,4,none⟩ = some c4 ∧ w.cell? ⟨g,5,none⟩ = some c5 ∧ w.frozen? ⟨g,0,none⟩ = false ∧ w.frozen? ⟨g,1,none⟩ = false ∧ w.frozen? ⟨g,2,none⟩ = false ∧ w.frozen? ⟨g,3,none⟩ = false ∧ w.frozen? ⟨g,4,none⟩ = false ∧ w.frozen? ⟨g,5,none⟩ = false:=⟨bcell b 0,bcell b 1,bcell b 2,bcell b 3,bcell b 4,bcell b 5,bfz b 0,bfz b 1,bfz b 2,bfz b 3,bfz b 4,bfz b 5⟩
theorem cc7 {w : World} {g : Nat} {t : TypeId} {c0 c1 c2 c3 c4 c5 c6 : Value} (b : Aside0 (w.heap[g]? = some (.cells #[c0,c1,c2,c3,c4,c5,c6] t (0,0)))) : w.cell? ⟨g,0,none⟩ = some c0 ∧ w.cell? ⟨g,1,none⟩ = some c1 ∧ w.cell? ⟨g,2,none⟩ = some c2 ∧ w.cell? ⟨g,3,none⟩ = some c3 ∧ w.cell? ⟨g,4,none⟩ = some c4 ∧ w.cell? ⟨g,5,none⟩ = some c5 ∧ w.cell? ⟨g,6,none⟩ = some c6:=⟨bcell b 0,bcell b 1,bcell b 2,bcell b 3,bcell b 4,bcell b 5,bcell b 6⟩
theorem cf7 {w : World} {g : Nat} {t : TypeId} {c0 c1 c2 c3 c4 c5 c6 : Value} (b : Aside0 (w.heap[g]? = some (.cells #[c0,c1,c2,c3,c4,c5,c6] t (0,0)))) : w.cell? ⟨g,0,none⟩ = some c0 ∧ w.cell? ⟨g,1,none⟩ = some c1 ∧ w.cell? ⟨g,2,none⟩ = some c2 ∧ w.cell? ⟨g,3,none⟩ = some c3 ∧ w.cell? ⟨g,4,none⟩ = some c4 ∧ w.cell? ⟨g,5,none⟩ = some c5 ∧ w.cell? ⟨g,6,none⟩ = some c6 ∧ w.frozen? ⟨g,0,none⟩ = false ∧ w.frozen? ⟨g,1,none⟩ = false ∧ w.frozen? ⟨g,2,none⟩ = false ∧ w.frozen? ⟨g,3,none⟩ = false ∧ w.frozen? ⟨g,4,none⟩ = false ∧ w.frozen? ⟨g,5,none⟩ = false ∧ w.frozen? ⟨g,6,none⟩ = false:=⟨bcell b 0,bcell b 1,bcell b 2,bcell b 3,bcell b 4,bcell b 5,bcell b 6,bfz b 0,bfz b 1,bfz b 2,bfz b 3,bfz b 4,bfz b 5,bfz b 6⟩
end Go.Proofs.YtgpolhlmedmloaaGreatDoor.P
namespace Go.Proofs.YtgpolhlmedmloaaGreatDoor.P
open Go.Proofs.YtgpolhlmedmloaaGreatDoorUBoxE.PrintLast Go.Proofs.YtgpolhlmedmloaaGreatDoorUBoxE.PrintMore Go.Proofs.YtgpolhlmedmloaaGreatDoorUBoxE.PrintWords Go.RowKit
set_option linter.unusedVariables false
set_option linter.unusedSimpArgs false
section
attribute [local go_sem] max2_int min2_int max_two min_two max_three min_three max_four min_four
def impl_inside.f (a0 : Int) : Option (Bool):=(impl_within.f a0 1 9).bind fun t240=>(some t240)
set_option maxHeartbeats 8000000 in
set_option maxRecDepth 100000 in
theorem impl_inside.calls (a0 : Int) (r : Bool) (w : World) (h : impl_inside.f a0 = some r) :
  Calls Tryz.prog 135 #[.int .i64 a0] w fun e w'=>e = .returned (.bool r) ∧ Drawn0 w w':=by
 have H : ((impl_within.f a0 1 9).bind fun t0=>(some t0)) = some r:=h;clear h;obtain ⟨t0,A2,H⟩:=bse H
 try dsimp only at H
 obtain rfl:=Option.some.inj H
 go_enter Tryz.func135,Tryz.ntmps135
 go_wp2_with (first | ((with_reducible refine gC 65 rfl ?_);refine gL (some 4) Tryz.func65 #[.int .i64 a0,.int .i64 1,.int .i64 9] ?_;(with_reducible refine (impl_within.calls a0 1 9 t0 _ A2.out).mono ?_);rintro e w' ⟨rfl,⟨nd,rfl⟩⟩;refine ⟨_,rfl,?_⟩))
 go_ret
 exact ⟨fr_,dn_⟩
def impl_portOk.f (a0 : Int) : Option (Bool):=(impl_within.f a0 1 999).bind fun t241=>(some t241)
set_option maxHeartbeats 8000000 in
set_option maxRecDepth 100000 in
theorem impl_portOk.calls (a0 : Int) (r : Bool) (w : World) (h : impl_portOk.f a0 = some r) :
  Calls Tryz.prog 136 #[.int .i64 a0] w fun e w'=>e = .returned (.bool r) ∧ Drawn0 w w':=by
 have H : ((impl_within.f a0 1 999).bind fun t0=>(some t0)) = some r:=h;clear h;obtain ⟨t0,A2,H⟩:=bse H
 try dsimp only at H
 obtain rfl:=Option.some.inj H
 go_enter Tryz.func136,Tryz.ntmps136
 go_wp2_with (first | ((with_reducible refine gC 65 rfl ?_);refine gL (some 4) Tryz.func65 #[.int .i64 a0,.int .i64 1,.int .i64 999] ?_;(with_reducible refine (impl_within.calls a0 1 999 t0 _ A2.out).mono ?_);rintro e w' ⟨rfl,⟨nd,rfl⟩⟩;refine ⟨_,rfl,?_⟩))
 go_ret
 exact ⟨fr_,dn_⟩
def impl_EndInside.f (a0_0 : Int) (a0_1 : Int) : Option (Bool):=(impl_inside.f a0_0).bind fun t243=>(if t243 = true then ((impl_portOk.f a0_1).bind fun t244=>(some t244)) else (some false))
set_option maxHeartbeats 8000000 in
set_option maxRecDepth 100000 in
theorem impl_EndInside.calls (a0_0 : Int) (a0_1 : Int) (r : Bool) (w : World) (h : impl_EndInside.f a0_0 a0_1 = some r) :
  Calls Tryz.prog 75 #[.agg #[.int .i64 a0_0,.int .i64 a0_1]] w fun e w'=>e = .returned (.bool r) ∧ Below w.heap.size w w':=by
 have hu54:=Tryz.underlying54;have HB:=am (Below.refl w.heap.size w);have H : ((impl_inside.f a0_0).bind fun t0=>(if t0 = true then ((impl_portOk.f a0_1).bind fun t1=>(some t1)) else (some false))) = some r:=h;clear h;obtain ⟨t0,A2,H⟩:=bse H
 try dsimp only at H
 by_cases c3 : t0 = true
 ·subst c3;rw [if_pos rfl] at H;obtain ⟨t1,A4,H⟩:=bse H
  try dsimp only at H
  obtain rfl:=Option.some.inj H
  go_enter Tryz.func75,Tryz.ntmps75
  go_wp2_with (first | ((with_reducible refine gD 1 rfl ?_);refine box_event rfl (N:=1) rfl (cs:=#[.int .i64 a0_0,.int .i64 a0_1]) (t:=54) hr_ ?_;intro gb2 hg w5 hbox hb;have BK2:=am hbox;have GW2:=gwE HB hg;have GE2:=gwE HB hg;replace HB:=hbS HB hb;clear hb hbox hg;have ⟨_,_,_,_⟩:=cf2 BK2) | ((with_reducible refine gC 135 rfl ?_);refine gL (some 5) Tryz.func135 #[.int .i64 a0_0] ?_;(with_reducible refine (impl_inside.calls a0_0 true _ A2.out).mono ?_);rintro e w' ⟨rfl,⟨nd,rfl⟩⟩;refine ⟨_,rfl,?_⟩) | (go_at_call 136;(with_reducible refine (impl_portOk.calls a0_1 t1 _ A4.out).mono ?_);rintro e w' ⟨rfl,⟨nd,rfl⟩⟩))
  go_ret
  exact ⟨fi_,m4_⟩
 ·replace c3:=Bool.eq_false_iff.mpr c3;subst c3;rw [if_neg nft_] at H;obtain rfl:=Option.some.inj H
  go_enter Tryz.func75,Tryz.ntmps75
  go_wp2_with (first | ((with_reducible refine gD 1 rfl ?_);refine box_event rfl (N:=1) rfl (cs:=#[.int .i64 a0_0,.int .i64 a0_1]) (t:=54) hr_ ?_;intro gb2 hg w7 hbox hb;have BK2:=am hbox;have GW2:=gwE HB hg;have GE2:=gwE HB hg;replace HB:=hbS HB hb;clear hb hbox hg;have ⟨_,_,_,_⟩:=cf2 BK2) | ((with_reducible refine gC 135 rfl ?_);refine gL (some 5) Tryz.func135 #[.int .i64 a0_0] ?_;(with_reducible refine (impl_inside.calls a0_0 false _ A2.out).mono ?_);rintro e w' ⟨rfl,⟨nd,rfl⟩⟩;refine ⟨_,rfl,?_⟩))
  go_ret
  exact ⟨fi_,m4_⟩
def impl_outside.f (a0 : Int) : Option (Bool):=(impl_within.f a0 100 109).bind fun t258=>(some t258)
set_option maxHeartbeats 8000000 in
set_option maxRecDepth 100000 in
theorem impl_outside.calls (a0 : Int) (r : Bool) (w : World) (h : impl_outside.f a0 = some r) :
  Calls Tryz.prog 155 #[.int .i64 a0] w fun e w'=>e = .returned (.bool r) ∧ Drawn0 w w':=by
 have H : ((impl_within.f a0 100 109).bind fun t0=>(some t0)) = some r:=h;clear h;obtain ⟨t0,A2,H⟩:=bse H
 try dsimp only at H
 obtain rfl:=Option.some.inj H
 go_enter Tryz.func155,Tryz.ntmps155
 go_wp2_with (first | ((with_reducible refine gC 65 rfl ?_);refine gL (some 4) Tryz.func65 #[.int .i64 a0,.int .i64 100,.int .i64 109] ?_;(with_reducible refine (impl_within.calls a0 100 109 t0 _ A2.out).mono ?_);rintro e w' ⟨rfl,⟨nd,rfl⟩⟩;refine ⟨_,rfl,?_⟩))
 go_ret
 exact ⟨fr_,dn_⟩
def impl_EndOutside.f (a0_0 : Int) (a0_1 : Int) : Option (Bool):=(impl_outside.f a0_0).bind fun t260=>(if t260 = true then ((impl_portOk.f a0_1).bind fun t261=>(some t261)) else (some false))
set_option maxHeartbeats 8000000 in
set_option maxRecDepth 100000 in
theorem impl_EndOutside.calls (a0_0 : Int) (a0_1 : Int) (r : Bool) (w : World) (h : impl_EndOutside.f a0_0 a0_1 = some r) :
  Calls Tryz.prog 103 #[.agg #[.int .i64 a0_0,.int .i64 a0_1]] w fun e w'=>e = .returned (.bool r) ∧ Below w.heap.size w w':=by
 have hu54:=Tryz.underlying54;have HB:=am (Below.refl w.heap.size w);have H : ((impl_outside.f a0_0).bind fun t0=>(if t0 = true then ((impl_portOk.f a0_1).bind fun t1=>(some t1)) else (some false))) = some r:=h;clear h;obtain ⟨t0,A2,H⟩:=bse H
 try dsimp only at H
 by_cases c3 : t0 = true
 ·subst c3;rw [if_pos rfl] at H;obtain ⟨t1,A4,H⟩:=bse H
  try dsimp only at H
  obtain rfl:=Option.some.inj H
  go_enter Tryz.func103,Tryz.ntmps103
  go_wp2_with (first | ((with_reducible refine gD 1 rfl ?_);refine box_event rfl (N:=1) rfl (cs:=#[.int .i64 a0_0,.int .i64 a0_1]) (t:=54) hr_ ?_;intro gb2 hg w5 hbox hb;have BK2:=am hbox;have GW2:=gwE HB hg;have GE2:=gwE HB hg;replace HB:=hbS HB hb;clear hb hbox hg;have ⟨_,_,_,_⟩:=cf2 BK2) | ((with_reducible refine gC 155 rfl ?_);refine gL (some 5) Tryz.func155 #[.int .i64 a0_0] ?_;(with_reducible refine (impl_outside.calls a0_0 true _ A2.out).mono ?_);rintro e w' ⟨rfl,⟨nd,rfl⟩⟩;refine ⟨_,rfl,?_⟩) | (go_at_call 136;(with_reducible refine (impl_portOk.calls a0_1 t1 _ A4.out).mono ?_);rintro e w' ⟨rfl,⟨nd,rfl⟩⟩))
  go_ret
  exact ⟨fi_,m4_⟩
 ·replace c3:=Bool.eq_false_iff.mpr c3;subst c3;rw [if_neg nft_] at H;obtain rfl:=Option.some.inj H
  go_enter Tryz.func103,Tryz.ntmps103
  go_wp2_with (first | ((with_reducible refine gD 1 rfl ?_);refine box_event rfl (N:=1) rfl (cs:=#[.int .i64 a0_0,.int .i64 a0_1]) (t:=54) hr_ ?_;intro gb2 hg w7 hbox hb;have BK2:=am hbox;have GW2:=gwE HB hg;have GE2:=gwE HB hg;replace HB:=hbS HB hb;clear hb hbox hg;have ⟨_,_,_,_⟩:=cf2 BK2) | ((with_reducible refine gC 155 rfl ?_);refine gL (some 5) Tryz.func155 #[.int .i64 a0_0] ?_;(with_reducible refine (impl_outside.calls a0_0 false _ A2.out).mono ?_);rintro e w' ⟨rfl,⟨nd,rfl⟩⟩;refine ⟨_,rfl,?_⟩))
  go_ret
  exact ⟨fi_,m4_⟩
end
def inB (n lo hi : Int) : Bool:=decide (lo ≤ n) && decide (n ≤ hi)
theorem within_f (n lo hi : Int) : impl_within.f n lo hi = some (inB n lo hi):=by
  unfold impl_within.f inB
  by_cases h : lo ≤ n <;> simp [h]
theorem inside_f (n : Int) : impl_inside.f n = some (inB n 1 9):=by unfold impl_inside.f;rw [within_f];rfl
theorem outside_f (n : Int) : impl_outside.f n = some (inB n 100 109):=by unfold impl_outside.f;rw [within_f];rfl
theorem portOk_f (n : Int) : impl_portOk.f n = some (inB n 1 999):=by unfold impl_portOk.f;rw [within_f];rfl
def endIn (a p : Int) : Bool:=inB a 1 9 && inB p 1 999
def endOut (a p : Int) : Bool:=inB a 100 109 && inB p 1 999
theorem EndInside_f (a p : Int) : impl_EndInside.f a p = some (endIn a p):=by
  unfold impl_EndInside.f endIn
  rw [inside_f,Option.bind_some]
  cases h : inB a 1 9 <;> simp [portOk_f]
theorem EndOutside_f (a p : Int) : impl_EndOutside.f a p = some (endOut a p):=by
  unfold impl_EndOutside.f endOut
  rw [outside_f,Option.bind_some]
  cases h : inB a 100 109 <;> simp [portOk_f]
section
attribute [local go_sem] max2_int min2_int max_two min_two max_three min_three max_four min_four
def IsS131 (w0 W : World) (g : Nat) (f0 : List Int) (f1 : Int) : Prop:=∃ A0 c0,W.heap[g]? = some (.cells #[.slice A0 f0.length c0,.int .i64 f1] 131 (0,0)) ∧ w0.heap.size ≤ g ∧ Kd.C (Kd.int .u8) w0 A0 f0.length f0
theorem IsS131.grown {w0 W : World} {g : Nat} {f0 : List Int} {f1 : Int} {W1 : World} {row : Option Nat} (h : IsS131 w0 W g f0 f1) (hw : W.grownBy W1 row) (hne : some g ≠ row) : IsS131 w0 W1 g f0 f1:=by
 obtain ⟨A0,c0,hb,hg,hr0⟩:=h;exact ⟨A0,c0,blk_grown hb hw hne,hg,hr0⟩
theorem IsS131.kept {w0 W : World} {g : Nat} {f0 : List Int} {f1 : Int} {W1 : World} {S : Nat → Prop} (h : IsS131 w0 W g f0 f1) (hk : Kept W W1 S) (hne : ¬ S g) : IsS131 w0 W1 g f0 f1:=by
 obtain ⟨A0,c0,hb,hg,hr0⟩:=h;exact ⟨A0,c0,blk_kept hb hk hne,hg,hr0⟩
theorem IsS131.below {w0 W : World} {g : Nat} {f0 : List Int} {f1 : Int} {W1 : World} (h : IsS131 w0 W g f0 f1) (hw : Below W.heap.size W W1) : IsS131 w0 W1 g f0 f1:=h.grown (grown_of_below hw none) (by simp)
theorem IsS131.alloc {w0 W : World} {g : Nat} {f0 : List Int} {f1 : Int} (h : IsS131 w0 W g f0 f1) (o : Obj) : IsS131 w0 (W.alloc o) g f0 f1:=h.below (below_alloc (Below.refl _ _) o)
theorem IsS131.drewN {w0 W : World} {g : Nat} {f0 : List Int} {f1 : Int} (h : IsS131 w0 W g f0 f1) (m : Nat) : IsS131 w0 (W.drewN m) g f0 f1:=h
theorem IsS131.drew {w0 W : World} {g : Nat} {f0 : List Int} {f1 : Int} (h : IsS131 w0 W g f0 f1) : IsS131 w0 W.drew g f0 f1:=h
theorem IsS131.at_ {w0 W : World} {g : Nat} {f0 : List Int} {f1 : Int} {w' : World} {m : Nat} (hq : W.drewN m = w') (h : IsS131 w0 W g f0 f1) : IsS131 w0 w' g f0 f1:=by subst hq;exact IsS131.drewN h m
theorem IsS131.apart {w0 W : World} {g : Nat} {f0 : List Int} {f1 : Int} {α : Type} {d : Kd α} {e : Nat} {base : Nat} {ok : Nat → Prop} {v : Value} {xs : List α} (h : IsS131 w0 W g f0 f1) (ho : d.R e W base ok v xs) (ht : ∀ q,q ∈ e :: d.E → q ≠ 131) : d.R e W base (fun k=>ok k ∧ k ≠ g) v xs:=by
 obtain ⟨A0,c0,hb,hg,hr0⟩:=h;exact Kd.R_types ho hb ht
theorem IsS131.lt {w0 W : World} {g : Nat} {f0 : List Int} {f1 : Int} (h : IsS131 w0 W g f0 f1) : g < W.heap.size:=by
 obtain ⟨A0,c0,hb,hg,hr0⟩:=h;exact blk_lt hb
theorem IsS131.set_1 {w0 W : World} {g : Nat} {f0 : List Int} {f1 : Int} (h : IsS131 w0 W g f0 f1) (x : Int) : IsS131 w0 (W.setCell ⟨g,1,none⟩ (.int .i64 x)) g f0 x:=by
 obtain ⟨A0,c0,hb,hg,hr0⟩:=h;exact ⟨A0,c0,by simpa using blk_set hb 1 (.int .i64 x),hg,hr0⟩
theorem IsS131.new (w0 W : World) (A0 : Option Addr) (c0 : Nat) (f0 : List Int) (f1 : Int) (hB : Below w0.heap.size w0 W) (hr0 : Kd.C (Kd.int .u8) w0 A0 f0.length f0) : IsS131 w0 (W.alloc (.cells #[.slice A0 f0.length c0,.int .i64 f1] 131)) W.heap.size f0 f1:=⟨A0,c0,by simpa using heap_alloc_new W _,hB.size,hr0⟩
end
theorem w64 (n : Int) (h : -9223372036854775808 ≤ n ∧ n ≤ 9223372036854775807) : wrap64 n = n:=by unfold wrap64;omega
end Go.Proofs.YtgpolhlmedmloaaGreatDoor.P
namespace Go.Proofs.YtgpolhlmedmloaaGreatDoor.P
open Go.RowKit Go.Proofs.YtgpolhlmedmloaaGreatDoorUBoxE.PrintWords Go.Proofs.YtgpolhlmedmloaaGreatDoorUBoxE.PrintLast Go.Proofs.YtgpolhlmedmloaaGreatDoorUBoxE.PrintMore
set_option linter.unusedVariables false
set_option linter.unusedSimpArgs false
def Ans {α : Type} (f : Nat → Option α) (P : α → Prop) : Prop:=∃ K v,P v ∧ ∀ k,K ≤ k → f k = some v
namespace Ans
variable {α β : Type} {f g : Nat → Option α} {P Q : α → Prop}
theorem of {v : α} (h : ∀ k,f k = some v) (p : P v) : Ans f P:=⟨0,v,p,fun k _=>h k⟩
theorem pure {v : α} (p : P v) : Ans (fun _=>some v) P:=⟨0,v,p,fun k _=>rfl⟩
theorem mono (h : Ans f P) (hq : ∀ v,P v → Q v) : Ans f Q:=by obtain ⟨K,v,p,e⟩:=h;exact ⟨K,v,hq v p,e⟩
theorem succ (h : Ans (fun k=>f (k + 1)) P) : Ans f P:=by
  obtain ⟨K,v,p,e⟩:=h
  refine ⟨K + 1,v,p,fun k hk=>?_⟩
  obtain ⟨k',rfl⟩ : ∃ k',k = k' + 1:=⟨k - 1,by omega⟩
  exact e k' (by omega)
theorem bind {a : Nat → Option β} {R : β → Prop} {b : Nat → β → Option α} (h : Ans a R) (hb : ∀ v,R v → Ans (fun k=>b k v) P) : Ans (fun k=>(a k).bind (b k)) P:=by
  obtain ⟨K,v,p,e⟩:=h
  obtain ⟨K',u,q,e'⟩:=hb v p
  exact ⟨max K K',u,q,fun k hk=>by show (a k).bind (b k) = some u;rw [e k (by omega)];exact e' k (by omega)⟩
theorem bsome {v : β} {b : Nat → β → Option α} (h : Ans (fun k=>b k v) P) : Ans (fun k=>(some v).bind (b k)) P:=h
theorem congr (h : Ans g P) (e : ∀ k,f k = g k) : Ans f P:=by obtain ⟨K,v,p,e'⟩:=h;exact ⟨K,v,p,fun k hk=>(e k).trans (e' k hk)⟩
theorem got (h : Ans f P) : ∃ k v,P v ∧ f k = some v:=by obtain ⟨K,v,p,e⟩:=h;exact ⟨K,v,p,e K (Nat.le_refl _)⟩
theorem pos {c : Prop} [Decidable c] (h : c) (ht : Ans f P) : Ans (fun k=>if c then f k else g k) P:=congr ht (fun k=>if_pos h)
theorem neg {c : Prop} [Decidable c] (h : ¬ c) (ht : Ans g P) : Ans (fun k=>if c then f k else g k) P:=congr ht (fun k=>if_neg h)
theorem ite {c : Prop} [Decidable c] (ht : c → Ans f P) (he : ¬ c → Ans g P) : Ans (fun k=>if c then f k else g k) P:=by
  by_cases h : c
  · exact pos h (ht h)
  · exact neg h (he h)
end Ans
end Go.Proofs.YtgpolhlmedmloaaGreatDoor.P
namespace Go.Proofs.YtgpolhlmedmloaaGreatDoor.P
open Go.Proofs.YtgpolhlmedmloaaGreatDoorUBoxE.PrintLast Go.Proofs.YtgpolhlmedmloaaGreatDoorUBoxE.PrintMore Go.Proofs.YtgpolhlmedmloaaGreatDoorUBoxE.PrintWords Go.RowKit
set_option linter.unusedVariables false
set_option linter.unusedSimpArgs false
section
attribute [local go_sem] max2_int min2_int max_two min_two max_three min_three max_four min_four
def impl_lineByte.f (a0 : Int) : Option (Bool):=if a0 ≥ 97 then (if a0 ≤ 122 then (some true) else (if a0 ≥ 48 then (if a0 ≤ 57 then (some true) else (some (a0 == 32))) else (some (a0 == 32)))) else (if a0 ≥ 48 then (if a0 ≤ 57 then (some true) else (some (a0 == 32))) else (some (a0 == 32)))
set_option maxHeartbeats 8000000 in
set_option maxRecDepth 100000 in
theorem impl_lineByte.calls (a0 : Int) (r : Bool) (w : World) (h : impl_lineByte.f a0 = some r) :
  Calls Tryz.prog 101 #[.int .u8 a0] w fun e w'=>e = .returned (.bool r) ∧ Drawn0 w w':=by
 have H : (if a0 ≥ 97 then (if a0 ≤ 122 then (some true) else (if a0 ≥ 48 then (if a0 ≤ 57 then (some true) else (some (a0 == 32))) else (some (a0 == 32)))) else (if a0 ≥ 48 then (if a0 ≤ 57 then (some true) else (some (a0 == 32))) else (some (a0 == 32)))) = some r:=h;clear h
 by_cases c2 : a0 ≥ 97
 ·rw [if_pos c2] at H;have c2b0 : decide (97 ≤ a0) = true:=decide_eq_true c2;clear c2
  by_cases c3 : a0 ≤ 122
  ·rw [if_pos c3] at H;have c3b0 : decide (a0 ≤ 122) = true:=decide_eq_true c3;clear c3;obtain rfl:=Option.some.inj H
   go_enter Tryz.func101,Tryz.ntmps101
   go_wp2
   go_ret
   exact ⟨fr_,dn_⟩
  ·rw [if_neg c3] at H;have c3b0 : decide (a0 ≤ 122) = false:=decide_eq_false c3;clear c3
   by_cases c4 : a0 ≥ 48
   ·rw [if_pos c4] at H;have c4b0 : decide (48 ≤ a0) = true:=decide_eq_true c4;clear c4
    by_cases c5 : a0 ≤ 57
    ·rw [if_pos c5] at H;have c5b0 : decide (a0 ≤ 57) = true:=decide_eq_true c5;clear c5;obtain rfl:=Option.some.inj H
     go_enter Tryz.func101,Tryz.ntmps101
     go_wp2
     go_ret
     exact ⟨fr_,dn_⟩
    ·rw [if_neg c5] at H;have c5b0 : decide (a0 ≤ 57) = false:=decide_eq_false c5;clear c5;obtain rfl:=Option.some.inj H
     go_enter Tryz.func101,Tryz.ntmps101
     go_wp2
     go_ret
     exact ⟨fr_,dn_⟩
   ·rw [if_neg c4] at H;have c4b0 : decide (48 ≤ a0) = false:=decide_eq_false c4;clear c4;obtain rfl:=Option.some.inj H
    go_enter Tryz.func101,Tryz.ntmps101
    go_wp2
    go_ret
    exact ⟨fr_,dn_⟩
 ·rw [if_neg c2] at H;have c2b0 : decide (97 ≤ a0) = false:=decide_eq_false c2;clear c2
  by_cases c6 : a0 ≥ 48
  ·rw [if_pos c6] at H;have c6b0 : decide (48 ≤ a0) = true:=decide_eq_true c6;clear c6
   by_cases c7 : a0 ≤ 57
   ·rw [if_pos c7] at H;have c7b0 : decide (a0 ≤ 57) = true:=decide_eq_true c7;clear c7;obtain rfl:=Option.some.inj H
    go_enter Tryz.func101,Tryz.ntmps101
    go_wp2
    go_ret
    exact ⟨fr_,dn_⟩
   ·rw [if_neg c7] at H;have c7b0 : decide (a0 ≤ 57) = false:=decide_eq_false c7;clear c7;obtain rfl:=Option.some.inj H
    go_enter Tryz.func101,Tryz.ntmps101
    go_wp2
    go_ret
    exact ⟨fr_,dn_⟩
  ·rw [if_neg c6] at H;have c6b0 : decide (48 ≤ a0) = false:=decide_eq_false c6;clear c6;obtain rfl:=Option.some.inj H
   go_enter Tryz.func101,Tryz.ntmps101
   go_wp2
   go_ret
   exact ⟨fr_,dn_⟩
end
def lb (b : Int) : Bool:=(97 ≤ b && b ≤ 122) || ((48 ≤ b && b ≤ 57) || b == 32)
theorem lb_f (b : Int) : impl_lineByte.f b = some (lb b):=by
  unfold impl_lineByte.f lb
  by_cases h1 : 97 ≤ b <;> by_cases h2 : b ≤ 122 <;> by_cases h3 : 48 ≤ b <;> by_cases h4 : b ≤ 57 <;> simp [h1,h2,h3,h4]
def bys (s : ByteArray) : List Int:=s.data.toList.map fun b=>(b.toNat : Int)
def linOk (s : ByteArray) : Bool:=(bys s).all lb && decide (s.size ≤ 16)
def impl_LinOk.f (s : ByteArray) : Option Bool:=if s.size ≤ 140737488351232 then some (linOk s) else none
theorem bys_get (s : ByteArray) (k : Nat) (h : k < s.size) : ((s.data.toList.getD k 0).toNat : Int) = (bys s)[k]'(by simpa [bys] using h):=by
  have h' : k < s.data.toList.length:=by simpa using h
  simp [bys,List.getD,List.getElem?_eq_getElem h']
theorem below_bytes (w : World) (e : TypeId) (s : ByteArray) : Below w.heap.size w (Lib.bytesWorld w e s):=
  ⟨rfl,rfl,rfl,by rw [Lib.bytesWorld_size];omega,fun i hi=>Lib.bytesWorld_at_old w e s i hi⟩
set_option maxHeartbeats 1000000 in
set_option maxRecDepth 100000 in
theorem impl_LinOk.calls (a0 : ByteArray) (r : Bool) (w : World) (h : impl_LinOk.f a0 = some r) :
    Calls Tryz.prog 49 #[.string a0] w fun e w'=>e = .returned (.bool r) ∧ Below w.heap.size w w':=by
  have hs : a0.size ≤ 140737488351232:=by
    unfold impl_LinOk.f at h
    split at h
    · assumption
    · cases h
  have hr : r = linOk a0:=by
    unfold impl_LinOk.f at h
    rw [if_pos hs] at h
    exact (Option.some.inj h).symm
  have HR:=Lib.hid hr
  clear hr h
  have hcv:=fun (w : World)=>Lib.run_convert_string_bytes (P:=Tryz.prog) w 9 22 5 a0 Tryz.underlying9 Tryz.underlying22 Tryz.underlying5
  go_enter Tryz.func49,Tryz.ntmps49
  go_wp2_with fail
  obtain ⟨W0,hW0⟩ : ∃ W0,Lib.bytesWorld w 5 a0 = W0:=⟨_,rfl⟩
  have hbw : Below w.heap.size w W0:=by rw [← hW0];exact below_bytes w 5 a0
  have hcW:=Lib.hid (fun k (hk : k < a0.size)=>(by rw [← hW0];exact Lib.bytesWorld_cell w 5 a0 k hk : W0.cell? ⟨w.heap.size,k,none⟩ = some (.int .u8 (a0.data.toList.getD k 0).toNat)))
  have HBW:=Lib.hid hbw
  rw [hW0]
  clear hW0 hcv hbw
  go_loopw [4,8] (fun b i wr=>∃ k : Nat,k ≤ a0.size ∧ i = .int .i64 k ∧ Aside0 (((bys a0).take k).all lb = true) ∧ Aside0 (Drawn0 W0 wr)) (fun _ i _=>a0.size - (intOf i).toNat)
  case atStart=>exact ⟨0,Nat.zero_le _,rfl,⟨by simp⟩,⟨Drawn0.refl _⟩⟩
  case round=>
    obtain ⟨k,hk,rfl,ha,hd⟩:=hrel
    by_cases hlt : k < a0.size
    · obtain ⟨nd,hnd⟩:=hd.out.out
      subst hnd
      have hg:=bys_get a0 k hlt
      have hc0:=hcW.out k hlt
      obtain ⟨x,hx⟩ : ∃ x : Int,((a0.data.toList.getD k 0).toNat : Int) = x:=⟨_,rfl⟩
      rw [hx] at hg hc0
      have hc : (W0.drewN nd).cell? ⟨w.heap.size,k,none⟩ = some (.int .u8 x):=hc0
      have hlen : (bys a0).length = a0.size:=by simp [bys]
      have htk : (bys a0).take (k + 1) = (bys a0).take k ++ [x]:=by
        rw [List.take_succ_eq_append_getElem (by omega),← hg]
      have HT:=Lib.hid htk
      have HL:=Lib.hid hlen
      have HG:=Lib.hid hg
      clear hx hg hc0 htk hlen
      cases hb : lb x with
      | true=>
        have HL':=Lib.hid hb
        have hfb : impl_lineByte.f x = some true:=by rw [lb_f,hb]
        have HF:=Lib.hid hfb
        clear hb hfb
        go_wp2_with (go_at_call 101;refine (impl_lineByte.calls _ true _ HF.out).mono ?_;rintro e wq ⟨rfl,⟨nq,rfl⟩⟩)
        go_roundw
        case rel=>exact ⟨k + 1,by omega,by go_num,⟨by rw [HT.out,List.all_append,ha.out];simp [HL'.out]⟩,⟨⟨⟨_,rfl⟩⟩⟩⟩
        case measure=>simp [intOf];omega
      | false=>
        have HL':=Lib.hid hb
        have hfb : impl_lineByte.f x = some false:=by rw [lb_f,hb]
        have HF:=Lib.hid hfb
        clear hb hfb
        go_wp2_with (go_at_call 101;refine (impl_lineByte.calls _ false _ HF.out).mono ?_;rintro e wq ⟨rfl,⟨nq,rfl⟩⟩)
        go_ret
        have hfl : linOk a0 = false:=by
          unfold linOk
          have : (bys a0).all lb = false:=by
            rw [List.all_eq_false]
            exact ⟨x,by rw [HG.out];exact List.getElem_mem _,by simp [HL'.out]⟩
          simp [this]
        exact ⟨by rw [HR.out,hfl];rfl,HBW.out.trans ((Drawn0.below ⟨⟨_,rfl⟩⟩).mono HBW.out.size)⟩
    · obtain ⟨nd,hnd⟩:=hd.out.out
      subst hnd
      have hk2 : k = a0.size:=by omega
      subst hk2
      have hlen : (bys a0).length = a0.size:=by simp [bys]
      have hall : (bys a0).all lb = true:=by have:=ha.out;rwa [List.take_of_length_le (by omega)] at this
      have HA:=Lib.hid hall
      clear hall hlen
      have hfin : linOk a0 = decide ((a0.size : Int) ≤ 16):=by
        rw [linOk,HA.out,Bool.true_and]
        exact decide_eq_decide.mpr (by omega)
      have HFIN:=Lib.hid hfin
      clear hfin
      by_cases h16 : (a0.size : Int) ≤ 16
      · go_wp2
        go_ret
        exact ⟨by rw [HR.out,HFIN.out,decide_eq_true h16];rfl,HBW.out.trans ((Drawn0.below hd.out).mono HBW.out.size)⟩
      · go_wp2
        go_ret
        exact ⟨by rw [HR.out,HFIN.out,decide_eq_false (by omega)];rfl,HBW.out.trans ((Drawn0.below hd.out).mono HBW.out.size)⟩
section
attribute [local go_sem] max2_int min2_int max_two min_two max_three min_three max_four min_four
def spec_l1In.f (a0 : Int) (a1 : Int) (a2 : Int) : Option (Bool):=if a0 ≥ a1 then (some (decide (a0 ≤ a2))) else (some false)
set_option maxHeartbeats 8000000 in
set_option maxRecDepth 100000 in
theorem spec_l1In.calls (a0 : Int) (a1 : Int) (a2 : Int) (r : Bool) (w : World) (h : spec_l1In.f a0 a1 a2 = some r) :
  Calls Tryz.prog 48 #[.int .i64 a0,.int .i64 a1,.int .i64 a2] w fun e w'=>e = .returned (.bool r) ∧ Drawn0 w w':=by
 have H : (if a0 ≥ a1 then (some (decide (a0 ≤ a2))) else (some false)) = some r:=h;clear h
 by_cases c4 : a0 ≥ a1
 ·rw [if_pos c4] at H;have c4b0 : decide (a1 ≤ a0) = true:=decide_eq_true c4;clear c4;obtain rfl:=Option.some.inj H
  go_enter Tryz.func48,Tryz.ntmps48
  go_wp2
  go_ret
  exact ⟨fr_,dn_⟩
 ·rw [if_neg c4] at H;have c4b0 : decide (a1 ≤ a0) = false:=decide_eq_false c4;clear c4;obtain rfl:=Option.some.inj H
  go_enter Tryz.func48,Tryz.ntmps48
  go_wp2
  go_ret
  exact ⟨fr_,dn_⟩
def spec_EndInside.f (a0_0 : Int) (a0_1 : Int) : Option (Bool):=(spec_l1In.f a0_0 1 9).bind fun t412=>(if t412 = true then ((spec_l1In.f a0_1 1 999).bind fun t413=>(some t413)) else (some false))
set_option maxHeartbeats 8000000 in
set_option maxRecDepth 100000 in
theorem spec_EndInside.calls (a0_0 : Int) (a0_1 : Int) (r : Bool) (w : World) (h : spec_EndInside.f a0_0 a0_1 = some r) :
  Calls Tryz.prog 38 #[.agg #[.int .i64 a0_0,.int .i64 a0_1]] w fun e w'=>e = .returned (.bool r) ∧ Below w.heap.size w w':=by
 have hu54:=Tryz.underlying54;have HB:=am (Below.refl w.heap.size w);have H : ((spec_l1In.f a0_0 1 9).bind fun t0=>(if t0 = true then ((spec_l1In.f a0_1 1 999).bind fun t1=>(some t1)) else (some false))) = some r:=h;clear h;obtain ⟨t0,A2,H⟩:=bse H
 try dsimp only at H
 by_cases c3 : t0 = true
 ·subst c3;rw [if_pos rfl] at H;obtain ⟨t1,A4,H⟩:=bse H
  try dsimp only at H
  obtain rfl:=Option.some.inj H
  go_enter Tryz.func38,Tryz.ntmps38
  go_wp2_with (first | ((with_reducible refine gD 1 rfl ?_);refine box_event rfl (N:=1) rfl (cs:=#[.int .i64 a0_0,.int .i64 a0_1]) (t:=54) hr_ ?_;intro gb2 hg w5 hbox hb;have BK2:=am hbox;have GW2:=gwE HB hg;have GE2:=gwE HB hg;replace HB:=hbS HB hb;clear hb hbox hg;have ⟨_,_,_,_⟩:=cf2 BK2) | ((with_reducible refine gC 48 rfl ?_);refine gL (some 5) Tryz.func48 #[.int .i64 a0_0,.int .i64 1,.int .i64 9] ?_;(with_reducible refine (spec_l1In.calls a0_0 1 9 true _ A2.out).mono ?_);rintro e w' ⟨rfl,⟨nd,rfl⟩⟩;refine ⟨_,rfl,?_⟩) | (go_at_call 48;(with_reducible refine (spec_l1In.calls a0_1 1 999 t1 _ A4.out).mono ?_);rintro e w' ⟨rfl,⟨nd,rfl⟩⟩))
  go_ret
  exact ⟨fi_,m4_⟩
 ·replace c3:=Bool.eq_false_iff.mpr c3;subst c3;rw [if_neg nft_] at H;obtain rfl:=Option.some.inj H
  go_enter Tryz.func38,Tryz.ntmps38
  go_wp2_with (first | ((with_reducible refine gD 1 rfl ?_);refine box_event rfl (N:=1) rfl (cs:=#[.int .i64 a0_0,.int .i64 a0_1]) (t:=54) hr_ ?_;intro gb2 hg w7 hbox hb;have BK2:=am hbox;have GW2:=gwE HB hg;have GE2:=gwE HB hg;replace HB:=hbS HB hb;clear hb hbox hg;have ⟨_,_,_,_⟩:=cf2 BK2) | ((with_reducible refine gC 48 rfl ?_);refine gL (some 5) Tryz.func48 #[.int .i64 a0_0,.int .i64 1,.int .i64 9] ?_;(with_reducible refine (spec_l1In.calls a0_0 1 9 false _ A2.out).mono ?_);rintro e w' ⟨rfl,⟨nd,rfl⟩⟩;refine ⟨_,rfl,?_⟩))
  go_ret
  exact ⟨fi_,m4_⟩
def spec_EndOutside.f (a0_0 : Int) (a0_1 : Int) : Option (Bool):=(spec_l1In.f a0_0 100 109).bind fun t427=>(if t427 = true then ((spec_l1In.f a0_1 1 999).bind fun t428=>(some t428)) else (some false))
set_option maxHeartbeats 8000000 in
set_option maxRecDepth 100000 in
theorem spec_EndOutside.calls (a0_0 : Int) (a0_1 : Int) (r : Bool) (w : World) (h : spec_EndOutside.f a0_0 a0_1 = some r) :
  Calls Tryz.prog 112 #[.agg #[.int .i64 a0_0,.int .i64 a0_1]] w fun e w'=>e = .returned (.bool r) ∧ Below w.heap.size w w':=by
 have hu54:=Tryz.underlying54;have HB:=am (Below.refl w.heap.size w);have H : ((spec_l1In.f a0_0 100 109).bind fun t0=>(if t0 = true then ((spec_l1In.f a0_1 1 999).bind fun t1=>(some t1)) else (some false))) = some r:=h;clear h;obtain ⟨t0,A2,H⟩:=bse H
 try dsimp only at H
 by_cases c3 : t0 = true
 ·subst c3;rw [if_pos rfl] at H;obtain ⟨t1,A4,H⟩:=bse H
  try dsimp only at H
  obtain rfl:=Option.some.inj H
  go_enter Tryz.func112,Tryz.ntmps112
  go_wp2_with (first | ((with_reducible refine gD 1 rfl ?_);refine box_event rfl (N:=1) rfl (cs:=#[.int .i64 a0_0,.int .i64 a0_1]) (t:=54) hr_ ?_;intro gb2 hg w5 hbox hb;have BK2:=am hbox;have GW2:=gwE HB hg;have GE2:=gwE HB hg;replace HB:=hbS HB hb;clear hb hbox hg;have ⟨_,_,_,_⟩:=cf2 BK2) | ((with_reducible refine gC 48 rfl ?_);refine gL (some 5) Tryz.func48 #[.int .i64 a0_0,.int .i64 100,.int .i64 109] ?_;(with_reducible refine (spec_l1In.calls a0_0 100 109 true _ A2.out).mono ?_);rintro e w' ⟨rfl,⟨nd,rfl⟩⟩;refine ⟨_,rfl,?_⟩) | (go_at_call 48;(with_reducible refine (spec_l1In.calls a0_1 1 999 t1 _ A4.out).mono ?_);rintro e w' ⟨rfl,⟨nd,rfl⟩⟩))
  go_ret
  exact ⟨fi_,m4_⟩
 ·replace c3:=Bool.eq_false_iff.mpr c3;subst c3;rw [if_neg nft_] at H;obtain rfl:=Option.some.inj H
  go_enter Tryz.func112,Tryz.ntmps112
  go_wp2_with (first | ((with_reducible refine gD 1 rfl ?_);refine box_event rfl (N:=1) rfl (cs:=#[.int .i64 a0_0,.int .i64 a0_1]) (t:=54) hr_ ?_;intro gb2 hg w7 hbox hb;have BK2:=am hbox;have GW2:=gwE HB hg;have GE2:=gwE HB hg;replace HB:=hbS HB hb;clear hb hbox hg;have ⟨_,_,_,_⟩:=cf2 BK2) | ((with_reducible refine gC 48 rfl ?_);refine gL (some 5) Tryz.func48 #[.int .i64 a0_0,.int .i64 100,.int .i64 109] ?_;(with_reducible refine (spec_l1In.calls a0_0 100 109 false _ A2.out).mono ?_);rintro e w' ⟨rfl,⟨nd,rfl⟩⟩;refine ⟨_,rfl,?_⟩))
  go_ret
  exact ⟨fi_,m4_⟩
end
theorem l1In_f (n lo hi : Int) : spec_l1In.f n lo hi = some (inB n lo hi):=by
  unfold spec_l1In.f inB
  by_cases h : lo ≤ n <;> simp [h]
theorem wi (i : Nat) (h : i ≤ 100000000) : wrap64 ((i : Int) + 1) = ((i + 1 : Nat) : Int):=by rw [w64 _ (by omega)];push_cast;rfl
theorem specEndInside_f (a p : Int) : spec_EndInside.f a p = some (endIn a p):=by
  unfold spec_EndInside.f endIn
  simp only [l1In_f,Option.bind_some]
  cases inB a 1 9 <;> simp
theorem specEndOutside_f (a p : Int) : spec_EndOutside.f a p = some (endOut a p):=by
  unfold spec_EndOutside.f endOut
  simp only [l1In_f,Option.bind_some]
  cases inB a 100 109 <;> simp
section
attribute [local go_sem] max2_int min2_int max_two min_two max_three min_three max_four min_four
theorem eqA54 (d : Nat) (w : World) (x0 y0 : Int) (x1 y1 : Int) :
  (Op.equalIn (d + 2) 54 (.agg #[.int .i64 x0,.int .i64 x1]) (.agg #[.int .i64 y0,.int .i64 y1])).run Tryz.prog w = .ok (x0 == y0 && (x1 == y1)) w:=by
 refine eqA_of Tryz.underlying54 (by kernel_rfl) ?_;refine eqf_cons (by rfl) (by go_simp;rfl) (by go_simp;rfl) (by go_simp) ?_;exact eqf_last (by rfl) (by go_simp;rfl) (by go_simp;rfl) (by go_simp)
end
section
attribute [local go_sem] max2_int min2_int max_two min_two max_three min_three max_four min_four
attribute [local go_sem high] eqA54
def spec_l3Find.l0 : Nat → Int → List (S54) → Int → Int → Option (Int)
 | 0,_,_,_,_=>none
 | k + 1,x5,x415000,x416000,x416001=>if x5 < (x415000.length : Int) then (if 0 ≤ x5 then (if (((rd_T54 x415000 x5).f0) == x416000 && (((rd_T54 x415000 x5).f1) == x416001)) = true then (some x5) else (spec_l3Find.l0 k (wrap64 (x5 + 1)) x415000 x416000 x416001)) else (none)) else (some (-1))
def spec_l3Find.f (k : Nat) (l0_0 : List (S54)) (a1_0 : Int) (a1_1 : Int) : Option (Int):=spec_l3Find.l0 k 0 l0_0 a1_0 a1_1
theorem spec_l3Find.mono_l : ∀ k,(∀ y0 y1 y2 y3,LeO (spec_l3Find.l0 k y0 y1 y2 y3) (spec_l3Find.l0 (k + 1) y0 y1 y2 y3))
 | 0=>fun _ _ _ _ r h=>by simp [spec_l3Find.l0] at h
 | k + 1=>by
  have ih0:=spec_l3Find.mono_l k
  ·intro y0 y1 y2 y3;unfold spec_l3Find.l0
   repeat' first | (with_reducible first | exact ih0 _ _ _ _ | exact LeO.refl _ | exact LeO.none _ | refine LeO.ite ?_ ?_ | refine LeO.bind ?_ (fun _=>?_)) | exact ih0 _ _ _ _ | exact LeO.none _ | refine LeO.ite ?_ ?_ | refine LeO.bind ?_ (fun _=>?_)
theorem spec_l3Find.mono : ∀ a0 a1 a2 k,LeO (spec_l3Find.f k a0 a1 a2) (spec_l3Find.f (k + 1) a0 a1 a2):=by
 intro a0 a1 a2 k;have ih0:=spec_l3Find.mono_l k;unfold spec_l3Find.f
 repeat' first | (with_reducible first | exact ih0 _ _ _ _ | exact LeO.refl _ | exact LeO.none _ | refine LeO.ite ?_ ?_ | refine LeO.bind ?_ (fun _=>?_)) | exact ih0 _ _ _ _ | exact LeO.none _ | refine LeO.ite ?_ ?_ | refine LeO.bind ?_ (fun _=>?_)
set_option maxHeartbeats 8000000 in
set_option maxRecDepth 100000 in
theorem spec_l3Find.calls (k : Nat) (A0_0 : Option Addr) (c0_0 : Nat) (l0_0 : List (S54)) (a1_0 : Int) (a1_1 : Int) (r : Int) (w : World) (hr0_0 : Kd.C k54 w A0_0 l0_0.length l0_0) (hc0_0 : l0_0.length ≤ c0_0) (h : spec_l3Find.f k l0_0 a1_0 a1_1 = some r) :
  Calls Tryz.prog 111 #[.agg #[.slice A0_0 l0_0.length c0_0],.agg #[.int .i64 a1_0,.int .i64 a1_1]] w fun e w'=>e = .returned (.int .i64 r) ∧ Below w.heap.size w w':=by
 have hu27:=Tryz.underlying27;have hu54:=Tryz.underlying54;have HR0_0:=am hr0_0;have HC0_0:=am hc0_0;clear hr0_0 hc0_0;have HB:=am (Below.refl w.heap.size w);have H : (spec_l3Find.l0 k 0 l0_0 a1_0 a1_1) = some r:=h;clear h;have H':=am H;clear H
 go_enter Tryz.func111,Tryz.ntmps111
 iterate 4 ((try go_quiet (fail));(try go_wp2_with (first | ((with_reducible refine gD 2 rfl ?_);refine box_event rfl (N:=2) rfl (cs:=#[.slice A0_0 l0_0.length c0_0]) (t:=27) hr_ ?_;intro gb3 hg w3 hbox hb;have BK3:=am hbox;have GW3:=gwE HB hg;have GE3:=gwE HB hg;replace HB:=hbS HB hb;clear hb hbox hg) | ((with_reducible refine gD 3 rfl ?_);refine box_event rfl (N:=3) rfl (cs:=#[.int .i64 a1_0,.int .i64 a1_1]) (t:=54) hr_ ?_;intro gb4 hg w4 hbox hb;have BK4:=am hbox;have GW4:=gwE HB hg;have GE4:=gwE HB hg;replace HB:=hbS HB hb;have NB3_4:=neL BK3 hg;have NB4_3:=neG BK3 hg;replace BK3:=bkB BK3 hb;clear hb hbox hg))))
 go_loopg [5] k (fun kq v5 w'=>∃ (x5_1 : Int),v5 = .int .i64 x5_1 ∧ Aside0 (spec_l3Find.l0 kq x5_1 l0_0 a1_0 a1_1 = some r) ∧ Aside0 (kq ≤ k) ∧ Aside0 (w'.heap[gb3]? = some (.cells #[(.slice A0_0 l0_0.length c0_0)] 27 (0,0))) ∧ Aside0 (w'.heap[gb4]? = some (.cells #[.int .i64 a1_0,.int .i64 a1_1] 54 (0,0))) ∧ Aside0 (Below w.heap.size w w'))
 case atStart=>exact ⟨(0),rs_,H',⟨Nat.le_refl _⟩,⟨bk BK3⟩,⟨bk BK4⟩,⟨m4_⟩⟩
 case round=>
  clear H';(try clear c1);(try clear p2);obtain ⟨x5_1,rfl,HA,HK1,BK3,BK4,HB⟩:=hrel
  cases gk with
  | zero=>exact absurd HA.out (by simp [spec_l3Find.l0])
  | succ k1=>
   have H:=HA.out;clear HA;simp only [spec_l3Find.l0] at H
   by_cases c5 : x5_1 < (l0_0.length : Int)
   ·rw [if_pos c5] at H;have c5b0 : decide (x5_1 < (l0_0.length : Int)) = true:=decide_eq_true c5;clear c5
    by_cases c6 : 0 ≤ x5_1
    ·rw [if_pos c6] at H;have c6b0 : decide (0 ≤ x5_1) = true:=decide_eq_true c6;clear c6
     by_cases c7 : (((rd_T54 l0_0 x5_1).f0) == a1_0 && (((rd_T54 l0_0 x5_1).f1) == a1_1)) = true
     ·rw [if_pos c7] at H;have c7b0 : (((rd_T54 l0_0 x5_1).f0) == a1_0 && (((rd_T54 l0_0 x5_1).f1) == a1_1)) = true:=c7;(try (have c7b1 : decide (((rd_T54 l0_0 x5_1).f0) = a1_0 && (((rd_T54 l0_0 x5_1).f1) == a1_1)) = true:=by simpa using c7));(try (have c7b2 : (((rd_T54 l0_0 x5_1).f0) == a1_0 && (((rd_T54 l0_0 x5_1).f1) == a1_1)) = true:=by simpa using c7));clear c7;obtain rfl:=Option.some.inj H;have:=NB3_4.out;have:=NB4_3.out;have ⟨_,_⟩:=cf1 BK3;have p6 : 0 ≤ (x5_1 : Int):=of_decide_eq_true da_;have q6 : x5_1 < (l0_0.length : Int):=of_decide_eq_true da_;obtain ⟨ad6,e6,hx6_0,hx6_1⟩:=at_T54 HR0_0.out x5_1 p6 q6;cases e6;replace hx6_0:=bcl HB hx6_0;replace hx6_1:=bcl HB hx6_1;replace p6:=eq_true p6;replace q6:=eq_true q6;have ⟨_,_,_,_⟩:=cf2 BK4
      go_wp2
      repeat (go_quiet (fail);try go_wp2)
      go_ret
      exact ⟨fi_,m4_⟩
     ·rw [if_neg c7] at H;have c7b0 : (((rd_T54 l0_0 x5_1).f0) == a1_0 && (((rd_T54 l0_0 x5_1).f1) == a1_1)) = false:=by simpa using c7
      (try (have c7b1 : decide (((rd_T54 l0_0 x5_1).f0) = a1_0 && (((rd_T54 l0_0 x5_1).f1) == a1_1)) = false:=by simpa using c7));(try (have c7b2 : (((rd_T54 l0_0 x5_1).f0) == a1_0 && (((rd_T54 l0_0 x5_1).f1) == a1_1)) = false:=by simpa using c7));(try (have c7b3 : ¬ (((rd_T54 l0_0 x5_1).f0) = a1_0 && (((rd_T54 l0_0 x5_1).f1) == a1_1)):=by simpa using c7));clear c7;have H':=am H;clear H;have:=NB3_4.out;have:=NB4_3.out;have ⟨_,_⟩:=cf1 BK3;have p6 : 0 ≤ (x5_1 : Int):=of_decide_eq_true da_;have q6 : x5_1 < (l0_0.length : Int):=of_decide_eq_true da_;obtain ⟨ad6,e6,hx6_0,hx6_1⟩:=at_T54 HR0_0.out x5_1 p6 q6;cases e6;replace hx6_0:=bcl HB hx6_0;replace hx6_1:=bcl HB hx6_1;replace p6:=eq_true p6;replace q6:=eq_true q6;have ⟨_,_,_,_⟩:=cf2 BK4
      go_wp2
      repeat (go_quiet (fail);try go_wp2)
      go_roundg k1
      case measure=>have:=HK1.out;omega
      case rel=>exact ⟨(wrap64 (x5_1 + 1)),rs_,H',⟨by have:=HK1.out;omega⟩,⟨bk BK3⟩,⟨bk BK4⟩,⟨m4_⟩⟩
    ·rw [if_neg c6] at H;exact absurd H (by simp)
   ·rw [if_neg c5] at H;have c5b0 : decide (x5_1 < (l0_0.length : Int)) = false:=decide_eq_false c5;clear c5;obtain rfl:=Option.some.inj H;have:=NB3_4.out;have:=NB4_3.out;have ⟨_,_⟩:=cf1 BK3
    go_wp2
    repeat (go_quiet (fail);try go_wp2)
    go_ret
    exact ⟨fi_,m4_⟩
end
section
attribute [local go_sem] max2_int min2_int max_two min_two max_three min_three max_four min_four
def spec_MapOk.l0 : Nat → Int → List (S54) → Option (Bool)
 | 0,_,_=>none
 | k + 1,x3,x418000=>if x3 < (x418000.length : Int) then (if 0 ≤ x3 then ((spec_EndInside.f ((rd_T54 x418000 x3).f0) ((rd_T54 x418000 x3).f1)).bind fun t419=>(if t419 = true then (if x3 ≤ (x418000.length : Int) then ((spec_l3Find.f k (x418000.take (x3 : Int).toNat) ((rd_T54 x418000 x3).f0) ((rd_T54 x418000 x3).f1)).bind fun t425=>(if t425 ≥ 0 then (some false) else (spec_MapOk.l0 k (wrap64 (x3 + 1)) x418000))) else (none)) else (some false))) else (none)) else (some true)
def spec_MapOk.f (k : Nat) (l0_0 : List (S54)) : Option (Bool):=if (l0_0.length : Int) > 6 then (some false) else (spec_MapOk.l0 k 0 l0_0)
theorem spec_MapOk.mono_l : ∀ k,(∀ y0 y1,LeO (spec_MapOk.l0 k y0 y1) (spec_MapOk.l0 (k + 1) y0 y1))
 | 0=>fun _ _ r h=>by simp [spec_MapOk.l0] at h
 | k + 1=>by
  have ih0:=spec_MapOk.mono_l k
  ·intro y0 y1;unfold spec_MapOk.l0
   repeat' first | (with_reducible first | exact ih0 _ _ | exact spec_l3Find.mono _ _ _ _ | exact LeO.refl _ | exact LeO.none _ | refine LeO.ite ?_ ?_ | refine LeO.bind ?_ (fun _=>?_)) | exact ih0 _ _ | exact spec_l3Find.mono _ _ _ _ | exact LeO.none _ | refine LeO.ite ?_ ?_ | refine LeO.bind ?_ (fun _=>?_)
theorem spec_MapOk.mono : ∀ a0 k,LeO (spec_MapOk.f k a0) (spec_MapOk.f (k + 1) a0):=by
 intro a0 k;have ih0:=spec_MapOk.mono_l k;unfold spec_MapOk.f
 repeat' first | (with_reducible first | exact ih0 _ _ | exact spec_l3Find.mono _ _ _ _ | exact LeO.refl _ | exact LeO.none _ | refine LeO.ite ?_ ?_ | refine LeO.bind ?_ (fun _=>?_)) | exact ih0 _ _ | exact spec_l3Find.mono _ _ _ _ | exact LeO.none _ | refine LeO.ite ?_ ?_ | refine LeO.bind ?_ (fun _=>?_)
def spec_MapOk.T6 : Bool × List (List Nat × List Nat):=(true,[([],[]),([0],[0]),([],[]),([1,2],[1,2]),([3],[3]),([4],[4]),([5],[5]),([6,5],[6]),([7],[7]),([8,7],[7,8]),([7],[7]),([9,10,7],[7,9,10]),([11,7],[7,11]),([7],[7]),([13,7],[7,13]),([7],[7]),([14,15,7],[7,14,15]),([16,7],[7,16]),([12,17,7,7],[7,12,17]),([18,7],[7,18]),([7,19],[7,19])])
def spec_MapOk.B6 : List Nat:=[0,1,0,7,15,31,63,127,255,511,255,2047,4095,255,8447,255,57599,123135,262143,524287,1048575]
theorem spec_MapOk.tab6 : rtab .any (opsOf Tryz.f56 6) = spec_MapOk.T6:=by kernel_rfl
theorem spec_MapOk.bits6 : waitsOk spec_MapOk.T6.2 spec_MapOk.B6 = true:=by kernel_rfl
set_option maxHeartbeats 8000000 in
set_option maxRecDepth 100000 in
theorem spec_MapOk.calls (k : Nat) (A0_0 : Option Addr) (c0_0 : Nat) (l0_0 : List (S54)) (r : Bool) (w : World) (hr0_0 : Kd.C k54 w A0_0 l0_0.length l0_0) (hc0_0 : l0_0.length ≤ c0_0) (h : spec_MapOk.f k l0_0 = some r) :
  Calls Tryz.prog 56 #[.agg #[.slice A0_0 l0_0.length c0_0]] w fun e w'=>e = .returned (.bool r) ∧ Below w.heap.size w w':=by
 have hu27:=Tryz.underlying27;have hu54:=Tryz.underlying54;have HR0_0:=am hr0_0;have HC0_0:=am hc0_0;clear hr0_0 hc0_0;have HB:=am (Below.refl w.heap.size w);have H : (if (l0_0.length : Int) > 6 then (some false) else (spec_MapOk.l0 k 0 l0_0)) = some r:=h;clear h
 by_cases c2 : (l0_0.length : Int) > 6
 ·rw [if_pos c2] at H;have c2b0 : decide (6 < (l0_0.length : Int)) = true:=decide_eq_true c2;have c2b1 : decide (6 < l0_0.length) = true:=decide_eq_true (by omega);clear c2;obtain rfl:=Option.some.inj H
  go_enter Tryz.func56,Tryz.ntmps56
  go_wp2_with (first | ((with_reducible refine gD 1 rfl ?_);refine box_event rfl (N:=1) rfl (cs:=#[.slice A0_0 l0_0.length c0_0]) (t:=27) hr_ ?_;intro gb4 hg w3 hbox hb;have BK4:=am hbox;have GW4:=gwE HB hg;have GE4:=gwE HB hg;replace HB:=hbS HB hb;clear hb hbox hg;have ⟨hcz4_0,hfz4_0⟩:=cf1 BK4))
  go_ret
  exact ⟨fi_,m4_⟩
 ·rw [if_neg c2] at H;have c2b0 : decide (6 < (l0_0.length : Int)) = false:=decide_eq_false c2;have c2b1 : decide (6 < l0_0.length) = false:=decide_eq_false (by omega);clear c2;have H':=am H;clear H
  go_enter Tryz.func56,Tryz.ntmps56
  go_wp2_with (first | ((with_reducible refine gD 1 rfl ?_);refine box_event rfl (N:=1) rfl (cs:=#[.slice A0_0 l0_0.length c0_0]) (t:=27) hr_ ?_;intro gb4 hg w5 hbox hb;have BK4:=am hbox;have GW4:=gwE HB hg;have GE4:=gwE HB hg;replace HB:=hbS HB hb;clear hb hbox hg;have ⟨hcz6_0,hfz6_0⟩:=cf1 BK4))
  go_loopg [3] k (fun kq v3 w'=>∃ (x3_1 : Int),v3 = .int .i64 x3_1 ∧ Aside0 (spec_MapOk.l0 kq x3_1 l0_0 = some r) ∧ Aside0 (kq ≤ k) ∧ Aside0 (w'.heap[gb4]? = some (.cells #[(.slice A0_0 l0_0.length c0_0)] 27 (0,0))) ∧ Aside0 (Below w.heap.size w w'))
  case atStart=>exact ⟨(0),rs_,H',⟨Nat.le_refl _⟩,⟨bk BK4⟩,⟨m4_⟩⟩
  case round=>
   clear H';(try clear c2);(try clear c2b0);(try clear c2b1);(try clear p2);(try clear c5);(try clear hcz4_0 hcz6_0 hfz4_0 hfz6_0);obtain ⟨x3_1,rfl,HA,HK1,BK4,HB⟩:=hrel
   cases gk with
   | zero=>exact absurd HA.out (by simp [spec_MapOk.l0])
   | succ k1=>
    have H:=HA.out;clear HA;simp only [spec_MapOk.l0] at H
    by_cases c7 : x3_1 < (l0_0.length : Int)
    ·rw [if_pos c7] at H;have c7b0 : decide (x3_1 < (l0_0.length : Int)) = true:=decide_eq_true c7;clear c7
     by_cases c8 : 0 ≤ x3_1
     ·rw [if_pos c8] at H;have c8b0 : decide (0 ≤ x3_1) = true:=decide_eq_true c8;clear c8;obtain ⟨t5,A9,H⟩:=bse H
      try dsimp only at H
      by_cases c10 : t5 = true
      ·subst c10;rw [if_pos rfl] at H;have c11b0:=eq_true (of_decide_eq_true da_ : 0 ≤ x3_1)
       by_cases c12 : x3_1 ≤ (l0_0.length : Int)
       ·rw [if_pos c12] at H;have c12b0:=eq_true c12;have c12b1 : decide (x3_1 ≤ (l0_0.length : Int)) = true:=decide_eq_true c12;clear c12;obtain ⟨y6,hy6⟩ : ∃ y_ : List (S54),y_ = (l0_0.take (x3_1 : Int).toNat):=⟨_,rfl⟩;replace H : ((spec_l3Find.f k1 y6 ((rd_T54 l0_0 x3_1).f0) ((rd_T54 l0_0 x3_1).f1)).bind fun t7=>(if t7 ≥ 0 then (some false) else (spec_MapOk.l0 k1 (wrap64 (x3_1 + 1)) l0_0))) = some r:=by first | (rw [hy6];with_reducible exact H) | (have H2_:=(Option.bind_some _ _).symm.trans H;rw [hy6];with_reducible exact H2_) | (have H2_:=(Option.bind_some _ _).symm.trans H;with_reducible exact H2_) | with_reducible exact H | (rw [hy6];exact H) | exact H
        have Ny6:=am hy6;clear hy6;obtain ⟨t7,A13,H⟩:=bse H
        try dsimp only at H
        by_cases c14 : t7 ≥ 0
        ·rw [if_pos c14] at H;have c14b0 : decide (0 ≤ t7) = true:=decide_eq_true c14;clear c14;obtain rfl:=Option.some.inj H;have ⟨_,_⟩:=cf1 BK4
         try go_wp2
         replace BK4:=am (blk_drew BK4.out);replace HB:=am (below_drew1 HB.out);have p8 : 0 ≤ (x3_1 : Int):=of_decide_eq_true da_;have q8 : x3_1 < (l0_0.length : Int):=of_decide_eq_true da_;obtain ⟨ad8,e8,hx8_0,hx8_1⟩:=at_T54 HR0_0.out x3_1 p8 q8;have hw8_1:=hx8_1;have hw8_0:=hx8_0;cases e8;replace hx8_0:=bcl HB hx8_0;replace hx8_1:=bcl HB hx8_1;replace p8:=eq_true p8;replace q8:=eq_true q8;have p9 : 0 ≤ (x3_1 : Int):=of_decide_eq_true da_;have q9 : x3_1 < (l0_0.length : Int):=of_decide_eq_true da_;obtain ⟨ad9,e9,hx9_0,hx9_1⟩:=at_T54 HR0_0.out x3_1 p9 q9;have hw9_1:=hx9_1;have hw9_0:=hx9_0;obtain rfl : ad8 = ad9:=(by injection e9);replace hx9_0:=bcl HB hx9_0;replace hx9_1:=bcl HB hx9_1;replace p9:=eq_true p9;replace q9:=eq_true q9;refine start_ (n:=21) (S:=fun w'=>w'.cell? ⟨gb4,0,none⟩ = some (.slice (some ad8) l0_0.length c0_0) ∧ w'.cell? (ad8.add ((x3_1).toNat * 2)) = some (.int .i64 ((rd_T54 l0_0 x3_1).f0)) ∧ w'.cell? ⟨(ad8.add ((x3_1).toNat * 2)).block,(ad8.add ((x3_1).toNat * 2)).off + 1,none⟩ = some (.int .i64 ((rd_T54 l0_0 x3_1).f1)) ∧ w'.cell? (ad8.add ((x3_1).toNat * 2)) = some (.int .i64 ((rd_T54 l0_0 x3_1).f0)) ∧ w'.cell? ⟨(ad8.add ((x3_1).toNat * 2)).block,(ad8.add ((x3_1).toNat * 2)).off + 1,none⟩ = some (.int .i64 ((rd_T54 l0_0 x3_1).f1))) (ds:=[]) #[false,false,false,false,false,false,false,false,false,false,false,false,false,false,false,false,false,false,false,false,false] (by kernel_rfl) rfl rfl ⟨bcell BK4 0,(bcl HB hw8_0),(bcl HB hw8_1),(bcl HB hw9_0),(bcl HB hw9_1)⟩ (fun hHeld=>?_);refine with_tabW spec_MapOk.tab6 spec_MapOk.bits6 (fun HT_ HW_=>?_);generalize wr.drew = w16 at BK4 HB hx8_0 hx8_1 hx9_0 hx9_1 hHeld ⊢;refine pu_ 0 (some 15) (bm 21 1) ?_;refine pu_ 2 (some 17) (bm 21 5) ?_;refine tk_ 1 (some 16) (bm 21 7) rfl (.inl ⟨rfl,m8_⟩) ?_;refine pu_ 3 (some 18) (bm 21 15) ?_;refine tk_ 4 (some 19) (bm 21 31) rfl (.inl ⟨rfl,m8_⟩) ?_;refine on_ 5 (some 20) (bm 21 63) (fun K hK=>?_);refine gR Tryz.func38 #[.agg #[.int .i64 ((rd_T54 l0_0 x3_1).f0),.int .i64 ((rd_T54 l0_0 x3_1).f1)]] ?_
         with_reducible refine (spec_EndInside.calls ((rd_T54 l0_0 x3_1).f0) ((rd_T54 l0_0 x3_1).f1) true _ A9.out).mono ?_
         rintro e w17 ⟨rfl,hb⟩;refine ⟨_,rfl,?_⟩;replace BK4:=bkB BK4 hb;replace HB:=hbS HB hb;(try clear hb);(try clear hb2);(try clear hk);(try clear hi);have q18 : (x3_1 : Int) ≤ ((l0_0.length : Int) : Int):=of_decide_eq_true da_;obtain ⟨i018,hi018,_,hsz18,_⟩:=info_parts info54;have hroom18 : l0_0.length ≤ c0_0:=HC0_0.out;have hC18 : Kd.C k54 _ (some ad8) l0_0.length l0_0:=HR0_0.out;have hcut18:=cut_to (P:=Tryz.prog) 25 54 .i64 Tryz.underlying25 hi018 (some ad8) l0_0.length c0_0 x3_1 (of_decide_eq_true da_) q18 hroom18;have hr18:=Kd.C_take (m:=(x3_1 : Int).toNat) hC18 (by omega);have hy18 : y6.length = (x3_1 : Int).toNat:=(by rw [Ny6.out,List.length_take];omega);rw [← Ny6.out] at hr18;rw [← hy18] at hcut18;have HR423:=am hr18;have HC423:=am (show y6.length ≤ c0_0 from by omega);clear hr18 hC18 hroom18 hi018 hsz18;have KY18:=am hy18;clear hy18;replace q18:=eq_true q18;refine hK.out _ _ ⟨bcell BK4 0,(bcl HB hw8_0),(bcl HB hw8_1),(bcl HB hw9_0),(bcl HB hw9_1)⟩ (fun hHeld=>?_);clear hK K;refine nm_ ?_;refine pu_ 6 (some 21) (bm 21 127) ?_;refine pu_ 7 (some 22) (bm 21 255) ?_;refine pu_ 8 (some 23) (bm 21 511) ?_;refine pu_ 10 (some 25) (bm 21 1535) ?_;refine pu_ 13 (some 28) (bm 21 9727) ?_;refine pu_ 15 (some 30) (bm 21 42495) ?_;refine tk_ 9 (some 24) (bm 21 43007) rfl (.inl ⟨rfl,m8_⟩) ?_;refine pu_ 11 (some 26) (bm 21 45055) ?_;refine pu_ 12 (some 27) (bm 21 49151) ?_;refine tk_ 14 (some 29) (bm 21 65535) rfl (.inl ⟨rfl,m8_⟩) ?_;refine pu_ 16 (some 31) (bm 21 131071) ?_;refine tk_ 17 (some 32) (bm 21 262143) rfl (.inl ⟨rfl,m8_⟩) ?_;refine on_ 18 (some 33) (bm 21 524287) (fun K hK=>?_);refine gR Tryz.func111 #[.agg #[.slice (some ad8) y6.length c0_0],.agg #[.int .i64 ((rd_T54 l0_0 x3_1).f0),.int .i64 ((rd_T54 l0_0 x3_1).f1)]] ?_
         with_reducible refine (spec_l3Find.calls k1 _ _ y6 ((rd_T54 l0_0 x3_1).f0) ((rd_T54 l0_0 x3_1).f1) t7 _ ?side1 ?side2 A13.out).mono ?_
         (case side1=>exact m51_)
         (case side2=>exact HC423.out)
         rintro e w19 ⟨rfl,hb⟩;refine ⟨_,rfl,?_⟩;replace BK4:=bkB BK4 hb;replace HB:=hbS HB hb;(try clear hb);(try clear hb2);(try clear hk);(try clear hi);refine hK.out _ _ ⟨bcell BK4 0,(bcl HB hw8_0),(bcl HB hw8_1),(bcl HB hw9_0),(bcl HB hw9_1)⟩ (fun hHeld=>?_);clear hK K;refine nm_ ?_;refine pu_ 19 (some 34) (bm 21 1048575) ?_;refine pu_ 20 (some 35) (bm 21 2097151) ?_;refine done_ (done_of HT_.out (by kernel_rfl)) ?_
         try go_wp2
         go_ret
         exact ⟨fi_,m4_⟩
        ·rw [if_neg c14] at H;have c14b0 : decide (0 ≤ t7) = false:=decide_eq_false c14;clear c14;have H':=am H;clear H;have ⟨_,_⟩:=cf1 BK4
         try go_wp2
         replace BK4:=am (blk_drew BK4.out);replace HB:=am (below_drew1 HB.out);have p8 : 0 ≤ (x3_1 : Int):=of_decide_eq_true da_;have q8 : x3_1 < (l0_0.length : Int):=of_decide_eq_true da_;obtain ⟨ad8,e8,hx8_0,hx8_1⟩:=at_T54 HR0_0.out x3_1 p8 q8;have hw8_1:=hx8_1;have hw8_0:=hx8_0;cases e8;replace hx8_0:=bcl HB hx8_0;replace hx8_1:=bcl HB hx8_1;replace p8:=eq_true p8;replace q8:=eq_true q8;have p9 : 0 ≤ (x3_1 : Int):=of_decide_eq_true da_;have q9 : x3_1 < (l0_0.length : Int):=of_decide_eq_true da_;obtain ⟨ad9,e9,hx9_0,hx9_1⟩:=at_T54 HR0_0.out x3_1 p9 q9;have hw9_1:=hx9_1;have hw9_0:=hx9_0;obtain rfl : ad8 = ad9:=(by injection e9);replace hx9_0:=bcl HB hx9_0;replace hx9_1:=bcl HB hx9_1;replace p9:=eq_true p9;replace q9:=eq_true q9;refine start_ (n:=21) (S:=fun w'=>w'.cell? ⟨gb4,0,none⟩ = some (.slice (some ad8) l0_0.length c0_0) ∧ w'.cell? (ad8.add ((x3_1).toNat * 2)) = some (.int .i64 ((rd_T54 l0_0 x3_1).f0)) ∧ w'.cell? ⟨(ad8.add ((x3_1).toNat * 2)).block,(ad8.add ((x3_1).toNat * 2)).off + 1,none⟩ = some (.int .i64 ((rd_T54 l0_0 x3_1).f1)) ∧ w'.cell? (ad8.add ((x3_1).toNat * 2)) = some (.int .i64 ((rd_T54 l0_0 x3_1).f0)) ∧ w'.cell? ⟨(ad8.add ((x3_1).toNat * 2)).block,(ad8.add ((x3_1).toNat * 2)).off + 1,none⟩ = some (.int .i64 ((rd_T54 l0_0 x3_1).f1))) (ds:=[]) #[false,false,false,false,false,false,false,false,false,false,false,false,false,false,false,false,false,false,false,false,false] (by kernel_rfl) rfl rfl ⟨bcell BK4 0,(bcl HB hw8_0),(bcl HB hw8_1),(bcl HB hw9_0),(bcl HB hw9_1)⟩ (fun hHeld=>?_);refine with_tabW spec_MapOk.tab6 spec_MapOk.bits6 (fun HT_ HW_=>?_);generalize wr.drew = w21 at BK4 HB hx8_0 hx8_1 hx9_0 hx9_1 hHeld ⊢;refine pu_ 0 (some 15) (bm 21 1) ?_;refine pu_ 2 (some 17) (bm 21 5) ?_;refine tk_ 1 (some 16) (bm 21 7) rfl (.inl ⟨rfl,m8_⟩) ?_;refine pu_ 3 (some 18) (bm 21 15) ?_;refine tk_ 4 (some 19) (bm 21 31) rfl (.inl ⟨rfl,m8_⟩) ?_;refine on_ 5 (some 20) (bm 21 63) (fun K hK=>?_);refine gR Tryz.func38 #[.agg #[.int .i64 ((rd_T54 l0_0 x3_1).f0),.int .i64 ((rd_T54 l0_0 x3_1).f1)]] ?_
         with_reducible refine (spec_EndInside.calls ((rd_T54 l0_0 x3_1).f0) ((rd_T54 l0_0 x3_1).f1) true _ A9.out).mono ?_
         rintro e w22 ⟨rfl,hb⟩;refine ⟨_,rfl,?_⟩;replace BK4:=bkB BK4 hb;replace HB:=hbS HB hb;(try clear hb);(try clear hb2);(try clear hk);(try clear hi);have q23 : (x3_1 : Int) ≤ ((l0_0.length : Int) : Int):=of_decide_eq_true da_;obtain ⟨i023,hi023,_,hsz23,_⟩:=info_parts info54;have hroom23 : l0_0.length ≤ c0_0:=HC0_0.out;have hC23 : Kd.C k54 _ (some ad8) l0_0.length l0_0:=HR0_0.out;have hcut23:=cut_to (P:=Tryz.prog) 25 54 .i64 Tryz.underlying25 hi023 (some ad8) l0_0.length c0_0 x3_1 (of_decide_eq_true da_) q23 hroom23;have hr23:=Kd.C_take (m:=(x3_1 : Int).toNat) hC23 (by omega);have hy23 : y6.length = (x3_1 : Int).toNat:=(by rw [Ny6.out,List.length_take];omega);rw [← Ny6.out] at hr23;rw [← hy23] at hcut23;have HR423:=am hr23;have HC423:=am (show y6.length ≤ c0_0 from by omega);clear hr23 hC23 hroom23 hi023 hsz23;have KY23:=am hy23;clear hy23;replace q23:=eq_true q23;refine hK.out _ _ ⟨bcell BK4 0,(bcl HB hw8_0),(bcl HB hw8_1),(bcl HB hw9_0),(bcl HB hw9_1)⟩ (fun hHeld=>?_);clear hK K;refine nm_ ?_;refine pu_ 6 (some 21) (bm 21 127) ?_;refine pu_ 7 (some 22) (bm 21 255) ?_;refine pu_ 8 (some 23) (bm 21 511) ?_;refine pu_ 10 (some 25) (bm 21 1535) ?_;refine pu_ 13 (some 28) (bm 21 9727) ?_;refine pu_ 15 (some 30) (bm 21 42495) ?_;refine tk_ 9 (some 24) (bm 21 43007) rfl (.inl ⟨rfl,m8_⟩) ?_;refine pu_ 11 (some 26) (bm 21 45055) ?_;refine pu_ 12 (some 27) (bm 21 49151) ?_;refine tk_ 14 (some 29) (bm 21 65535) rfl (.inl ⟨rfl,m8_⟩) ?_;refine pu_ 16 (some 31) (bm 21 131071) ?_;refine tk_ 17 (some 32) (bm 21 262143) rfl (.inl ⟨rfl,m8_⟩) ?_;refine on_ 18 (some 33) (bm 21 524287) (fun K hK=>?_);refine gR Tryz.func111 #[.agg #[.slice (some ad8) y6.length c0_0],.agg #[.int .i64 ((rd_T54 l0_0 x3_1).f0),.int .i64 ((rd_T54 l0_0 x3_1).f1)]] ?_
         with_reducible refine (spec_l3Find.calls k1 _ _ y6 ((rd_T54 l0_0 x3_1).f0) ((rd_T54 l0_0 x3_1).f1) t7 _ ?side1 ?side2 A13.out).mono ?_
         (case side1=>exact m51_)
         (case side2=>exact HC423.out)
         rintro e w24 ⟨rfl,hb⟩;refine ⟨_,rfl,?_⟩;replace BK4:=bkB BK4 hb;replace HB:=hbS HB hb;(try clear hb);(try clear hb2);(try clear hk);(try clear hi);refine hK.out _ _ ⟨bcell BK4 0,(bcl HB hw8_0),(bcl HB hw8_1),(bcl HB hw9_0),(bcl HB hw9_1)⟩ (fun hHeld=>?_);clear hK K;refine nm_ ?_;refine pu_ 19 (some 34) (bm 21 1048575) ?_;refine pu_ 20 (some 35) (bm 21 2097151) ?_;refine done_ (done_of HT_.out (by kernel_rfl)) ?_
         try go_wp2
         go_roundg k1
         case measure=>have:=HK1.out;omega
         case rel=>exact ⟨(wrap64 (x3_1 + 1)),rs_,H',⟨by have:=HK1.out;omega⟩,⟨bk BK4⟩,⟨m4_⟩⟩
       ·rw [if_neg c12] at H;exact absurd H (by simp)
      ·replace c10:=Bool.eq_false_iff.mpr c10;subst c10;rw [if_neg nft_] at H;obtain rfl:=Option.some.inj H;have ⟨_,_⟩:=cf1 BK4
       try go_wp2
       replace BK4:=am (blk_drew BK4.out);replace HB:=am (below_drew1 HB.out);have p8 : 0 ≤ (x3_1 : Int):=of_decide_eq_true da_;have q8 : x3_1 < (l0_0.length : Int):=of_decide_eq_true da_;obtain ⟨ad8,e8,hx8_0,hx8_1⟩:=at_T54 HR0_0.out x3_1 p8 q8;have hw8_1:=hx8_1;have hw8_0:=hx8_0;cases e8;replace hx8_0:=bcl HB hx8_0;replace hx8_1:=bcl HB hx8_1;replace p8:=eq_true p8;replace q8:=eq_true q8;refine start_ (n:=21) (S:=fun w'=>w'.cell? ⟨gb4,0,none⟩ = some (.slice (some ad8) l0_0.length c0_0) ∧ w'.cell? (ad8.add ((x3_1).toNat * 2)) = some (.int .i64 ((rd_T54 l0_0 x3_1).f0)) ∧ w'.cell? ⟨(ad8.add ((x3_1).toNat * 2)).block,(ad8.add ((x3_1).toNat * 2)).off + 1,none⟩ = some (.int .i64 ((rd_T54 l0_0 x3_1).f1))) (ds:=[]) #[false,false,false,false,false,false,false,false,false,false,false,false,false,false,false,false,false,false,false,false,false] (by kernel_rfl) rfl rfl ⟨bcell BK4 0,(bcl HB hw8_0),(bcl HB hw8_1)⟩ (fun hHeld=>?_);refine with_tabW spec_MapOk.tab6 spec_MapOk.bits6 (fun HT_ HW_=>?_);generalize wr.drew = w26 at BK4 HB hx8_0 hx8_1 hHeld ⊢;refine pu_ 0 (some 15) (bm 21 1) ?_;refine pu_ 2 (some 17) (bm 21 5) ?_;refine tk_ 1 (some 16) (bm 21 7) rfl (.inl ⟨rfl,m6_⟩) ?_;refine pu_ 3 (some 18) (bm 21 15) ?_;refine tk_ 4 (some 19) (bm 21 31) rfl (.inl ⟨rfl,m6_⟩) ?_;refine on_ 5 (some 20) (bm 21 63) (fun K hK=>?_);refine gR Tryz.func38 #[.agg #[.int .i64 ((rd_T54 l0_0 x3_1).f0),.int .i64 ((rd_T54 l0_0 x3_1).f1)]] ?_
       with_reducible refine (spec_EndInside.calls ((rd_T54 l0_0 x3_1).f0) ((rd_T54 l0_0 x3_1).f1) false _ A9.out).mono ?_
       rintro e w27 ⟨rfl,hb⟩;refine ⟨_,rfl,?_⟩;replace BK4:=bkB BK4 hb;replace HB:=hbS HB hb;(try clear hb);(try clear hb2);(try clear hk);(try clear hi);refine hK.out _ _ ⟨bcell BK4 0,(bcl HB hw8_0),(bcl HB hw8_1)⟩ (fun hHeld=>?_);clear hK K;refine nm_ ?_;refine pu_ 6 (some 21) (bm 21 127) ?_;refine pu_ 7 (some 22) (bm 21 255) ?_;refine pv_ 8 (some 23) (bm 21 511) ?_;refine pv_ 9 (some 24) (bm 21 1023) ?_;refine pv_ 10 (some 25) (bm 21 2047) ?_;refine pv_ 11 (some 26) (bm 21 4095) ?_;refine pv_ 12 (some 27) (bm 21 8191) ?_;refine pv_ 13 (some 28) (bm 21 16383) ?_;refine pv_ 14 (some 29) (bm 21 32767) ?_;refine pv_ 15 (some 30) (bm 21 65535) ?_;refine pv_ 16 (some 31) (bm 21 131071) ?_;refine pv_ 17 (some 32) (bm 21 262143) ?_;refine pv_ 18 (some 33) (bm 21 524287) ?_;refine pv_ 19 (some 34) (bm 21 1048575) ?_;refine pu_ 20 (some 35) (bm 21 2097151) ?_;refine done_ (done_of HT_.out (by kernel_rfl)) ?_
       try go_wp2
       go_ret
       exact ⟨fi_,m4_⟩
     ·rw [if_neg c8] at H;exact absurd H (by simp)
    ·rw [if_neg c7] at H;have c7b0 : decide (x3_1 < (l0_0.length : Int)) = false:=decide_eq_false c7;clear c7;obtain rfl:=Option.some.inj H;have ⟨_,_⟩:=cf1 BK4
     go_wp2
     go_ret
     exact ⟨fi_,m4_⟩
def spec_MapPort.f (k : Nat) (l0_0 : List (S54)) (a1_0 : Int) (a1_1 : Int) : Option (Int):=(spec_l3Find.f k l0_0 a1_0 a1_1).bind fun t431=>(if t431 < 0 then (some 0) else (some (wrap64 (500 + t431))))
theorem spec_MapPort.mono : ∀ a0 a1 a2 k,LeO (spec_MapPort.f k a0 a1 a2) (spec_MapPort.f (k + 1) a0 a1 a2):=by
 intro a0 a1 a2 k;unfold spec_MapPort.f
 repeat' first | (with_reducible first | exact spec_l3Find.mono _ _ _ _ | exact LeO.refl _ | exact LeO.none _ | refine LeO.ite ?_ ?_ | refine LeO.bind ?_ (fun _=>?_)) | exact spec_l3Find.mono _ _ _ _ | exact LeO.none _ | refine LeO.ite ?_ ?_ | refine LeO.bind ?_ (fun _=>?_)
set_option maxHeartbeats 8000000 in
set_option maxRecDepth 100000 in
theorem spec_MapPort.calls (k : Nat) (A0_0 : Option Addr) (c0_0 : Nat) (l0_0 : List (S54)) (a1_0 : Int) (a1_1 : Int) (r : Int) (w : World) (hr0_0 : Kd.C k54 w A0_0 l0_0.length l0_0) (hc0_0 : l0_0.length ≤ c0_0) (h : spec_MapPort.f k l0_0 a1_0 a1_1 = some r) :
  Calls Tryz.prog 113 #[.agg #[.slice A0_0 l0_0.length c0_0],.agg #[.int .i64 a1_0,.int .i64 a1_1]] w fun e w'=>e = .returned (.int .i64 r) ∧ Below w.heap.size w w':=by
 have hu27:=Tryz.underlying27;have hu54:=Tryz.underlying54;have HR0_0:=am hr0_0;have HC0_0:=am hc0_0;clear hr0_0 hc0_0;have HB:=am (Below.refl w.heap.size w);have H : ((spec_l3Find.f k l0_0 a1_0 a1_1).bind fun t0=>(if t0 < 0 then (some 0) else (some (wrap64 (500 + t0))))) = some r:=h;clear h;obtain ⟨t0,A3,H⟩:=bse H
 try dsimp only at H
 by_cases c4 : t0 < 0
 ·rw [if_pos c4] at H;have c4b0 : decide (t0 < 0) = true:=decide_eq_true c4;clear c4;obtain rfl:=Option.some.inj H
  go_enter Tryz.func113,Tryz.ntmps113
  go_wp2_with (first | ((with_reducible refine gD 2 rfl ?_);refine box_event rfl (N:=2) rfl (cs:=#[.slice A0_0 l0_0.length c0_0]) (t:=27) hr_ ?_;intro gb1 hg w5 hbox hb;have BK1:=am hbox;have GW1:=gwE HB hg;have GE1:=gwE HB hg;replace HB:=hbS HB hb;clear hb hbox hg) | ((with_reducible refine gD 3 rfl ?_);refine box_event rfl (N:=3) rfl (cs:=#[.int .i64 a1_0,.int .i64 a1_1]) (t:=54) hr_ ?_;intro gb2 hg w6 hbox hb;have BK2:=am hbox;have GW2:=gwE HB hg;have GE2:=gwE HB hg;replace HB:=hbS HB hb;have NB1_2:=neL BK1 hg;have NB2_1:=neG BK1 hg;replace BK1:=bkB BK1 hb;clear hb hbox hg;have:=NB1_2.out;have:=NB2_1.out;have ⟨_,_⟩:=cf1 BK1;have ⟨_,_,_,_⟩:=cf2 BK2) | ((with_reducible refine gC 111 rfl ?_);refine gL (some 8) Tryz.func111 #[.agg #[.slice A0_0 l0_0.length c0_0],.agg #[.int .i64 a1_0,.int .i64 a1_1]] ?_;(with_reducible refine (spec_l3Find.calls k _ _ l0_0 a1_0 a1_1 t0 _ ?side1 ?side2 A3.out).mono ?_);(case side1=>exact m5_);(case side2=>exact HC0_0.out);rintro e w10 ⟨rfl,hb⟩;refine ⟨_,rfl,?_⟩;replace BK1:=bkB BK1 hb;replace BK2:=bkB BK2 hb;replace HB:=hbS HB hb;(try clear hb)))
  go_ret
  exact ⟨fi_,m4_⟩
 ·rw [if_neg c4] at H;have c4b0 : decide (t0 < 0) = false:=decide_eq_false c4;clear c4;obtain rfl:=Option.some.inj H
  go_enter Tryz.func113,Tryz.ntmps113
  go_wp2_with (first | ((with_reducible refine gD 2 rfl ?_);refine box_event rfl (N:=2) rfl (cs:=#[.slice A0_0 l0_0.length c0_0]) (t:=27) hr_ ?_;intro gb1 hg w11 hbox hb;have BK1:=am hbox;have GW1:=gwE HB hg;have GE1:=gwE HB hg;replace HB:=hbS HB hb;clear hb hbox hg) | ((with_reducible refine gD 3 rfl ?_);refine box_event rfl (N:=3) rfl (cs:=#[.int .i64 a1_0,.int .i64 a1_1]) (t:=54) hr_ ?_;intro gb2 hg w12 hbox hb;have BK2:=am hbox;have GW2:=gwE HB hg;have GE2:=gwE HB hg;replace HB:=hbS HB hb;have NB1_2:=neL BK1 hg;have NB2_1:=neG BK1 hg;replace BK1:=bkB BK1 hb;clear hb hbox hg;have:=NB1_2.out;have:=NB2_1.out;have ⟨_,_⟩:=cf1 BK1;have ⟨_,_,_,_⟩:=cf2 BK2) | ((with_reducible refine gC 111 rfl ?_);refine gL (some 8) Tryz.func111 #[.agg #[.slice A0_0 l0_0.length c0_0],.agg #[.int .i64 a1_0,.int .i64 a1_1]] ?_;(with_reducible refine (spec_l3Find.calls k _ _ l0_0 a1_0 a1_1 t0 _ ?side1 ?side2 A3.out).mono ?_);(case side1=>exact m5_);(case side2=>exact HC0_0.out);rintro e w16 ⟨rfl,hb⟩;refine ⟨_,rfl,?_⟩;replace BK1:=bkB BK1 hb;replace BK2:=bkB BK2 hb;replace HB:=hbS HB hb;(try clear hb)))
  go_ret
  exact ⟨fi_,m4_⟩
def spec_l3Put.f (k : Nat) (l0_0 : List (S54)) (a1_0 : Int) (a1_1 : Int) : Option ((List (S54)) × Int):=(spec_MapPort.f k l0_0 a1_0 a1_1).bind fun t449=>(if t449 > 0 then (some (l0_0,t449)) else (if (l0_0.length : Int) = 6 then (some (l0_0,0)) else ((some (([] : List (S54)) : List (S54))).bind fun y450=>(if y450.length + l0_0.length < 8796093022208 then ((some (y450 ++ l0_0 : List (S54))).bind fun y453=>((some (([(⟨a1_0,a1_1⟩ : S54)] : List (S54)) : List (S54))).bind fun y456=>(if y453.length + y456.length < 8796093022208 then ((some (y453 ++ y456 : List (S54))).bind fun y459=>(some (y459,wrap64 ((wrap64 (500 + (y459.length : Int))) - 1)))) else (none)))) else (none)))))
theorem spec_l3Put.mono : ∀ a0 a1 a2 k,LeO (spec_l3Put.f k a0 a1 a2) (spec_l3Put.f (k + 1) a0 a1 a2):=by
 intro a0 a1 a2 k;unfold spec_l3Put.f
 repeat' first | (with_reducible first | exact spec_MapPort.mono _ _ _ _ | exact LeO.refl _ | exact LeO.none _ | refine LeO.ite ?_ ?_ | refine LeO.bind ?_ (fun _=>?_)) | exact spec_MapPort.mono _ _ _ _ | exact LeO.none _ | refine LeO.ite ?_ ?_ | refine LeO.bind ?_ (fun _=>?_)
def spec_l3Put.T6 : Bool × List (List Nat × List Nat):=(true,[([],[]),([],[]),([1],[1]),([0,2],[0,2]),([],[]),([4],[4]),([3,5,3],[3,5]),([0,1,2,3,4,5,6],[]),([7,6,6,0,1,2,3,4,5,6],[6,7])])
def spec_l3Put.B6 : List Nat:=[0,0,2,7,0,16,63,127,255]
theorem spec_l3Put.tab6 : rtab .any (opsOf Tryz.f71 6) = spec_l3Put.T6:=by kernel_rfl
theorem spec_l3Put.bits6 : waitsOk spec_l3Put.T6.2 spec_l3Put.B6 = true:=by kernel_rfl
def spec_l3Put.T7 : Bool × List (List Nat × List Nat):=(true,[([],[]),([],[]),([1],[1]),([2],[2]),([3],[3]),([4],[4]),([0,0],[0]),([5,6,0,1,2,3,4,5,6],[5])])
def spec_l3Put.B7 : List Nat:=[0,0,2,6,14,30,1,127]
theorem spec_l3Put.tab7 : rtab .any (opsOf Tryz.f71 7) = spec_l3Put.T7:=by kernel_rfl
theorem spec_l3Put.bits7 : waitsOk spec_l3Put.T7.2 spec_l3Put.B7 = true:=by kernel_rfl
set_option maxHeartbeats 8000000 in
set_option maxRecDepth 100000 in
theorem spec_l3Put.calls (k : Nat) (P0_0_ : Nat → Prop) (A0_0 : Option Addr) (c0_0 : Nat) (l0_0 : List (S54)) (a1_0 : Int) (a1_1 : Int) (r1 : List (S54)) (r2 : Int) (w : World) (hs0_0 : Kd.V k54 54 w w.heap.size (fun k_=>P0_0_ k_) (.slice A0_0 l0_0.length c0_0) l0_0) (h : spec_l3Put.f k l0_0 a1_0 a1_1 = some (r1,r2)) :
  Calls Tryz.prog 71 #[.agg #[.slice A0_0 l0_0.length c0_0],.agg #[.int .i64 a1_0,.int .i64 a1_1]] w fun e w'=>∃ v0_ : Value,e = .returned (.tuple #[.agg #[v0_],.int .i64 r2]) ∧ Kd.V k54 54 w' w.heap.size (fun k_=>(P0_0_ k_ ∨ w.heap.size ≤ k_)) v0_ r1 ∧ Below w.heap.size w w':=by
 have hu27:=Tryz.underlying27;have hu54:=Tryz.underlying54;have HO0_0:=am (show Kd.V k54 54 w w.heap.size (fun k_=>(P0_0_ k_ ∨ w.heap.size ≤ k_)) (.slice A0_0 l0_0.length c0_0) l0_0 from Kd.V_mono hs0_0 (fun k_ hk=>.inl hk));have HB:=am (Below.refl w.heap.size w);have H : ((spec_MapPort.f k l0_0 a1_0 a1_1).bind fun t1=>(if t1 > 0 then (some (l0_0,t1)) else (if (l0_0.length : Int) = 6 then (some (l0_0,0)) else ((some (([] : List (S54)) : List (S54))).bind fun y2=>(if y2.length + l0_0.length < 8796093022208 then ((some (y2 ++ l0_0 : List (S54))).bind fun y3=>((some (([(⟨a1_0,a1_1⟩ : S54)] : List (S54)) : List (S54))).bind fun y4=>(if y3.length + y4.length < 8796093022208 then ((some (y3 ++ y4 : List (S54))).bind fun y5=>(some (y5,wrap64 ((wrap64 (500 + (y5.length : Int))) - 1)))) else (none)))) else (none)))))) = some (r1,r2):=h;clear h;obtain ⟨t1,A3,H⟩:=bse H
 try dsimp only at H
 by_cases c4 : t1 > 0
 ·rw [if_pos c4] at H;have c4b0 : decide (0 < t1) = true:=decide_eq_true c4;clear c4;simp only [Option.some.injEq,Prod.mk.injEq] at H;obtain ⟨rfl,rfl⟩:=H
  go_enter Tryz.func71,Tryz.ntmps71
  go_wp2_with (first | ((with_reducible refine gD 2 rfl ?_);refine box_event rfl (N:=2) rfl (cs:=#[.slice A0_0 l0_0.length c0_0]) (t:=27) hr_ ?_;intro gb6 hg w5 hbox hb;replace HO0_0:=am (Kd.V_below (Kd.V_elderB (by (with_reducible repeat (first | apply Kd.V_alloc | apply Kd.V_drewN | apply Kd.V_drew));exact HO0_0.out) gb6 (Nat.le_of_eq hg.symm)) hb);have BK6:=am hbox;have GW6:=gwE HB hg;have GE6:=gwE HB hg;replace HB:=hbS HB hb;clear hb hbox hg) | ((with_reducible refine gD 3 rfl ?_);refine box_event rfl (N:=3) rfl (cs:=#[.int .i64 a1_0,.int .i64 a1_1]) (t:=54) hr_ ?_;intro gb7 hg w6 hbox hb;replace HO0_0:=am (Kd.V_below (Kd.V_elderB (by (with_reducible repeat (first | apply Kd.V_alloc | apply Kd.V_drewN | apply Kd.V_drew));exact HO0_0.out) gb7 (Nat.le_of_eq hg.symm)) hb);have BK7:=am hbox;have GW7:=gwE HB hg;have GE7:=gwE HB hg;replace HB:=hbS HB hb;have NB6_7:=neL BK6 hg;have NB7_6:=neG BK6 hg;replace BK6:=bkB BK6 hb;clear hb hbox hg) | ((with_reducible refine gD 4 rfl ?_);refine box_event rfl (N:=4) rfl (cs:=#[.slice none 0 0]) (t:=27) hr_ ?_;intro gb8 hg w7 hbox hb;replace HO0_0:=am (Kd.V_below (Kd.V_elderB (by (with_reducible repeat (first | apply Kd.V_alloc | apply Kd.V_drewN | apply Kd.V_drew));exact HO0_0.out) gb8 (Nat.le_of_eq hg.symm)) hb);have BK8:=am hbox;have GW8:=gwE HB hg;have GE8:=gwE HB hg;replace HB:=hbS HB hb;have NB6_8:=neL BK6 hg;have NB8_6:=neG BK6 hg;replace BK6:=bkB BK6 hb;have NB7_8:=neL BK7 hg;have NB8_7:=neG BK7 hg;replace BK7:=bkB BK7 hb;clear hb hbox hg;have:=NB6_7.out;have:=NB7_6.out;have:=NB6_8.out;have:=NB8_6.out;have ⟨_,_⟩:=cf1 BK6;have:=NB7_8.out;have:=NB8_7.out;have ⟨_,_,_,_⟩:=cf2 BK7) | ((with_reducible refine gC 113 rfl ?_);refine gL (some 9) Tryz.func113 #[.agg #[.slice A0_0 l0_0.length c0_0],.agg #[.int .i64 a1_0,.int .i64 a1_1]] ?_;(with_reducible refine (spec_MapPort.calls k _ _ l0_0 a1_0 a1_1 t1 _ ?side1 ?side2 A3.out).mono ?_);(case side1=>repeat (first | exact (Kd.V_reads' HO0_0.out).2.2 | (with_reducible refine Kd.C_alloc ?_ _) | (with_reducible refine Kd.C_drewN ?_ _) | (with_reducible refine Kd.C_drew ?_)));(case side2=>exact (Kd.V_reads' HO0_0.out).2.1);rintro e w13 ⟨rfl,hb⟩;refine ⟨_,rfl,?_⟩;replace HO0_0:=am (Kd.V_below (by (with_reducible repeat (first | apply Kd.V_alloc | apply Kd.V_drewN | apply Kd.V_drew));exact HO0_0.out) hb);replace BK6:=bkB BK6 hb;replace BK7:=bkB BK7 hb;replace BK8:=bkB BK8 hb;replace HB:=hbS HB hb;(try clear hb);have ⟨_,_⟩:=cf1 BK6;have ⟨_,_⟩:=cf1 BK8))
  refine bodyPost_ret (results_ct rfl _ _ gb8 27 #[.slice A0_0 l0_0.length c0_0] (0,0) _ rfl (by (with_reducible repeat refine bu ?_);refine blk_put (cs:=#[.slice none 0 0]) ?_ 0 _ rfl;(with_reducible repeat refine bu ?_);exact BK8.out) Tryz.underlying27 rfl (by kernel_rfl)) rfl ?_;exact ⟨_,fi_,by (with_reducible repeat (first | apply Kd.V_alloc | apply Kd.V_drewN | apply Kd.V_drew));exact Kd.V_mono (Kd.V_far (p:=⟨gb8,0,none⟩) (Kd.V_mono HO0_0.out (fun k_ hk=>(⟨hk,hk.2⟩ : _ ∧ k_ ≠ gb8))) (fun _ hk=>hk.2) (.slice A0_0 l0_0.length c0_0)) (fun _ hk=>hk.1.1.1.1),m4_⟩
 ·rw [if_neg c4] at H;have c4b0 : decide (0 < t1) = false:=decide_eq_false c4;clear c4
  by_cases c16 : (l0_0.length : Int) = 6
  ·rw [if_pos c16] at H;have c16b0 : ((l0_0.length : Int) == 6) = true:=beq_iff_eq.mpr c16;have c16b1 : ((l0_0.length : Int) != 6) = false:=bne_eq_false_iff_eq.mpr c16;clear c16;simp only [Option.some.injEq,Prod.mk.injEq] at H;obtain ⟨rfl,rfl⟩:=H
   go_enter Tryz.func71,Tryz.ntmps71
   go_wp2_with (first | ((with_reducible refine gD 2 rfl ?_);refine box_event rfl (N:=2) rfl (cs:=#[.slice A0_0 l0_0.length c0_0]) (t:=27) hr_ ?_;intro gb6 hg w17 hbox hb;replace HO0_0:=am (Kd.V_below (Kd.V_elderB (by (with_reducible repeat (first | apply Kd.V_alloc | apply Kd.V_drewN | apply Kd.V_drew));exact HO0_0.out) gb6 (Nat.le_of_eq hg.symm)) hb);have BK6:=am hbox;have GW6:=gwE HB hg;have GE6:=gwE HB hg;replace HB:=hbS HB hb;clear hb hbox hg) | ((with_reducible refine gD 3 rfl ?_);refine box_event rfl (N:=3) rfl (cs:=#[.int .i64 a1_0,.int .i64 a1_1]) (t:=54) hr_ ?_;intro gb7 hg w18 hbox hb;replace HO0_0:=am (Kd.V_below (Kd.V_elderB (by (with_reducible repeat (first | apply Kd.V_alloc | apply Kd.V_drewN | apply Kd.V_drew));exact HO0_0.out) gb7 (Nat.le_of_eq hg.symm)) hb);have BK7:=am hbox;have GW7:=gwE HB hg;have GE7:=gwE HB hg;replace HB:=hbS HB hb;have NB6_7:=neL BK6 hg;have NB7_6:=neG BK6 hg;replace BK6:=bkB BK6 hb;clear hb hbox hg) | ((with_reducible refine gD 4 rfl ?_);refine box_event rfl (N:=4) rfl (cs:=#[.slice none 0 0]) (t:=27) hr_ ?_;intro gb8 hg w19 hbox hb;replace HO0_0:=am (Kd.V_below (Kd.V_elderB (by (with_reducible repeat (first | apply Kd.V_alloc | apply Kd.V_drewN | apply Kd.V_drew));exact HO0_0.out) gb8 (Nat.le_of_eq hg.symm)) hb);have BK8:=am hbox;have GW8:=gwE HB hg;have GE8:=gwE HB hg;replace HB:=hbS HB hb;have NB6_8:=neL BK6 hg;have NB8_6:=neG BK6 hg;replace BK6:=bkB BK6 hb;have NB7_8:=neL BK7 hg;have NB8_7:=neG BK7 hg;replace BK7:=bkB BK7 hb;clear hb hbox hg;have:=NB6_7.out;have:=NB7_6.out;have:=NB6_8.out;have:=NB8_6.out;have ⟨_,_⟩:=cf1 BK6;have:=NB7_8.out;have:=NB8_7.out;have ⟨_,_,_,_⟩:=cf2 BK7) | ((with_reducible refine gC 113 rfl ?_);refine gL (some 9) Tryz.func113 #[.agg #[.slice A0_0 l0_0.length c0_0],.agg #[.int .i64 a1_0,.int .i64 a1_1]] ?_;(with_reducible refine (spec_MapPort.calls k _ _ l0_0 a1_0 a1_1 t1 _ ?side1 ?side2 A3.out).mono ?_);(case side1=>repeat (first | exact (Kd.V_reads' HO0_0.out).2.2 | (with_reducible refine Kd.C_alloc ?_ _) | (with_reducible refine Kd.C_drewN ?_ _) | (with_reducible refine Kd.C_drew ?_)));(case side2=>exact (Kd.V_reads' HO0_0.out).2.1);rintro e w25 ⟨rfl,hb⟩;refine ⟨_,rfl,?_⟩;replace HO0_0:=am (Kd.V_below (by (with_reducible repeat (first | apply Kd.V_alloc | apply Kd.V_drewN | apply Kd.V_drew));exact HO0_0.out) hb);replace BK6:=bkB BK6 hb;replace BK7:=bkB BK7 hb;replace BK8:=bkB BK8 hb;replace HB:=hbS HB hb;(try clear hb);have ⟨_,_⟩:=cf1 BK6;have ⟨_,_⟩:=cf1 BK8))
   refine bodyPost_ret (results_ct rfl _ _ gb8 27 #[.slice A0_0 l0_0.length c0_0] (0,0) _ rfl (by (with_reducible repeat refine bu ?_);refine blk_put (cs:=#[.slice none 0 0]) ?_ 0 _ rfl;(with_reducible repeat refine bu ?_);exact BK8.out) Tryz.underlying27 rfl (by kernel_rfl)) rfl ?_;exact ⟨_,fi_,by (with_reducible repeat (first | apply Kd.V_alloc | apply Kd.V_drewN | apply Kd.V_drew));exact Kd.V_mono (Kd.V_far (p:=⟨gb8,0,none⟩) (Kd.V_mono HO0_0.out (fun k_ hk=>(⟨hk,hk.2⟩ : _ ∧ k_ ≠ gb8))) (fun _ hk=>hk.2) (.slice A0_0 l0_0.length c0_0)) (fun _ hk=>hk.1.1.1.1),m4_⟩
  ·rw [if_neg c16] at H;have c16b0 : ((l0_0.length : Int) == 6) = false:=beq_eq_false_iff_ne.mpr c16;have c16b1 : ((l0_0.length : Int) != 6) = true:=bne_iff_ne.mpr c16;obtain ⟨y2,hy2⟩ : ∃ y_ : List (S54),y_ = (([] : List (S54))):=⟨_,rfl⟩;replace H : (if y2.length + l0_0.length < 8796093022208 then ((some (y2 ++ l0_0 : List (S54))).bind fun y3=>((some (([(⟨a1_0,a1_1⟩ : S54)] : List (S54)) : List (S54))).bind fun y4=>(if y3.length + y4.length < 8796093022208 then ((some (y3 ++ y4 : List (S54))).bind fun y5=>(some (y5,wrap64 ((wrap64 (500 + (y5.length : Int))) - 1)))) else (none)))) else (none)) = some (r1,r2):=by first | (rw [hy2];with_reducible exact H) | (have H2_:=(Option.bind_some _ _).symm.trans H;rw [hy2];with_reducible exact H2_) | (have H2_:=(Option.bind_some _ _).symm.trans H;with_reducible exact H2_) | with_reducible exact H | (rw [hy2];exact H) | exact H
   have Ny2:=am hy2;clear hy2
   by_cases c28 : y2.length + l0_0.length < 8796093022208
   ·rw [if_pos c28] at H;have LMc28:=am c28;clear c28;obtain ⟨y3,hy3⟩ : ∃ y_ : List (S54),y_ = (y2 ++ l0_0):=⟨_,rfl⟩;replace H : ((some (([(⟨a1_0,a1_1⟩ : S54)] : List (S54)) : List (S54))).bind fun y4=>(if y3.length + y4.length < 8796093022208 then ((some (y3 ++ y4 : List (S54))).bind fun y5=>(some (y5,wrap64 ((wrap64 (500 + (y5.length : Int))) - 1)))) else (none))) = some (r1,r2):=by first | (rw [hy3];with_reducible exact H) | (have H2_:=(Option.bind_some _ _).symm.trans H;rw [hy3];with_reducible exact H2_) | (have H2_:=(Option.bind_some _ _).symm.trans H;with_reducible exact H2_) | with_reducible exact H | (rw [hy3];exact H) | exact H
    have Ny3:=am hy3;clear hy3;obtain ⟨y4,hy4⟩ : ∃ y_ : List (S54),y_ = (([(⟨a1_0,a1_1⟩ : S54)] : List (S54))):=⟨_,rfl⟩;replace H : (if y3.length + y4.length < 8796093022208 then ((some (y3 ++ y4 : List (S54))).bind fun y5=>(some (y5,wrap64 ((wrap64 (500 + (y5.length : Int))) - 1)))) else (none)) = some (r1,r2):=by first | (rw [hy4];with_reducible exact H) | (have H2_:=(Option.bind_some _ _).symm.trans H;rw [hy4];with_reducible exact H2_) | (have H2_:=(Option.bind_some _ _).symm.trans H;with_reducible exact H2_) | with_reducible exact H | (rw [hy4];exact H) | exact H
    have Ny4:=am hy4;clear hy4
    by_cases c29 : y3.length + y4.length < 8796093022208
    ·rw [if_pos c29] at H;have LMc29:=am c29;clear c29;obtain ⟨y5,hy5⟩ : ∃ y_ : List (S54),y_ = (y3 ++ y4):=⟨_,rfl⟩;replace H : (some (y5,wrap64 ((wrap64 (500 + (y5.length : Int))) - 1))) = some (r1,r2):=by first | (rw [hy5];with_reducible exact H) | (have H2_:=(Option.bind_some _ _).symm.trans H;rw [hy5];with_reducible exact H2_) | (have H2_:=(Option.bind_some _ _).symm.trans H;with_reducible exact H2_) | with_reducible exact H | (rw [hy5];exact H) | exact H
     have Ny5:=am hy5;clear hy5;simp only [Option.some.injEq,Prod.mk.injEq] at H;obtain ⟨rfl,rfl⟩:=H
     go_enter Tryz.func71,Tryz.ntmps71
     try go_wp2_with (first | ((with_reducible refine gD 2 rfl ?_);refine box_event rfl (N:=2) rfl (cs:=#[.slice A0_0 l0_0.length c0_0]) (t:=27) hr_ ?_;intro gb6 hg w30 hbox hb;replace HO0_0:=am (Kd.V_below (Kd.V_elderB (by (with_reducible repeat (first | apply Kd.V_alloc | apply Kd.V_drewN | apply Kd.V_drew));exact HO0_0.out) gb6 (Nat.le_of_eq hg.symm)) hb);have BK6:=am hbox;have GW6:=gwE HB hg;have GE6:=gwE HB hg;replace HB:=hbS HB hb;clear hb hbox hg) | ((with_reducible refine gD 3 rfl ?_);refine box_event rfl (N:=3) rfl (cs:=#[.int .i64 a1_0,.int .i64 a1_1]) (t:=54) hr_ ?_;intro gb7 hg w31 hbox hb;replace HO0_0:=am (Kd.V_below (Kd.V_elderB (by (with_reducible repeat (first | apply Kd.V_alloc | apply Kd.V_drewN | apply Kd.V_drew));exact HO0_0.out) gb7 (Nat.le_of_eq hg.symm)) hb);have BK7:=am hbox;have GW7:=gwE HB hg;have GE7:=gwE HB hg;replace HB:=hbS HB hb;have NB6_7:=neL BK6 hg;have NB7_6:=neG BK6 hg;replace BK6:=bkB BK6 hb;clear hb hbox hg) | ((with_reducible refine gD 4 rfl ?_);refine box_event rfl (N:=4) rfl (cs:=#[.slice none 0 0]) (t:=27) hr_ ?_;intro gb8 hg w32 hbox hb;replace HO0_0:=am (Kd.V_below (Kd.V_elderB (by (with_reducible repeat (first | apply Kd.V_alloc | apply Kd.V_drewN | apply Kd.V_drew));exact HO0_0.out) gb8 (Nat.le_of_eq hg.symm)) hb);have BK8:=am hbox;have GW8:=gwE HB hg;have GE8:=gwE HB hg;replace HB:=hbS HB hb;have NB6_8:=neL BK6 hg;have NB8_6:=neG BK6 hg;replace BK6:=bkB BK6 hb;have NB7_8:=neL BK7 hg;have NB8_7:=neG BK7 hg;replace BK7:=bkB BK7 hb;clear hb hbox hg;have:=NB6_7.out;have:=NB7_6.out;have:=NB6_8.out;have:=NB8_6.out;have ⟨_,_⟩:=cf1 BK6;have:=NB7_8.out;have:=NB8_7.out;have ⟨_,_,_,_⟩:=cf2 BK7) | ((with_reducible refine gC 113 rfl ?_);refine gL (some 9) Tryz.func113 #[.agg #[.slice A0_0 l0_0.length c0_0],.agg #[.int .i64 a1_0,.int .i64 a1_1]] ?_;(with_reducible refine (spec_MapPort.calls k _ _ l0_0 a1_0 a1_1 t1 _ ?side1 ?side2 A3.out).mono ?_);(case side1=>repeat (first | exact (Kd.V_reads' HO0_0.out).2.2 | (with_reducible refine Kd.C_alloc ?_ _) | (with_reducible refine Kd.C_drewN ?_ _) | (with_reducible refine Kd.C_drew ?_)));(case side2=>exact (Kd.V_reads' HO0_0.out).2.1);rintro e w38 ⟨rfl,hb⟩;refine ⟨_,rfl,?_⟩;replace HO0_0:=am (Kd.V_below (by (with_reducible repeat (first | apply Kd.V_alloc | apply Kd.V_drewN | apply Kd.V_drew));exact HO0_0.out) hb);replace BK6:=bkB BK6 hb;replace BK7:=bkB BK7 hb;replace BK8:=bkB BK8 hb;replace HB:=hbS HB hb;(try clear hb);have ⟨_,_⟩:=cf1 BK6))
     replace HO0_0:=am (Kd.V_drew HO0_0.out);replace BK6:=am (blk_drew BK6.out);replace BK7:=am (blk_drew BK7.out);replace BK8:=am (blk_drew BK8.out);replace HB:=am (below_drew1 HB.out);refine start_ (n:=9) (S:=fun w'=>w'.cell? ⟨gb6,0,none⟩ = some (.slice A0_0 l0_0.length c0_0) ∧ w'.cell? ⟨gb7,0,none⟩ = some (.int .i64 a1_0) ∧ w'.cell? ⟨gb7,1,none⟩ = some (.int .i64 a1_1)) (ds:=[8]) #[false,false,false,false,false,false,false,false,false] (by kernel_rfl) rfl rfl ⟨bcell BK6 0,bcell BK7 0,bcell BK7 1⟩ (fun hHeld=>?_);refine with_tabW spec_l3Put.tab6 spec_l3Put.bits6 (fun HT_ HW_=>?_);generalize w38.drew = w40 at HO0_0 BK6 BK7 BK8 HB hHeld ⊢;refine pu_ 1 (some 20) (bm 9 2) ?_;refine tk_ 2 (some 21) (bm 9 6) rfl (.inl ⟨rfl,m6_⟩) ?_;refine tk_ 4 (some 23) (bm 9 22) rfl (.inl ⟨rfl,m6_⟩) ?_;refine join_ (σ:=Value × Value × Value) 3 #[true,true,true,true,true,true,false,false,false] (fun s_=>[(19,s_.1),(22,s_.2.1),(24,s_.2.2)]) (fun s_ w'=>(w'.cell? ⟨gb6,0,none⟩ = some (.slice A0_0 l0_0.length c0_0) ∧ w'.cell? ⟨gb7,0,none⟩ = some (.int .i64 a1_0) ∧ w'.cell? ⟨gb7,1,none⟩ = some (.int .i64 a1_1)) ∧ (Kd.V k54 54 w' w.heap.size (fun k_=>(P0_0_ k_ ∨ w.heap.size ≤ k_) ∧ some k_ ≠ (s_.2.1 : Value).ownBlock ∧ some k_ ≠ (s_.2.2 : Value).ownBlock ∧ k_ ≠ gb6 ∧ k_ ≠ gb7 ∧ k_ ≠ gb8) (.slice A0_0 l0_0.length c0_0) l0_0) ∧ (Kd.R k54 54 w' w.heap.size (fun k_=>(w.heap.size ≤ k_) ∧ some k_ ≠ (s_.2.2 : Value).ownBlock ∧ k_ ≠ gb7) s_.2.1 y3) ∧ (Kd.R k54 54 w' w.heap.size (fun k_=>(w.heap.size ≤ k_) ∧ some k_ ≠ (s_.2.1 : Value).ownBlock ∧ k_ ≠ gb7) s_.2.2 y4) ∧ (w'.heap[gb6]? = some (.cells #[.slice A0_0 l0_0.length c0_0] 27 (0,0))) ∧ (w'.heap[gb7]? = some (.cells #[.int .i64 a1_0,.int .i64 a1_1] 54 (0,0))) ∧ (w'.heap[gb8]? = some (.cells #[.slice none 0 0] 27 (0,0))) ∧ (Below w.heap.size w w')) ?_ ?_
     rotate_left
     ·intro hCont;refine two_ (i:=0) (j:=5) (Ni:=some 19) (Nj:=some 24) #[true,true,true,false,true,false,false,false,false] #[false,true,true,false,true,true,false,false,false] rfl rfl rfl rfl (two_of HT_.out (by kernel_rfl)) (by decide) (by decide) (fun K hK=>?_) (fun K hK=>?_)
      ·skip
       refine Kd.R_lit_step k54 _ 54 rfl (N:=19) rfl (xs:=([] : List (S54))) (inner:=[]) (ok:=fun _=>True) (okp:=fun _=>True) hr_ ?hp (fun _ hk=>hk) trivial (Below.refl _ _) (Nat.le_refl _) (by simp) ?_;(case hp=>exact (Reps.none _ _));intro v9 w41 ho42 hb hg_ hnew_;clear hg_ hnew_;(first | rw [← Ny2.out] at ho42 | (simp only [Int.reduceToNat] at ho42;rw [← Ny2.out] at ho42));replace HO0_0:=am (Kd.V_elder' (by (with_reducible repeat (first | apply Kd.V_alloc | apply Kd.V_drewN | apply Kd.V_drew));exact HO0_0.out) (Kd.R_base ho42) hb);have HO10:=am (Kd.R_lower (Kd.R_newB (Kd.R_newM (M:=fun k_=>(w.heap.size ≤ k_)) ho42 (below_size (bl HB)) (fun k_ h_=>h_)) (g:=gb7) (o:=.cells #[.int .i64 a1_0,.int .i64 a1_1] 54 (0,0)) (bk BK7)) (below_size (bl HB)));replace BK6:=bkB BK6 hb;replace BK7:=bkB BK7 hb;replace BK8:=bkB BK8 hb;replace HB:=hbS HB hb;clear hb ho42;refine hK.out _ _ ⟨bcell BK6 0,bcell BK7 0,bcell BK7 1⟩ (fun hHeld=>?_);clear hK K;refine nm_ ?_;refine two_ (i:=3) (j:=5) (Ni:=some 22) (Nj:=some 24) #[true,true,true,true,true,false,false,false,false] #[true,true,true,false,true,true,false,false,false] rfl rfl rfl rfl (two_of HT_.out (by kernel_rfl)) (by decide) (by decide) (fun K hK=>?_) (fun K hK=>?_)
       ·skip
        refine Kd.R_append_rows_step k54 (w0:=w) w.heap.size (by rfl) (.tmp 19) (.tmp 21) 25 54 (.agg #[(.int .i64 0),(.int .i64 0)]) 16 rfl Tryz.underlying25 info54 rfl (by decide) (by omega) v9 y2 l0_0 _ _ _ (fun k_=>(w.heap.size ≤ k_) ∧ k_ ≠ gb7) (fun _=>False) rfl rfl ?aO ?aR (fun _ _ h=>h) (fun _ h=>h.elim) ?aF ?aB ?aS ?aL ?_
        (case aR=>repeat (first | exact (Kd.V_reads' HO0_0.out).2.2 | (with_reducible refine Kd.C_alloc ?_ _) | (with_reducible refine Kd.C_drewN ?_ _) | (with_reducible refine Kd.C_drew ?_)))
        (case aB=>exact (bl HB))
        (case aF=>exact (fun k_ hk=>⟨(Nat.le_trans (below_size (bl HB)) hk),Kd.freshB (g:=gb7) (o:=.cells #[.int .i64 a1_0,.int .i64 a1_1] 54 (0,0)) (bk BK7) k_ hk⟩))
        (case aO=>exact (by (with_reducible repeat apply ru);exact Kd.R_mono HO10.out ok_))
        (case aS=>exact (below_size (bl HB)))
        (case aL=>have:=LMc28.out;omega)
        intro v11 w43 ho hb hg hat;rw [← Ny3.out] at ho;replace HO0_0:=am (Kd.V_afterv (ok:=(fun k_=>(P0_0_ k_ ∨ w.heap.size ≤ k_) ∧ k_ ≠ gb6 ∧ k_ ≠ gb7 ∧ k_ ≠ gb8)) (by (with_reducible repeat (first | apply Kd.V_alloc | apply Kd.V_drewN | apply Kd.V_drew));exact Kd.V_mono HO0_0.out ok_) hg hat);replace BK6:=am (blk_grown (g:=gb6) (o:=.cells #[.slice A0_0 l0_0.length c0_0] 27 (0,0)) (bk BK6) hg (Kd.R_ne HO10.out BK6.out (by decide)));replace BK7:=am (blk_grown (g:=gb7) (o:=.cells #[.int .i64 a1_0,.int .i64 a1_1] 54 (0,0)) (bk BK7) hg (Kd.R_away HO10.out (fun _ hk=>hk.2)));replace BK8:=am (blk_grown (g:=gb8) (o:=.cells #[.slice none 0 0] 27 (0,0)) (bk BK8) hg (Kd.R_ne HO10.out BK8.out (by decide)));replace HB:=am hb;have HO12:=am (ho);clear HO10;clear ho hb hg hat;refine hK.out _ _ ⟨bcell BK6 0,bcell BK7 0,bcell BK7 1⟩ (fun hHeld=>?_);clear hK K;refine nm_ ?_;refine on_ 5 (some 24) (bm 9 63) (fun K hK=>?_);refine Kd.R_lit_step k54 _ 54 rfl (N:=24) rfl (xs:=([(⟨a1_0,a1_1⟩ : S54)] : List (S54))) (inner:=[.int .i64 a1_0,.int .i64 a1_1]) (ok:=fun _=>True) (okp:=fun _=>True) hr_ ?hp (fun _ hk=>hk) trivial (Below.refl _ _) (Nat.le_refl _) (by simp) ?_;(case hp=>exact (Reps.c2 (show Kd.M k54 _ _ _ (⟨a1_0,a1_1⟩ : S54) [.int .i64 a1_0,.int .i64 a1_1] from (k54_mkM _ _ _ (⟨a1_0,a1_1⟩ : S54) )) (Reps.none _ _)));intro v13 w44 ho45 hb hg_ hnew_;clear hg_ hnew_;(first | rw [← Ny4.out] at ho45 | (simp only [Int.reduceToNat] at ho45;rw [← Ny4.out] at ho45));replace HO0_0:=am (Kd.V_elder' (by (with_reducible repeat (first | apply Kd.V_alloc | apply Kd.V_drewN | apply Kd.V_drew));exact HO0_0.out) (Kd.R_base ho45) hb);have HO14:=am (Kd.R_lower (Kd.R_newB (Kd.R_new' (Kd.R_newM (M:=fun k_=>(w.heap.size ≤ k_)) ho45 (below_size (bl HB)) (fun k_ h_=>h_)) (Kd.R_lt (rs HO12))) (g:=gb7) (o:=.cells #[.int .i64 a1_0,.int .i64 a1_1] 54 (0,0)) (bk BK7)) (below_size (bl HB)));replace HO12:=am (Kd.R_elder' (rs HO12) (Kd.R_base ho45) hb);replace BK6:=bkB BK6 hb;replace BK7:=bkB BK7 hb;replace BK8:=bkB BK8 hb;replace HB:=hbS HB hb;clear hb ho45;refine hK.out _ _ ⟨bcell BK6 0,bcell BK7 0,bcell BK7 1⟩ (fun hHeld=>?_);clear hK K;refine nm_ ?_;exact norm_ (by simp only [putAll,Act.put,List.setIfInBounds_toArray,List.set_cons_zero,List.set_cons_succ]) (hCont (v9,v11,v13) _ ⟨hHeld,(by (with_reducible repeat (first | apply Kd.V_alloc | apply Kd.V_drewN | apply Kd.V_drew));exact Kd.V_mono HO0_0.out ok_),(by (with_reducible repeat apply ru);exact Kd.R_mono HO12.out ok_),(by (with_reducible repeat apply ru);exact Kd.R_mono HO14.out ok_),(bk BK6),(bk BK7),(bk BK8),(bl HB)⟩)
       ·skip
        refine Kd.R_lit_step k54 _ 54 rfl (N:=24) rfl (xs:=([(⟨a1_0,a1_1⟩ : S54)] : List (S54))) (inner:=[.int .i64 a1_0,.int .i64 a1_1]) (ok:=fun _=>True) (okp:=fun _=>True) hr_ ?hp (fun _ hk=>hk) trivial (Below.refl _ _) (Nat.le_refl _) (by simp) ?_;(case hp=>exact (Reps.c2 (show Kd.M k54 _ _ _ (⟨a1_0,a1_1⟩ : S54) [.int .i64 a1_0,.int .i64 a1_1] from (k54_mkM _ _ _ (⟨a1_0,a1_1⟩ : S54) )) (Reps.none _ _)));intro v13 w43 ho44 hb hg_ hnew_;clear hg_ hnew_;(first | rw [← Ny4.out] at ho44 | (simp only [Int.reduceToNat] at ho44;rw [← Ny4.out] at ho44));replace HO0_0:=am (Kd.V_elder' (by (with_reducible repeat (first | apply Kd.V_alloc | apply Kd.V_drewN | apply Kd.V_drew));exact HO0_0.out) (Kd.R_base ho44) hb);have HO14:=am (Kd.R_lower (Kd.R_newB (Kd.R_new' (Kd.R_newM (M:=fun k_=>(w.heap.size ≤ k_)) ho44 (below_size (bl HB)) (fun k_ h_=>h_)) (Kd.R_lt (rs HO10))) (g:=gb7) (o:=.cells #[.int .i64 a1_0,.int .i64 a1_1] 54 (0,0)) (bk BK7)) (below_size (bl HB)));replace HO10:=am (Kd.R_elder' (rs HO10) (Kd.R_base ho44) hb);replace BK6:=bkB BK6 hb;replace BK7:=bkB BK7 hb;replace BK8:=bkB BK8 hb;replace HB:=hbS HB hb;clear hb ho44;refine hK.out _ _ ⟨bcell BK6 0,bcell BK7 0,bcell BK7 1⟩ (fun hHeld=>?_);clear hK K;refine nm_ ?_;refine on_ 3 (some 22) (bm 9 63) (fun K hK=>?_);refine Kd.R_append_rows_step k54 (w0:=w) w.heap.size (by rfl) (.tmp 19) (.tmp 21) 25 54 (.agg #[(.int .i64 0),(.int .i64 0)]) 16 rfl Tryz.underlying25 info54 rfl (by decide) (by omega) v9 y2 l0_0 _ _ _ (fun k_=>(w.heap.size ≤ k_) ∧ some k_ ≠ (v13 : Value).ownBlock ∧ k_ ≠ gb7) (fun _=>False) rfl rfl ?aO ?aR (fun _ _ h=>h) (fun _ h=>h.elim) ?aF ?aB ?aS ?aL ?_
        (case aR=>repeat (first | exact (Kd.V_reads' HO0_0.out).2.2 | (with_reducible refine Kd.C_alloc ?_ _) | (with_reducible refine Kd.C_drewN ?_ _) | (with_reducible refine Kd.C_drew ?_)))
        (case aB=>exact (bl HB))
        (case aF=>exact (fun k_ hk=>⟨(Nat.le_trans (below_size (bl HB)) hk),Kd.fresh' (Kd.R_lt (rs HO14)) k_ hk,Kd.freshB (g:=gb7) (o:=.cells #[.int .i64 a1_0,.int .i64 a1_1] 54 (0,0)) (bk BK7) k_ hk⟩))
        (case aO=>exact (by (with_reducible repeat apply ru);exact Kd.R_mono HO10.out ok_))
        (case aS=>exact (below_size (bl HB)))
        (case aL=>have:=LMc28.out;omega)
        intro v11 w45 ho hb hg hat;rw [← Ny3.out] at ho;replace HO0_0:=am (Kd.V_afterv (ok:=(fun k_=>(P0_0_ k_ ∨ w.heap.size ≤ k_) ∧ some k_ ≠ (v13 : Value).ownBlock ∧ k_ ≠ gb6 ∧ k_ ≠ gb7 ∧ k_ ≠ gb8)) (by (with_reducible repeat (first | apply Kd.V_alloc | apply Kd.V_drewN | apply Kd.V_drew));exact Kd.V_mono HO0_0.out ok_) hg hat);replace BK6:=am (blk_grown (g:=gb6) (o:=.cells #[.slice A0_0 l0_0.length c0_0] 27 (0,0)) (bk BK6) hg (Kd.R_ne HO10.out BK6.out (by decide)));replace BK7:=am (blk_grown (g:=gb7) (o:=.cells #[.int .i64 a1_0,.int .i64 a1_1] 54 (0,0)) (bk BK7) hg (Kd.R_away HO10.out (fun _ hk=>hk.1.2)));replace BK8:=am (blk_grown (g:=gb8) (o:=.cells #[.slice none 0 0] 27 (0,0)) (bk BK8) hg (Kd.R_ne HO10.out BK8.out (by decide)));replace HO14:=am (Kd.R_after (ok:=(fun k_=>(w.heap.size ≤ k_) ∧ k_ ≠ gb7)) (by (with_reducible repeat apply ru);exact Kd.R_mono HO14.out ok_) hg hat);replace HB:=am hb;have HO12:=am (ho);clear HO10;clear ho hb hg hat;refine hK.out _ _ ⟨bcell BK6 0,bcell BK7 0,bcell BK7 1⟩ (fun hHeld=>?_);clear hK K;refine nm_ ?_;exact norm_ (by simp only [putAll,Act.put,List.setIfInBounds_toArray,List.set_cons_zero,List.set_cons_succ]) (hCont (v9,v11,v13) _ ⟨hHeld,(by (with_reducible repeat (first | apply Kd.V_alloc | apply Kd.V_drewN | apply Kd.V_drew));exact Kd.V_mono HO0_0.out ok_),(rs HO12),(by (with_reducible repeat apply ru);exact Kd.R_mono HO14.out ok_),(bk BK6),(bk BK7),(bk BK8),(bl HB)⟩)
      ·skip
       refine Kd.R_lit_step k54 _ 54 rfl (N:=24) rfl (xs:=([(⟨a1_0,a1_1⟩ : S54)] : List (S54))) (inner:=[.int .i64 a1_0,.int .i64 a1_1]) (ok:=fun _=>True) (okp:=fun _=>True) hr_ ?hp (fun _ hk=>hk) trivial (Below.refl _ _) (Nat.le_refl _) (by simp) ?_;(case hp=>exact (Reps.c2 (show Kd.M k54 _ _ _ (⟨a1_0,a1_1⟩ : S54) [.int .i64 a1_0,.int .i64 a1_1] from (k54_mkM _ _ _ (⟨a1_0,a1_1⟩ : S54) )) (Reps.none _ _)));intro v13 w41 ho42 hb hg_ hnew_;clear hg_ hnew_;(first | rw [← Ny4.out] at ho42 | (simp only [Int.reduceToNat] at ho42;rw [← Ny4.out] at ho42));replace HO0_0:=am (Kd.V_elder' (by (with_reducible repeat (first | apply Kd.V_alloc | apply Kd.V_drewN | apply Kd.V_drew));exact HO0_0.out) (Kd.R_base ho42) hb);have HO14:=am (Kd.R_lower (Kd.R_newB (Kd.R_newM (M:=fun k_=>(w.heap.size ≤ k_)) ho42 (below_size (bl HB)) (fun k_ h_=>h_)) (g:=gb7) (o:=.cells #[.int .i64 a1_0,.int .i64 a1_1] 54 (0,0)) (bk BK7)) (below_size (bl HB)));replace BK6:=bkB BK6 hb;replace BK7:=bkB BK7 hb;replace BK8:=bkB BK8 hb;replace HB:=hbS HB hb;clear hb ho42;refine hK.out _ _ ⟨bcell BK6 0,bcell BK7 0,bcell BK7 1⟩ (fun hHeld=>?_);clear hK K;refine nm_ ?_;refine on_ 0 (some 19) (bm 9 55) (fun K hK=>?_);refine Kd.R_lit_step k54 _ 54 rfl (N:=19) rfl (xs:=([] : List (S54))) (inner:=[]) (ok:=fun _=>True) (okp:=fun _=>True) hr_ ?hp (fun _ hk=>hk) trivial (Below.refl _ _) (Nat.le_refl _) (by simp) ?_;(case hp=>exact (Reps.none _ _));intro v9 w43 ho44 hb hg_ hnew_;clear hg_ hnew_;(first | rw [← Ny2.out] at ho44 | (simp only [Int.reduceToNat] at ho44;rw [← Ny2.out] at ho44));replace HO0_0:=am (Kd.V_elder' (by (with_reducible repeat (first | apply Kd.V_alloc | apply Kd.V_drewN | apply Kd.V_drew));exact HO0_0.out) (Kd.R_base ho44) hb);have HO10:=am (Kd.R_lower (Kd.R_newB (Kd.R_new' (Kd.R_newM (M:=fun k_=>(w.heap.size ≤ k_)) ho44 (below_size (bl HB)) (fun k_ h_=>h_)) (Kd.R_lt (rs HO14))) (g:=gb7) (o:=.cells #[.int .i64 a1_0,.int .i64 a1_1] 54 (0,0)) (bk BK7)) (below_size (bl HB)));replace HO14:=am (Kd.R_elder' (rs HO14) (Kd.R_base ho44) hb);replace BK6:=bkB BK6 hb;replace BK7:=bkB BK7 hb;replace BK8:=bkB BK8 hb;replace HB:=hbS HB hb;clear hb ho44;refine hK.out _ _ ⟨bcell BK6 0,bcell BK7 0,bcell BK7 1⟩ (fun hHeld=>?_);clear hK K;refine nm_ ?_;refine on_ 3 (some 22) (bm 9 63) (fun K hK=>?_);refine Kd.R_append_rows_step k54 (w0:=w) w.heap.size (by rfl) (.tmp 19) (.tmp 21) 25 54 (.agg #[(.int .i64 0),(.int .i64 0)]) 16 rfl Tryz.underlying25 info54 rfl (by decide) (by omega) v9 y2 l0_0 _ _ _ (fun k_=>(w.heap.size ≤ k_) ∧ some k_ ≠ (v13 : Value).ownBlock ∧ k_ ≠ gb7) (fun _=>False) rfl rfl ?aO ?aR (fun _ _ h=>h) (fun _ h=>h.elim) ?aF ?aB ?aS ?aL ?_
       (case aR=>repeat (first | exact (Kd.V_reads' HO0_0.out).2.2 | (with_reducible refine Kd.C_alloc ?_ _) | (with_reducible refine Kd.C_drewN ?_ _) | (with_reducible refine Kd.C_drew ?_)))
       (case aB=>exact (bl HB))
       (case aF=>exact (fun k_ hk=>⟨(Nat.le_trans (below_size (bl HB)) hk),Kd.fresh' (Kd.R_lt (rs HO14)) k_ hk,Kd.freshB (g:=gb7) (o:=.cells #[.int .i64 a1_0,.int .i64 a1_1] 54 (0,0)) (bk BK7) k_ hk⟩))
       (case aO=>exact (by (with_reducible repeat apply ru);exact Kd.R_mono HO10.out ok_))
       (case aS=>exact (below_size (bl HB)))
       (case aL=>have:=LMc28.out;omega)
       intro v11 w45 ho hb hg hat;rw [← Ny3.out] at ho;replace HO0_0:=am (Kd.V_afterv (ok:=(fun k_=>(P0_0_ k_ ∨ w.heap.size ≤ k_) ∧ some k_ ≠ (v13 : Value).ownBlock ∧ k_ ≠ gb6 ∧ k_ ≠ gb7 ∧ k_ ≠ gb8)) (by (with_reducible repeat (first | apply Kd.V_alloc | apply Kd.V_drewN | apply Kd.V_drew));exact Kd.V_mono HO0_0.out ok_) hg hat);replace BK6:=am (blk_grown (g:=gb6) (o:=.cells #[.slice A0_0 l0_0.length c0_0] 27 (0,0)) (bk BK6) hg (Kd.R_ne HO10.out BK6.out (by decide)));replace BK7:=am (blk_grown (g:=gb7) (o:=.cells #[.int .i64 a1_0,.int .i64 a1_1] 54 (0,0)) (bk BK7) hg (Kd.R_away HO10.out (fun _ hk=>hk.2)));replace BK8:=am (blk_grown (g:=gb8) (o:=.cells #[.slice none 0 0] 27 (0,0)) (bk BK8) hg (Kd.R_ne HO10.out BK8.out (by decide)));replace HO14:=am (Kd.R_after (ok:=(fun k_=>(w.heap.size ≤ k_) ∧ k_ ≠ gb7)) (by (with_reducible repeat apply ru);exact Kd.R_mono HO14.out ok_) hg hat);replace HB:=am hb;have HO12:=am (ho);clear HO10;clear ho hb hg hat;refine hK.out _ _ ⟨bcell BK6 0,bcell BK7 0,bcell BK7 1⟩ (fun hHeld=>?_);clear hK K;refine nm_ ?_;exact norm_ (by simp only [putAll,Act.put,List.setIfInBounds_toArray,List.set_cons_zero,List.set_cons_succ]) (hCont (v9,v11,v13) _ ⟨hHeld,(by (with_reducible repeat (first | apply Kd.V_alloc | apply Kd.V_drewN | apply Kd.V_drew));exact Kd.V_mono HO0_0.out ok_),(rs HO12),(by (with_reducible repeat apply ru);exact Kd.R_mono HO14.out ok_),(bk BK6),(bk BK7),(bk BK8),(bl HB)⟩)
     rintro ⟨v9,v11,v13⟩ w46 ⟨hS_,h0_,h1_,h2_,h3_,h4_,h5_,h6_⟩;have n0_ : Aside0 (Kd.V k54 54 w46 w.heap.size (fun k_=>(P0_0_ k_ ∨ w.heap.size ≤ k_) ∧ some k_ ≠ (v11 : Value).ownBlock ∧ some k_ ≠ (v13 : Value).ownBlock ∧ k_ ≠ gb6 ∧ k_ ≠ gb7 ∧ k_ ≠ gb8) (.slice A0_0 l0_0.length c0_0) l0_0):=⟨h0_⟩;have n1_ : Aside0 (Kd.R k54 54 w46 w.heap.size (fun k_=>(w.heap.size ≤ k_) ∧ some k_ ≠ (v13 : Value).ownBlock ∧ k_ ≠ gb7) v11 y3):=⟨h1_⟩;have n2_ : Aside0 (Kd.R k54 54 w46 w.heap.size (fun k_=>(w.heap.size ≤ k_) ∧ some k_ ≠ (v11 : Value).ownBlock ∧ k_ ≠ gb7) v13 y4):=⟨h2_⟩;have n3_ : Aside0 (w46.heap[gb6]? = some (.cells #[.slice A0_0 l0_0.length c0_0] 27 (0,0))):=⟨h3_⟩;have n4_ : Aside0 (w46.heap[gb7]? = some (.cells #[.int .i64 a1_0,.int .i64 a1_1] 54 (0,0))):=⟨h4_⟩;have n5_ : Aside0 (w46.heap[gb8]? = some (.cells #[.slice none 0 0] 27 (0,0))):=⟨h5_⟩;have n6_ : Aside0 (Below w.heap.size w w46):=⟨h6_⟩;clear HO0_0;clear BK6;clear BK7;clear BK8;clear HB;clear h0_ h1_ h2_ h3_ h4_ h5_ h6_;have HO0_0:=n0_;have HO12:=n1_;have HO14:=n2_;have BK6:=n3_;have BK7:=n4_;have BK8:=n5_;have HB:=n6_;clear n0_ n1_ n2_ n3_ n4_ n5_ n6_;have hHeld : w46.cell? ⟨gb6,0,none⟩ = some (.slice A0_0 l0_0.length c0_0) ∧ w46.cell? ⟨gb7,0,none⟩ = some (.int .i64 a1_0) ∧ w46.cell? ⟨gb7,1,none⟩ = some (.int .i64 a1_1):=hS_;obtain ⟨Ao48,co48,eo48⟩:=Kd.R_slice HO14.out;(first | subst eo48 | (injection eo48 with f1_ f2_ f3_;have f4_:=f1_.symm;have f5_:=f3_.symm;clear f1_ f2_ f3_;subst f4_;subst f5_));refine norm_ (a':=?_) ?_ ?_
     rotate_left
     ·simp only [putAll,Act.put,List.setIfInBounds_toArray,List.set_cons_zero,List.set_cons_succ]
      rfl
     refine on_ 6 (some 25) (bm 9 127) (fun K hK=>?_);refine Kd.R_append_rows_step k54 (w0:=w) w.heap.size (by rfl) (.tmp 22) (.tmp 24) 25 54 (.agg #[(.int .i64 0),(.int .i64 0)]) 16 rfl Tryz.underlying25 info54 rfl (by decide) (by omega) v11 y3 y4 _ _ _ (fun k_=>(w.heap.size ≤ k_) ∧ some k_ ≠ (.slice Ao48 y4.length co48 : Value).ownBlock ∧ k_ ≠ gb7) (fun _=>False) rfl rfl ?aO ?aR (fun _ _ h=>h) (fun _ h=>h.elim) ?aF ?aB ?aS ?aL ?_
     (case aR=>exact rcx HO14)
     (case aB=>exact (bl HB))
     (case aF=>exact (fun k_ hk=>⟨(Nat.le_trans (below_size (bl HB)) hk),Kd.fresh' (Kd.R_lt (rs HO14)) k_ hk,Kd.freshB (g:=gb7) (o:=.cells #[.int .i64 a1_0,.int .i64 a1_1] 54 (0,0)) (bk BK7) k_ hk⟩))
     (case aO=>exact (rs HO12))
     (case aS=>exact (below_size (bl HB)))
     (case aL=>have:=LMc29.out;omega)
     intro v15 w47 ho hb hg hat;rw [← Ny5.out] at ho;replace HO0_0:=am (Kd.V_afterv (ok:=(fun k_=>(P0_0_ k_ ∨ w.heap.size ≤ k_) ∧ some k_ ≠ (.slice Ao48 y4.length co48 : Value).ownBlock ∧ k_ ≠ gb6 ∧ k_ ≠ gb7 ∧ k_ ≠ gb8)) (by (with_reducible repeat (first | apply Kd.V_alloc | apply Kd.V_drewN | apply Kd.V_drew));exact Kd.V_mono HO0_0.out ok_) hg hat);replace BK6:=am (blk_grown (g:=gb6) (o:=.cells #[.slice A0_0 l0_0.length c0_0] 27 (0,0)) (bk BK6) hg (Kd.R_ne HO12.out BK6.out (by decide)));replace BK7:=am (blk_grown (g:=gb7) (o:=.cells #[.int .i64 a1_0,.int .i64 a1_1] 54 (0,0)) (bk BK7) hg (Kd.R_away HO12.out (fun _ hk=>hk.2.2)));replace BK8:=am (blk_grown (g:=gb8) (o:=.cells #[.slice none 0 0] 27 (0,0)) (bk BK8) hg (Kd.R_ne HO12.out BK8.out (by decide)));replace HO14:=am (Kd.R_after (ok:=(fun k_=>(w.heap.size ≤ k_) ∧ k_ ≠ gb7)) (by (with_reducible repeat apply ru);exact Kd.R_mono HO14.out ok_) hg hat);replace HB:=am hb;have HO16:=am (ho);clear HO12;clear ho hb hg hat;obtain ⟨Ao49,co49,eo49⟩:=Kd.R_slice HO16.out;(first | subst eo49 | (injection eo49 with f1_ f2_ f3_;have f4_:=f1_.symm;have f5_:=f3_.symm;clear f1_ f2_ f3_;subst f4_;subst f5_));refine hK.out _ _ ⟨bcell BK6 0,bcell BK7 0,bcell BK7 1⟩ (fun hHeld=>?_);clear hK K;refine nm_ ?_;refine pu_ 7 (some 26) (bm 9 255) ?_;refine last_ (i:=8) (N:=none) #[true,true,true,true,true,true,true,true,true] rfl rfl (one_of HT_.out (by kernel_rfl)) (by decide) (fun K hK=>?_);have : w47.cell? ⟨gb6,0,none⟩ = some (.slice A0_0 l0_0.length c0_0):=bcell BK6 0;have:=bfz BK6 0;have:=NB7_6.out;have:=NB8_6.out;have:=NB6_7.out;have:=NB6_8.out;refine skip_ (w1:=?_) (by rfl) rfl ?_ ?_
     rotate_left
     ·go_simp
      rfl
     refine hK.out _ _ ?_;clear hK K;refine done_ (done_of HT_.out (by kernel_rfl)) ?_
     try go_wp2
     have n0_ : Aside0 (Kd.V k54 54 (w47.setCell ⟨gb6,0,none⟩ (.slice Ao49 y5.length co49)) w.heap.size (fun k_=>(P0_0_ k_ ∨ w.heap.size ≤ k_) ∧ some k_ ≠ (.slice Ao48 y4.length co48 : Value).ownBlock ∧ some k_ ≠ (.slice Ao49 y5.length co49 : Value).ownBlock ∧ k_ ≠ gb6 ∧ k_ ≠ gb7 ∧ k_ ≠ gb8) (.slice A0_0 l0_0.length c0_0) l0_0):=⟨by (with_reducible repeat (first | apply Kd.V_alloc | apply Kd.V_drewN | apply Kd.V_drew));exact Kd.V_mono (Kd.V_far (p:=⟨gb6,0,none⟩) (Kd.V_mono HO0_0.out (fun k_ hk=>(⟨hk,hk.1.2.2.1⟩ : _ ∧ k_ ≠ gb6))) (fun _ hk=>hk.2) (.slice Ao49 y5.length co49)) ok_⟩;have n1_ : Aside0 (Kd.R k54 54 (w47.setCell ⟨gb6,0,none⟩ (.slice Ao49 y5.length co49)) w.heap.size (fun k_=>(w.heap.size ≤ k_) ∧ some k_ ≠ (.slice Ao49 y5.length co49 : Value).ownBlock ∧ k_ ≠ gb7) (.slice Ao48 y4.length co48) y4):=⟨by (with_reducible repeat apply ru);exact Kd.R_mono (Kd.R_far (p:=⟨gb6,0,none⟩) (Kd.R_types HO14.out BK6.out (by decide)) (fun _ hk=>hk.2) (.slice Ao49 y5.length co49)) ok_⟩;have n2_ : Aside0 (Kd.R k54 54 (w47.setCell ⟨gb6,0,none⟩ (.slice Ao49 y5.length co49)) w.heap.size (fun k_=>(w.heap.size ≤ k_) ∧ some k_ ≠ (.slice Ao48 y4.length co48 : Value).ownBlock ∧ k_ ≠ gb7) (.slice Ao49 y5.length co49) y5):=⟨by (with_reducible repeat apply ru);exact Kd.R_mono (Kd.R_far (p:=⟨gb6,0,none⟩) (Kd.R_types HO16.out BK6.out (by decide)) (fun _ hk=>hk.2) (.slice Ao49 y5.length co49)) ok_⟩;have n3_ : Aside0 ((w47.setCell ⟨gb6,0,none⟩ (.slice Ao49 y5.length co49)).heap[gb6]? = some (.cells #[.slice Ao49 y5.length co49] 27 (0,0))):=⟨by (with_reducible repeat refine bu ?_);refine blk_put (cs:=#[.slice A0_0 l0_0.length c0_0]) ?_ 0 _ rfl;(with_reducible repeat refine bu ?_);exact BK6.out⟩;have n4_ : Aside0 ((w47.setCell ⟨gb6,0,none⟩ (.slice Ao49 y5.length co49)).heap[gb7]? = some (.cells #[.int .i64 a1_0,.int .i64 a1_1] 54 (0,0))):=bf_ BK7;have n5_ : Aside0 ((w47.setCell ⟨gb6,0,none⟩ (.slice Ao49 y5.length co49)).heap[gb8]? = some (.cells #[.slice none 0 0] 27 (0,0))):=bf_ BK8;have n6_ : Aside0 (Below w.heap.size w (w47.setCell ⟨gb6,0,none⟩ (.slice Ao49 y5.length co49))):=⟨m4_⟩;(try clear HO0_0);(try clear HO14);(try clear HO16);(try clear BK6);(try clear BK7);(try clear BK8);(try clear HB);generalize (w47.setCell ⟨gb6,0,none⟩ (.slice Ao49 y5.length co49)) = w51 at n0_ n1_ n2_ n3_ n4_ n5_ n6_ ⊢;have HO0_0:=n0_;have HO14:=n1_;have HO16:=n2_;have BK6:=n3_;have BK7:=n4_;have BK8:=n5_;have HB:=n6_;clear n0_ n1_ n2_ n3_ n4_ n5_ n6_;replace HO0_0:=am (Kd.V_drew HO0_0.out);replace HO14:=am (Kd.R_drew HO14.out);replace HO16:=am (Kd.R_drew HO16.out);replace BK6:=am (blk_drew BK6.out);replace BK7:=am (blk_drew BK7.out);replace BK8:=am (blk_drew BK8.out);replace HB:=am (below_drew1 HB.out);refine start_ (n:=8) (S:=fun w'=>w'.cell? ⟨gb6,0,none⟩ = some (.slice Ao49 y5.length co49)) (ds:=[]) #[false,false,false,false,false,false,false,false] (by kernel_rfl) rfl rfl (bcell BK6 0) (fun hHeld=>?_);refine with_tabW spec_l3Put.tab7 spec_l3Put.bits7 (fun HT_ HW_=>?_)
     generalize w51.drew = w52 at HO0_0 HO14 HO16 BK6 BK7 BK8 HB hHeld ⊢;refine pu_ 1 (some 28) (bm 8 2) ?_;refine take_ (i:=0) (N:=some 27) (v:=?_) (a':=?_) #[true,true,false,false,false,false,false,false] rfl rfl (take_ofW HT_.out HW_.out (by kernel_rfl)) (fun _ _ _ h=>h) (Or.inl ⟨by rfl,?_⟩) hHeld ?_ ?_
     rotate_left
     ·intro w' s0
      go_simp
      with_reducible rfl
     rotate_left
     ·simp only [Act.put,List.setIfInBounds_toArray,List.set_cons_zero,List.set_cons_succ,i64_w,i32_w]
      rfl
     refine take_ (i:=2) (N:=some 29) (v:=?_) (a':=?_) #[true,true,true,false,false,false,false,false] rfl rfl (take_ofW HT_.out HW_.out (by kernel_rfl)) (fun _ _ _ h=>h) (Or.inl ⟨by rfl,?_⟩) hHeld ?_ ?_
     rotate_left
     ·intro w' s0
      go_simp
      with_reducible rfl
     rotate_left
     ·simp only [Act.put,List.setIfInBounds_toArray,List.set_cons_zero,List.set_cons_succ,i64_w,i32_w]
      rfl
     refine pu_ 3 (some 30) (bm 8 15) ?_;refine pu_ 4 (some 31) (bm 8 31) ?_;refine pu_ 5 (some 32) (bm 8 63) ?_;refine on_ 6 none (bm 8 127) (fun K hK=>?_);have : w52.cell? ⟨gb8,0,none⟩ = some (.slice none 0 0):=bcell BK8 0;have:=bfz BK8 0;have:=NB6_8.out;have:=NB7_8.out;have:=NB8_6.out;have:=NB8_7.out;refine skip_ (w1:=?_) (by rfl) rfl ?_ ?_
     rotate_left
     ·go_simp
      rfl
     refine hK.out _ _ (((cell_far (p:=⟨gb8,_,none⟩) NB6_8.out _).trans (hHeld))) (fun hHeld=>?_);clear hK K;refine pu_ 7 (some 5) (bm 8 255) ?_;refine done_ (done_of HT_.out (by kernel_rfl)) ?_
     try go_wp2
     refine bodyPost_ret (results_ct rfl _ _ gb8 27 #[.slice Ao49 y5.length co49] (0,0) _ rfl (by (with_reducible repeat refine bu ?_);refine blk_put (cs:=#[.slice none 0 0]) ?_ 0 _ rfl;(with_reducible repeat refine bu ?_);exact BK8.out) Tryz.underlying27 rfl (by kernel_rfl)) rfl ?_;exact ⟨_,fi_,Kd.V_mono (Kd.R_V (by (with_reducible repeat apply ru);exact Kd.R_mono (Kd.R_far (p:=⟨gb8,0,none⟩) (Kd.R_types HO16.out BK8.out (by decide)) (fun _ hk=>hk.2) (.slice Ao49 y5.length co49)) (fun _ hk=>hk.1.1))) (fun k_ hk=>by first | exact ⟨(.inr (hk.1)),hk.2⟩ | exact (.inr (hk))),m4_⟩
    ·rw [if_neg c29] at H;exact absurd H (by simp)
   ·rw [if_neg c28] at H;exact absurd H (by simp)
end
def I64 (n : Int) : Prop:=(Lit.int .i64 n).wf = true
theorem i64_iff (n : Int) : I64 n ↔ -9223372036854775808 ≤ n ∧ n ≤ 9223372036854775807:=by
  unfold I64
  simp [Lit.wf,IntKind.min,IntKind.max,IntKind.signed,IntKind.bits]
theorem mapLaid : laidOutB Tryz.prog = true:=by kernel_rfl
theorem endKeyed : Maps.Keyed Tryz.prog 54:=Maps.Keyed.of_law (deep_law_laid mapLaid (m:=2) (by omega) (of_decide_eq_true (by kernel_rfl)) (by kernel_rfl) (by rw [Tryz.underlying54]))
theorem intKeyed : Maps.Keyed Tryz.prog 3:=Maps.int_keyed Tryz.underlying3
def eK (a b : Int) : Lit:=.string (keyBytes [.int .i64 a,.int .i64 b])
theorem eK_key (a b : Int) : WideAt.IsKeyLit (eK a b):=trivial
theorem pK_key (n : Int) : WideAt.IsKeyLit (Lit.int .i64 n):=trivial
theorem endKey {a b : Int} (wa : I64 a) (wb : I64 b) : keyOf Tryz.prog 54 (.agg #[.int .i64 a,.int .i64 b]) = some (eK a b):=by
  have hk : Tryz.prog.keyType 54 = true:=by kernel_rfl
  have hc : Tryz.prog.cellsOf 54 = 2:=by kernel_rfl
  have hc3 : Tryz.prog.cellsOf 3 = 1:=by kernel_rfl
  obtain ⟨m,hm⟩ : ∃ m,Tryz.prog.types.size = m + 2:=⟨Tryz.prog.types.size - 2,by kernel_rfl⟩
  unfold I64 at wa wb
  unfold keyOf eK
  simp only [Tryz.underlying54]
  rw [if_pos (by simp [hk,Value.formed,Tryz.underlying54,hc]),hm]
  unfold Program.keyLits
  simp only [Tryz.underlying54,Value.cells]
  rw [if_pos (by rw [hc];exact ⟨rfl,by simp⟩)]
  simp [hc3,Program.keyLits,Tryz.underlying3,wa,wb]
theorem intKey {n : Int} (w : I64 n) : keyOf Tryz.prog 3 (.int .i64 n) = some (.int .i64 n):=by
  unfold I64 at w
  simp [keyOf,mapKey,Tryz.underlying3,w]
theorem eK_inj {a b c d : Int} (wa : I64 a) (wb : I64 b) (wc : I64 c) (wd : I64 d) (h : eK a b = eK c d) : a = c ∧ b = d:=by
  have:=endKeyed.inj (endKey wa wb) (by rw [h];exact endKey wc wd)
  simpa using this
def endD (a b : Int) : DataW Unit:=.map [(.int .i64 0,.lit (.int .i64 a)),(.int .i64 0,.lit (.int .i64 b))]
def endR (v : Value) : Option (DataW Unit × List MemPlace):=match v with
  | .agg cs=>(match cs.toList with
    | [.int .i64 a,.int .i64 b]=>some (endD a b,[])
    | _=>none)
  | _=>none
theorem endR_mk (a b : Int) : endR (.agg #[.int .i64 a,.int .i64 b]) = some (endD a b,[]):=rfl
theorem endR_inv {v : Value} {z : DataW Unit × List MemPlace} (h : endR v = some z) : ∃ a b,v = .agg #[.int .i64 a,.int .i64 b] ∧ z.1 = endD a b:=by
  unfold endR at h
  split at h
  · rename_i cs
    split at h
    · rename_i a b he
      obtain ⟨l⟩:=cs
      simp at he
      subst he
      injection h with h
      subst h
      exact ⟨a,b,rfl,rfl⟩
    · cases h
  · cases h
theorem endD_inj {a b c d : Int} (h : endD a b = endD c d) : a = c ∧ b = d:=by
  unfold endD at h
  simpa using h
def fnd (l : List S54) (a b : Int) : Option Nat:=l.findIdx? (fun x=>x.f0 == a && x.f1 == b)
theorem fnd_snoc (l : List S54) (x : S54) (a b : Int) : fnd (l ++ [x]) a b = (match fnd l a b with | some i=>some i | none=>if x.f0 = a ∧ x.f1 = b then some l.length else none):=by
  unfold fnd
  rw [List.findIdx?_append]
  cases l.findIdx? (fun x=>x.f0 == a && x.f1 == b) with
  | some i=>simp
  | none=>by_cases h : x.f0 = a ∧ x.f1 = b <;> simp [List.findIdx?_cons,h]
def Says1 (l : List S54) (D : DataW Unit) : Prop:=∀ a b,I64 a → I64 b → ∀ z,D.atKey (eK a b) z = (match fnd l a b with | none=>z | some i=>.lit (.int .i64 (500 + i)))
def Says2 (l : List S54) (D : DataW Unit) : Prop:=∀ n,I64 n → ∀ z,D.atKey (.int .i64 n) z = (match (if 500 ≤ n then l[(n - 500).toNat]? else none) with | none=>z | some x=>endD x.f0 x.f1)
theorem says1_nil : Says1 [] (.map []):=fun a b _ _ z=>rfl
theorem says2_nil : Says2 [] (.map []):=fun n _ z=>by
  have : (if 500 ≤ n then ([] : List S54)[(n - 500).toNat]? else none) = none:=by split <;> rfl
  rw [this];rfl
theorem says1_has {l : List S54} {D : DataW Unit} (h : Says1 l D) {a b : Int} (wa : I64 a) (wb : I64 b) : Maps.has D (eK a b) = (fnd l a b).isSome:=by
  cases hf : fnd l a b with
  | none=>exact Maps.has_false_of_atKey (fun z=>by rw [h a b wa wb z,hf])
  | some i=>exact Maps.has_true_of_atKey (fun z=>by rw [h a b wa wb z,hf])
theorem says1_old {l : List S54} {D : DataW Unit} (h : Says1 l D) (x : S54) (wx : I64 x.f0 ∧ I64 x.f1) (hx : Maps.has D (eK x.f0 x.f1) = true) : Says1 (l ++ [x]) D:=by
  intro a b wa wb z
  rw [h a b wa wb z,fnd_snoc]
  cases hf : fnd l a b with
  | some i=>rfl
  | none=>
    have hne : ¬ (x.f0 = a ∧ x.f1 = b):=by
      rintro ⟨rfl,rfl⟩
      rw [says1_has h wx.1 wx.2,hf] at hx
      cases hx
    simp [hne]
theorem says1_new {l : List S54} {D : DataW Unit} (h : Says1 l D) (hD : Maps.IsMap D) (x : S54) (wx : I64 x.f0 ∧ I64 x.f1) (hx : Maps.has D (eK x.f0 x.f1) = false) : Says1 (l ++ [x]) (D.put (eK x.f0 x.f1) (.lit (.int .i64 (500 + l.length)))):=by
  intro a b wa wb z
  rw [fnd_snoc]
  by_cases he : x.f0 = a ∧ x.f1 = b
  · obtain ⟨rfl,rfl⟩:=he
    rw [says1_has h wx.1 wx.2] at hx
    cases hf : fnd l x.f0 x.f1 with
    | some i=>rw [hf] at hx;cases hx
    | none=>
      rw [Maps.atKey_put_same hD (eK_key _ _)]
      simp
  · have hne : eK a b ≠ eK x.f0 x.f1:=fun e=>he (by obtain ⟨h1,h2⟩:=eK_inj wa wb wx.1 wx.2 e;exact ⟨h1.symm,h2.symm⟩)
    rw [Maps.atKey_put_other hne,h a b wa wb z]
    cases fnd l a b <;> simp [he]
theorem says2_has {l : List S54} {D : DataW Unit} (h : Says2 l D) (hl : l.length < 1000000000) : Maps.has D (.int .i64 (500 + l.length)) = false:=
  Maps.has_false_of_atKey (fun z=>by
    rw [h _ ((i64_iff _).mpr (by omega)) z]
    have : (if 500 ≤ (500 + (l.length : Int)) then l[((500 + (l.length : Int)) - 500).toNat]? else none) = none:=by
      rw [if_pos (by omega)]
      exact List.getElem?_eq_none (by omega)
    rw [this])
theorem says2_put {l : List S54} {D : DataW Unit} (h : Says2 l D) (hD : Maps.IsMap D) (x : S54) (hl : l.length < 1000000000) : Says2 (l ++ [x]) (D.put (.int .i64 (500 + l.length)) (endD x.f0 x.f1)):=by
  intro n wn z
  by_cases he : n = 500 + l.length
  · subst he
    rw [Maps.atKey_put_same hD (pK_key _)]
    have : (if 500 ≤ (500 + (l.length : Int)) then (l ++ [x])[((500 + (l.length : Int)) - 500).toNat]? else none) = some x:=by
      rw [if_pos (by omega),show ((500 + (l.length : Int)) - 500).toNat = l.length by omega]
      simp
    rw [this]
  · have hne : (Lit.int .i64 n) ≠ Lit.int .i64 (500 + l.length):=fun e=>he (by injection e)
    rw [Maps.atKey_put_other hne,h n wn z]
    have : (if 500 ≤ n then (l ++ [x])[(n - 500).toNat]? else none) = (if 500 ≤ n then l[(n - 500).toNat]? else none):=by
      by_cases h5 : 500 ≤ n
      · rw [if_pos h5,if_pos h5]
        rw [List.getElem?_append]
        split
        · rfl
        · rename_i hge
          rw [List.getElem?_eq_none (by simp;omega),List.getElem?_eq_none (by omega)]
      · rw [if_neg h5,if_neg h5]
    rw [this]
theorem says2_again {l : List S54} {D : DataW Unit} {x : S54} (h : Says2 (l ++ [x]) D) (hD : Maps.IsMap D) (hl : l.length < 1000000000) : Says2 (l ++ [x]) (D.put (.int .i64 (500 + l.length)) (endD x.f0 x.f1)):=by
  intro n wn z
  by_cases he : n = 500 + l.length
  · subst he
    rw [Maps.atKey_put_same hD (pK_key _)]
    have : (if 500 ≤ (500 + (l.length : Int)) then (l ++ [x])[((500 + (l.length : Int)) - 500).toNat]? else none) = some x:=by
      rw [if_pos (by omega),show ((500 + (l.length : Int)) - 500).toNat = l.length by omega]
      simp
    rw [this]
  · have hne : (Lit.int .i64 n) ≠ Lit.int .i64 (500 + l.length):=fun e=>he (by injection e)
    rw [Maps.atKey_put_other hne,h n wn z]
end Go.Proofs.YtgpolhlmedmloaaGreatDoor.P
