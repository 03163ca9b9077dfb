import Derived.Test.YtakfmcpjnkagmaaGreatDoorGPoSpx1
import Derived.Lib.ConvBytes
import Derived.Lib.Hide
import Derived.Lib.CutLaws
import Derived.Lib.CountLaws
import Derived.Lib.SplitLaws
import Derived.Lib.LastIndexByte
import Derived.RangeFuncNested
import Derived.RangeFuncBound
import Derived.RangeFuncCalls
import Derived.RangeFuncLeaves
import Derived.Shelf.Abstract
import Derived.OwnWalkIn
import Derived.TacticsInMore
import Derived.LoopNIn
import Derived.LoopIn
import Derived.Laws.EntriesVeiled
import Derived.Shelf.Strings.BuilderK
import Derived.Shelf.LaysM
import Derived.Shelf.LaysC
import Derived.Shelf.Strings.Count
import Derived.Shelf.Strings.LastIndex
import Derived.Test.YtakfmcpjnkagmaaGreatDoorProg
import Derived.Shelf.Vars
import Derived.Shelf.Lays
import Derived.RangeFuncBox
import Derived.Maps.AppendAt
import Derived.Test.YtakfmcpjnkagmaaGreatDoorUPoSpOwn
import Derived.Lib.SliceRun
import Derived.Maps.OwnSet
import Derived.Maps.OwnOps
import Derived.Maps.Views
import Derived.DeepKeys4
namespace Go.Proofs.YtakfmcpjnkagmaaGreatDoor.P
open Go.Proofs.YtakfmcpjnkagmaaGreatDoorUPoSp.PrintLast Go.Proofs.YtakfmcpjnkagmaaGreatDoorUPoSp.PrintMore Go.Proofs.YtakfmcpjnkagmaaGreatDoorUPoSp.PrintWords Go.RowKit
set_option linter.unusedVariables false
set_option linter.unusedSimpArgs false
section
attribute [local go_sem] max2_int min2_int max_two min_two max_three min_three max_four min_four
def impl_MapOk.l0 : Nat → List (S55) → Int → Int → List (S55) → Option (Bool)
 | 0,_,_,_,_=>none
 | k + 1,x6,x7,x8,x288000=>if x8 < x7 then (if 0 ≤ x8 then (if x8 < (x6.length : Int) then ((impl_EndInside.f ((rd_T55 x6 x8).f0) ((rd_T55 x6 x8).f1)).bind fun t290=>(if t290 = true then (if x8 ≤ (x288000.length : Int) then ((impl_EndPoint_81.f k (x288000.take (x8 : Int).toNat) ((rd_T55 x6 x8).f0) ((rd_T55 x6 x8).f1)).bind fun t295=>(if t295 = true then (some false) else (impl_MapOk.l0 k x6 x7 (wrap64 (x8 + 1)) x288000))) else (none)) else (some false))) else (none)) else (none)) else (some (decide ((x288000.length : Int) ≤ 6)))
def impl_MapOk.f (k : Nat) (l0_0 : List (S55)) : Option (Bool):=impl_MapOk.l0 k l0_0 (l0_0.length : Int) 0 l0_0
theorem impl_MapOk.mono_l : ∀ k,(∀ y0 y1 y2 y3,LeO (impl_MapOk.l0 k y0 y1 y2 y3) (impl_MapOk.l0 (k + 1) y0 y1 y2 y3))
 | 0=>fun _ _ _ _ r h=>by simp [impl_MapOk.l0] at h
 | k + 1=>by
  have ih0:=impl_MapOk.mono_l k
  ·intro y0 y1 y2 y3
   unfold impl_MapOk.l0
   repeat' first | (with_reducible first | exact ih0 _ _ _ _ | exact impl_EndPoint_81.mono _ _ _ _ | exact LeO.refl _ | exact LeO.none _ | refine LeO.ite ?_ ?_ | refine LeO.bind ?_ (fun _=>?_)) | exact ih0 _ _ _ _ | exact impl_EndPoint_81.mono _ _ _ _ | exact LeO.none _ | refine LeO.ite ?_ ?_ | refine LeO.bind ?_ (fun _=>?_)
theorem impl_MapOk.mono : ∀ a0 k,LeO (impl_MapOk.f k a0) (impl_MapOk.f (k + 1) a0):=by
 intro a0 k
 have ih0:=impl_MapOk.mono_l k
 unfold impl_MapOk.f
 repeat' first | (with_reducible first | exact ih0 _ _ _ _ | exact impl_EndPoint_81.mono _ _ _ _ | exact LeO.refl _ | exact LeO.none _ | refine LeO.ite ?_ ?_ | refine LeO.bind ?_ (fun _=>?_)) | exact ih0 _ _ _ _ | exact impl_EndPoint_81.mono _ _ _ _ | exact LeO.none _ | refine LeO.ite ?_ ?_ | refine LeO.bind ?_ (fun _=>?_)
def impl_MapOk.T4 : Bool × List (List Nat × List Nat):=(true,[([],[]),([0],[0]),([1],[1]),([2,1],[2]),([3],[3]),([4,3],[3,4]),([3],[3]),([5,6,3],[3,5,6]),([3],[3]),([7,8,3,3],[3,7,8]),([3,9],[3,9])])
def impl_MapOk.B4 : List Nat:=[0,1,3,7,15,31,15,127,15,511,1023]
theorem impl_MapOk.tab4 : rtab .any (opsOf Tryz.f54 4) = impl_MapOk.T4:=by kernel_rfl
theorem impl_MapOk.bits4 : waitsOk impl_MapOk.T4.2 impl_MapOk.B4 = true:=by kernel_rfl
set_option maxHeartbeats 8000000 in
set_option maxRecDepth 100000 in
theorem impl_MapOk.calls (k : Nat) (A0_0 : Option Addr) (c0_0 : Nat) (l0_0 : List (S55)) (r : Bool) (w : World) (hr0_0 : Kd.C k55 w A0_0 l0_0.length l0_0) (hc0_0 : l0_0.length ≤ c0_0) (h : impl_MapOk.f k l0_0 = some r) :
  Calls Tryz.prog 54 #[.agg #[.slice A0_0 l0_0.length c0_0]] w fun e w'=>e = .returned (.bool r) ∧ Below w.heap.size w w':=by
 have hu29:=Tryz.underlying29
 have hu55:=Tryz.underlying55
 have HR0_0:=am hr0_0
 have HC0_0:=am hc0_0
 clear hr0_0 hc0_0
 have HB:=am (Below.refl w.heap.size w)
 have H : (impl_MapOk.l0 k l0_0 (l0_0.length : Int) 0 l0_0) = some r:=h
 clear h
 have H':=am H
 clear H
 go_enter Tryz.func54,Tryz.ntmps54
 go_wp2_with (first | ((with_reducible refine gD 1 rfl ?_);refine box_event rfl (N:=1) rfl (cs:=#[.slice A0_0 l0_0.length c0_0]) (t:=29) hr_ ?_;intro gb287 hg w2 hbox hb;have BK287:=am hbox;have GW287:=gwE HB hg;have GE287:=gwE HB hg;replace HB:=hbS HB hb;clear hb hbox hg;have hcz3_0:=bcell BK287 0;have hfz3_0:=blk_frozen BK287.out 0))
 go_loopg [8] k (fun kq v8 w'=>∃ (x8_1 : Int),v8 = .int .i64 x8_1 ∧ Aside0 (impl_MapOk.l0 kq l0_0 (l0_0.length : Int) x8_1 l0_0 = some r) ∧ Aside0 (kq ≤ k) ∧ Aside0 (w'.heap[gb287]? = some (.cells #[(.slice A0_0 l0_0.length c0_0)] 29 (0,0))) ∧ Aside0 (Below w.heap.size w w'))
 case atStart=>exact ⟨(0),rs_,H',⟨Nat.le_refl _⟩,⟨bk BK287⟩,⟨m2_⟩⟩
 case round=>
  clear H'
  try clear p2
  try clear hcz3_0
  try clear hfz3_0
  obtain ⟨x8_1,rfl,HA,HK1,BK287,HB⟩:=hrel
  cases gk with
  | zero=>exact absurd HA.out (by simp [impl_MapOk.l0])
  | succ k1=>
   have H:=HA.out
   clear HA
   simp only [impl_MapOk.l0] at H
   by_cases c4 : x8_1 < (l0_0.length : Int)
   ·rw [if_pos c4] at H
    have c4b0 : decide (x8_1 < (l0_0.length : Int)) = true:=decide_eq_true c4
    clear c4
    by_cases c5 : 0 ≤ x8_1
    ·rw [if_pos c5] at H
     have c5b0 : decide (0 ≤ x8_1) = true:=decide_eq_true c5
     clear c5
     by_cases c6 : x8_1 < (l0_0.length : Int)
     ·rw [if_pos c6] at H
      have c6b0 : decide (x8_1 < (l0_0.length : Int)) = true:=decide_eq_true c6
      clear c6
      obtain ⟨t290,A7,H⟩:=bse H
      try dsimp only at H
      by_cases c8 : t290 = true
      ·subst c8
       have H1 : (if x8_1 ≤ (l0_0.length : Int) then ((impl_EndPoint_81.f k1 (l0_0.take (x8_1 : Int).toNat) ((rd_T55 l0_0 x8_1).f0) ((rd_T55 l0_0 x8_1).f1)).bind fun t295=>(if t295 = true then (some false) else (impl_MapOk.l0 k1 l0_0 (l0_0.length : Int) (wrap64 (x8_1 + 1)) l0_0))) else (none)) = some r:=by rw [if_pos rfl] at H;exact H
       clear H
       have H:=H1
       clear H1
       have c9b0:=eq_true (of_decide_eq_true da_ : 0 ≤ x8_1)
       by_cases c10 : x8_1 ≤ (l0_0.length : Int)
       ·rw [if_pos c10] at H
        have c10b0:=eq_true c10
        have c10b1 : decide (x8_1 ≤ (l0_0.length : Int)) = true:=decide_eq_true c10
        clear c10
        obtain ⟨y291,hy291⟩ : ∃ y_ : List (S55),y_ = (l0_0.take (x8_1 : Int).toNat):=⟨_,rfl⟩
        replace H : ((impl_EndPoint_81.f k1 y291 ((rd_T55 l0_0 x8_1).f0) ((rd_T55 l0_0 x8_1).f1)).bind fun t295=>(if t295 = true then (some false) else (impl_MapOk.l0 k1 l0_0 (l0_0.length : Int) (wrap64 (x8_1 + 1)) l0_0))) = some r:=by first | (rw [hy291];with_reducible exact H) | (have H2_:=(Option.bind_some _ _).symm.trans H;rw [hy291];with_reducible exact H2_) | (have H2_:=(Option.bind_some _ _).symm.trans H;with_reducible exact H2_) | with_reducible exact H | (rw [hy291];exact H) | exact H
        have Ny291:=am hy291
        clear hy291
        obtain ⟨t295,A11,H⟩:=bse H
        try dsimp only at H
        by_cases c12 : t295 = true
        ·subst c12
         have H1 : (some false) = some r:=by rw [if_pos rfl] at H;exact H
         clear H
         have H:=H1
         clear H1
         obtain rfl:=Option.some.inj H
         have p288 : 0 ≤ (x8_1 : Int):=of_decide_eq_true da_
         have q288 : x8_1 < (l0_0.length : Int):=of_decide_eq_true da_
         obtain ⟨ad288,e288,hx288_0,hx288_1⟩:=at_T55 HR0_0.out x8_1 p288 q288
         cases e288
         replace hx288_0:=bcl HB hx288_0
         replace hx288_1:=bcl HB hx288_1
         replace p288:=eq_true p288
         replace q288:=eq_true q288
         try go_wp2_with (first | ((with_reducible refine gD 4 rfl ?_);refine box_event rfl (N:=4) rfl (cs:=#[.int .i64 0,.int .i64 0]) (t:=55) hr_ ?_;intro gb289 hg w13 hbox hb;have BK289:=am hbox;have GW289:=gwE HB hg;have GE289:=gwE HB hg;replace HB:=hbS HB hb;have NB287_289:=neL BK287 hg;have NB289_287:=neG BK287 hg;replace BK287:=bkB BK287 hb;clear hb hbox hg;have:=NB289_287.out;have:=NB287_289.out;have:=bcell BK289 0;have:=bcell BK289 1;have:=bfz BK289 0;have:=bfz BK289 1))
         have n0_ : Aside0 (((w13.setCell ⟨gb289,0,none⟩ (.int .i64 ((rd_T55 l0_0 x8_1).f0))).setCell ⟨gb289,1,none⟩ (.int .i64 ((rd_T55 l0_0 x8_1).f1))).heap[gb287]? = some (.cells #[.slice (some ad288) l0_0.length c0_0] 29 (0,0))):=bf_ BK287
         have n1_ : Aside0 (((w13.setCell ⟨gb289,0,none⟩ (.int .i64 ((rd_T55 l0_0 x8_1).f0))).setCell ⟨gb289,1,none⟩ (.int .i64 ((rd_T55 l0_0 x8_1).f1))).heap[gb289]? = some (.cells #[.int .i64 ((rd_T55 l0_0 x8_1).f0),.int .i64 ((rd_T55 l0_0 x8_1).f1)] 55 (0,0))):=⟨by (with_reducible repeat refine bu ?_);refine blk_put (cs:=#[.int .i64 ((rd_T55 l0_0 x8_1).f0),.int .i64 0]) ?_ 1 _ rfl;(with_reducible repeat refine bu ?_);refine blk_put (cs:=#[.int .i64 0,.int .i64 0]) ?_ 0 _ rfl;(with_reducible repeat refine bu ?_);exact BK289.out⟩
         have n2_ : Aside0 (Below w.heap.size w ((w13.setCell ⟨gb289,0,none⟩ (.int .i64 ((rd_T55 l0_0 x8_1).f0))).setCell ⟨gb289,1,none⟩ (.int .i64 ((rd_T55 l0_0 x8_1).f1)))):=⟨m2_⟩
         (try clear BK287)
         (try clear BK289)
         (try clear HB)
         generalize ((w13.setCell ⟨gb289,0,none⟩ (.int .i64 ((rd_T55 l0_0 x8_1).f0))).setCell ⟨gb289,1,none⟩ (.int .i64 ((rd_T55 l0_0 x8_1).f1))) = w16 at n0_ n1_ n2_ ⊢
         have BK287:=n0_
         have BK289:=n1_
         have HB:=n2_
         clear n0_ n1_ n2_
         replace BK287:=am (blk_drew BK287.out)
         replace BK289:=am (blk_drew BK289.out)
         replace HB:=am (below_drew1 HB.out)
         refine start_ (n:=11) (S:=fun w'=>w'.cell? ⟨gb289,0,none⟩ = some (.int .i64 ((rd_T55 l0_0 x8_1).f0)) ∧ w'.cell? ⟨gb289,1,none⟩ = some (.int .i64 ((rd_T55 l0_0 x8_1).f1)) ∧ w'.cell? ⟨gb287,0,none⟩ = some (.slice (some ad288) l0_0.length c0_0)) (ds:=[]) #[false,false,false,false,false,false,false,false,false,false,false] (by kernel_rfl) rfl rfl ⟨bcell BK289 0,bcell BK289 1,bcell BK287 0⟩ (fun hHeld=>?_);refine with_tabW impl_MapOk.tab4 impl_MapOk.bits4 (fun HT_ HW_=>?_)
         generalize w16.drew = w17 at BK287 BK289 HB hHeld ⊢
         refine tk_ 0 (some 13) (bm 11 1) rfl (.inl ⟨rfl,m7_⟩) ?_
         refine on_ 1 (some 14) (bm 11 3) (fun K hK=>?_)
         refine gR Tryz.func60 #[.agg #[.int .i64 ((rd_T55 l0_0 x8_1).f0),.int .i64 ((rd_T55 l0_0 x8_1).f1)]] ?_
         with_reducible refine (impl_EndInside.calls ((rd_T55 l0_0 x8_1).f0) ((rd_T55 l0_0 x8_1).f1) true _ A7.out).mono ?_
         rintro e w18 ⟨rfl,hb⟩
         refine ⟨_,rfl,?_⟩
         replace BK287:=bkB BK287 hb
         replace BK289:=bkB BK289 hb
         replace HB:=hbS HB hb
         (try clear hb)
         (try clear hb2)
         (try clear hk)
         (try clear hi)
         have q19 : (x8_1 : Int) ≤ ((l0_0.length : Int) : Int):=of_decide_eq_true da_
         obtain ⟨i019,hi019,_,hsz19,_⟩:=info_parts info55
         have hroom19 : l0_0.length ≤ c0_0:=HC0_0.out
         have hC19 : Kd.C k55 _ (some ad288) l0_0.length l0_0:=HR0_0.out
         have hcut19:=cut_to (P:=Tryz.prog) 27 55 .i64 Tryz.underlying27 hi019 (some ad288) l0_0.length c0_0 x8_1 (of_decide_eq_true da_) q19 hroom19
         have hr19:=Kd.C_take (m:=(x8_1 : Int).toNat) hC19 (by omega)
         have hy19 : y291.length = (x8_1 : Int).toNat:=(by rw [Ny291.out,List.length_take];omega)
         rw [← Ny291.out] at hr19
         rw [← hy19] at hcut19
         have HR294:=am hr19
         have HC294:=am (show y291.length ≤ c0_0 from by omega)
         clear hr19 hC19 hroom19 hi019 hsz19
         have KY19:=am hy19
         clear hy19
         replace q19:=eq_true q19
         refine hK.out _ _ ⟨bcell BK289 0,bcell BK289 1,bcell BK287 0⟩ (fun hHeld=>?_)
         clear hK K
         refine nm_ ?_
         refine pu_ 2 (some 15) (bm 11 7) ?_
         refine pu_ 3 (some 16) (bm 11 15) ?_
         refine pu_ 4 (some 17) (bm 11 31) ?_
         refine pu_ 6 (some 19) (bm 11 95) ?_
         refine tk_ 5 (some 18) (bm 11 127) rfl (.inl ⟨rfl,m7_⟩) ?_
         refine pu_ 7 (some 20) (bm 11 255) ?_
         refine tk_ 8 (some 21) (bm 11 511) rfl (.inl ⟨rfl,m7_⟩) ?_
         refine on_ 9 (some 22) (bm 11 1023) (fun K hK=>?_)
         refine gR Tryz.func81 #[.slice (some ad288) y291.length c0_0,.agg #[.int .i64 ((rd_T55 l0_0 x8_1).f0),.int .i64 ((rd_T55 l0_0 x8_1).f1)]] ?_
         with_reducible refine (impl_EndPoint_81.calls k1 _ _ y291 ((rd_T55 l0_0 x8_1).f0) ((rd_T55 l0_0 x8_1).f1) true _ ?side1 ?side2 A11.out).mono ?_
         (case side1=>exact m22_)
         (case side2=>exact HC294.out)
         rintro e w20 ⟨rfl,hb⟩
         refine ⟨_,rfl,?_⟩
         replace BK287:=bkB BK287 hb
         replace BK289:=bkB BK289 hb
         replace HB:=hbS HB hb
         (try clear hb)
         (try clear hb2)
         (try clear hk)
         (try clear hi)
         refine hK.out _ _ ⟨bcell BK289 0,bcell BK289 1,bcell BK287 0⟩ (fun hHeld=>?_)
         clear hK K
         refine nm_ ?_
         refine pu_ 10 (some 23) (bm 11 2047) ?_
         refine done_ (done_of HT_.out (by kernel_rfl)) ?_
         try go_wp2
         go_ret
         exact ⟨fi_,m2_⟩
        ·replace c12:=Bool.eq_false_iff.mpr c12
         subst c12
         have H1 : (impl_MapOk.l0 k1 l0_0 (l0_0.length : Int) (wrap64 (x8_1 + 1)) l0_0) = some r:=by rw [if_neg (show ¬ (false = true) by decide)] at H;exact H
         clear H
         have H:=H1
         clear H1
         have H':=am H
         clear H
         have p288 : 0 ≤ (x8_1 : Int):=of_decide_eq_true da_
         have q288 : x8_1 < (l0_0.length : Int):=of_decide_eq_true da_
         obtain ⟨ad288,e288,hx288_0,hx288_1⟩:=at_T55 HR0_0.out x8_1 p288 q288
         cases e288
         replace hx288_0:=bcl HB hx288_0
         replace hx288_1:=bcl HB hx288_1
         replace p288:=eq_true p288
         replace q288:=eq_true q288
         try go_wp2_with (first | ((with_reducible refine gD 4 rfl ?_);refine box_event rfl (N:=4) rfl (cs:=#[.int .i64 0,.int .i64 0]) (t:=55) hr_ ?_;intro gb289 hg w21 hbox hb;have BK289:=am hbox;have GW289:=gwE HB hg;have GE289:=gwE HB hg;replace HB:=hbS HB hb;have NB287_289:=neL BK287 hg;have NB289_287:=neG BK287 hg;replace BK287:=bkB BK287 hb;clear hb hbox hg;have:=NB289_287.out;have:=NB287_289.out;have:=bcell BK289 0;have:=bcell BK289 1;have:=bfz BK289 0;have:=bfz BK289 1))
         have n0_ : Aside0 (((w21.setCell ⟨gb289,0,none⟩ (.int .i64 ((rd_T55 l0_0 x8_1).f0))).setCell ⟨gb289,1,none⟩ (.int .i64 ((rd_T55 l0_0 x8_1).f1))).heap[gb287]? = some (.cells #[.slice (some ad288) l0_0.length c0_0] 29 (0,0))):=bf_ BK287
         have n1_ : Aside0 (((w21.setCell ⟨gb289,0,none⟩ (.int .i64 ((rd_T55 l0_0 x8_1).f0))).setCell ⟨gb289,1,none⟩ (.int .i64 ((rd_T55 l0_0 x8_1).f1))).heap[gb289]? = some (.cells #[.int .i64 ((rd_T55 l0_0 x8_1).f0),.int .i64 ((rd_T55 l0_0 x8_1).f1)] 55 (0,0))):=⟨by (with_reducible repeat refine bu ?_);refine blk_put (cs:=#[.int .i64 ((rd_T55 l0_0 x8_1).f0),.int .i64 0]) ?_ 1 _ rfl;(with_reducible repeat refine bu ?_);refine blk_put (cs:=#[.int .i64 0,.int .i64 0]) ?_ 0 _ rfl;(with_reducible repeat refine bu ?_);exact BK289.out⟩
         have n2_ : Aside0 (Below w.heap.size w ((w21.setCell ⟨gb289,0,none⟩ (.int .i64 ((rd_T55 l0_0 x8_1).f0))).setCell ⟨gb289,1,none⟩ (.int .i64 ((rd_T55 l0_0 x8_1).f1)))):=⟨m2_⟩
         (try clear BK287)
         (try clear BK289)
         (try clear HB)
         generalize ((w21.setCell ⟨gb289,0,none⟩ (.int .i64 ((rd_T55 l0_0 x8_1).f0))).setCell ⟨gb289,1,none⟩ (.int .i64 ((rd_T55 l0_0 x8_1).f1))) = w24 at n0_ n1_ n2_ ⊢
         have BK287:=n0_
         have BK289:=n1_
         have HB:=n2_
         clear n0_ n1_ n2_
         replace BK287:=am (blk_drew BK287.out)
         replace BK289:=am (blk_drew BK289.out)
         replace HB:=am (below_drew1 HB.out)
         refine start_ (n:=11) (S:=fun w'=>w'.cell? ⟨gb289,0,none⟩ = some (.int .i64 ((rd_T55 l0_0 x8_1).f0)) ∧ w'.cell? ⟨gb289,1,none⟩ = some (.int .i64 ((rd_T55 l0_0 x8_1).f1)) ∧ w'.cell? ⟨gb287,0,none⟩ = some (.slice (some ad288) l0_0.length c0_0)) (ds:=[]) #[false,false,false,false,false,false,false,false,false,false,false] (by kernel_rfl) rfl rfl ⟨bcell BK289 0,bcell BK289 1,bcell BK287 0⟩ (fun hHeld=>?_);refine with_tabW impl_MapOk.tab4 impl_MapOk.bits4 (fun HT_ HW_=>?_)
         generalize w24.drew = w25 at BK287 BK289 HB hHeld ⊢
         refine tk_ 0 (some 13) (bm 11 1) rfl (.inl ⟨rfl,m7_⟩) ?_
         refine on_ 1 (some 14) (bm 11 3) (fun K hK=>?_)
         refine gR Tryz.func60 #[.agg #[.int .i64 ((rd_T55 l0_0 x8_1).f0),.int .i64 ((rd_T55 l0_0 x8_1).f1)]] ?_
         with_reducible refine (impl_EndInside.calls ((rd_T55 l0_0 x8_1).f0) ((rd_T55 l0_0 x8_1).f1) true _ A7.out).mono ?_
         rintro e w26 ⟨rfl,hb⟩
         refine ⟨_,rfl,?_⟩
         replace BK287:=bkB BK287 hb
         replace BK289:=bkB BK289 hb
         replace HB:=hbS HB hb
         (try clear hb)
         (try clear hb2)
         (try clear hk)
         (try clear hi)
         have q27 : (x8_1 : Int) ≤ ((l0_0.length : Int) : Int):=of_decide_eq_true da_
         obtain ⟨i027,hi027,_,hsz27,_⟩:=info_parts info55
         have hroom27 : l0_0.length ≤ c0_0:=HC0_0.out
         have hC27 : Kd.C k55 _ (some ad288) l0_0.length l0_0:=HR0_0.out
         have hcut27:=cut_to (P:=Tryz.prog) 27 55 .i64 Tryz.underlying27 hi027 (some ad288) l0_0.length c0_0 x8_1 (of_decide_eq_true da_) q27 hroom27
         have hr27:=Kd.C_take (m:=(x8_1 : Int).toNat) hC27 (by omega)
         have hy27 : y291.length = (x8_1 : Int).toNat:=(by rw [Ny291.out,List.length_take];omega)
         rw [← Ny291.out] at hr27
         rw [← hy27] at hcut27
         have HR294:=am hr27
         have HC294:=am (show y291.length ≤ c0_0 from by omega)
         clear hr27 hC27 hroom27 hi027 hsz27
         have KY27:=am hy27
         clear hy27
         replace q27:=eq_true q27
         refine hK.out _ _ ⟨bcell BK289 0,bcell BK289 1,bcell BK287 0⟩ (fun hHeld=>?_)
         clear hK K
         refine nm_ ?_
         refine pu_ 2 (some 15) (bm 11 7) ?_
         refine pu_ 3 (some 16) (bm 11 15) ?_
         refine pu_ 4 (some 17) (bm 11 31) ?_
         refine pu_ 6 (some 19) (bm 11 95) ?_
         refine tk_ 5 (some 18) (bm 11 127) rfl (.inl ⟨rfl,m7_⟩) ?_
         refine pu_ 7 (some 20) (bm 11 255) ?_
         refine tk_ 8 (some 21) (bm 11 511) rfl (.inl ⟨rfl,m7_⟩) ?_
         refine on_ 9 (some 22) (bm 11 1023) (fun K hK=>?_)
         refine gR Tryz.func81 #[.slice (some ad288) y291.length c0_0,.agg #[.int .i64 ((rd_T55 l0_0 x8_1).f0),.int .i64 ((rd_T55 l0_0 x8_1).f1)]] ?_
         with_reducible refine (impl_EndPoint_81.calls k1 _ _ y291 ((rd_T55 l0_0 x8_1).f0) ((rd_T55 l0_0 x8_1).f1) false _ ?side1 ?side2 A11.out).mono ?_
         (case side1=>exact m22_)
         (case side2=>exact HC294.out)
         rintro e w28 ⟨rfl,hb⟩
         refine ⟨_,rfl,?_⟩
         replace BK287:=bkB BK287 hb
         replace BK289:=bkB BK289 hb
         replace HB:=hbS HB hb
         (try clear hb)
         (try clear hb2)
         (try clear hk)
         (try clear hi)
         refine hK.out _ _ ⟨bcell BK289 0,bcell BK289 1,bcell BK287 0⟩ (fun hHeld=>?_)
         clear hK K
         refine nm_ ?_
         refine pu_ 10 (some 23) (bm 11 2047) ?_
         refine done_ (done_of HT_.out (by kernel_rfl)) ?_
         try go_wp2
         go_roundg k1
         case measure=>have:=HK1.out;omega
         case rel=>exact ⟨(wrap64 (x8_1 + 1)),rs_,H',⟨by have:=HK1.out;omega⟩,⟨bk BK287⟩,⟨m2_⟩⟩
       ·rw [if_neg c10] at H
        exact absurd H (by simp)
      ·replace c8:=Bool.eq_false_iff.mpr c8
       subst c8
       have H1 : (some false) = some r:=by rw [if_neg (show ¬ (false = true) by decide)] at H;exact H
       clear H
       have H:=H1
       clear H1
       obtain rfl:=Option.some.inj H
       have p288 : 0 ≤ (x8_1 : Int):=of_decide_eq_true da_
       have q288 : x8_1 < (l0_0.length : Int):=of_decide_eq_true da_
       obtain ⟨ad288,e288,hx288_0,hx288_1⟩:=at_T55 HR0_0.out x8_1 p288 q288
       cases e288
       replace hx288_0:=bcl HB hx288_0
       replace hx288_1:=bcl HB hx288_1
       replace p288:=eq_true p288
       replace q288:=eq_true q288
       try go_wp2_with (first | ((with_reducible refine gD 4 rfl ?_);refine box_event rfl (N:=4) rfl (cs:=#[.int .i64 0,.int .i64 0]) (t:=55) hr_ ?_;intro gb289 hg w29 hbox hb;have BK289:=am hbox;have GW289:=gwE HB hg;have GE289:=gwE HB hg;replace HB:=hbS HB hb;have NB287_289:=neL BK287 hg;have NB289_287:=neG BK287 hg;replace BK287:=bkB BK287 hb;clear hb hbox hg;have:=NB289_287.out;have:=NB287_289.out;have:=bcell BK289 0;have:=bcell BK289 1;have:=bfz BK289 0;have:=bfz BK289 1))
       have n0_ : Aside0 (((w29.setCell ⟨gb289,0,none⟩ (.int .i64 ((rd_T55 l0_0 x8_1).f0))).setCell ⟨gb289,1,none⟩ (.int .i64 ((rd_T55 l0_0 x8_1).f1))).heap[gb287]? = some (.cells #[.slice (some ad288) l0_0.length c0_0] 29 (0,0))):=bf_ BK287
       have n1_ : Aside0 (((w29.setCell ⟨gb289,0,none⟩ (.int .i64 ((rd_T55 l0_0 x8_1).f0))).setCell ⟨gb289,1,none⟩ (.int .i64 ((rd_T55 l0_0 x8_1).f1))).heap[gb289]? = some (.cells #[.int .i64 ((rd_T55 l0_0 x8_1).f0),.int .i64 ((rd_T55 l0_0 x8_1).f1)] 55 (0,0))):=⟨by (with_reducible repeat refine bu ?_);refine blk_put (cs:=#[.int .i64 ((rd_T55 l0_0 x8_1).f0),.int .i64 0]) ?_ 1 _ rfl;(with_reducible repeat refine bu ?_);refine blk_put (cs:=#[.int .i64 0,.int .i64 0]) ?_ 0 _ rfl;(with_reducible repeat refine bu ?_);exact BK289.out⟩
       have n2_ : Aside0 (Below w.heap.size w ((w29.setCell ⟨gb289,0,none⟩ (.int .i64 ((rd_T55 l0_0 x8_1).f0))).setCell ⟨gb289,1,none⟩ (.int .i64 ((rd_T55 l0_0 x8_1).f1)))):=⟨m2_⟩
       (try clear BK287)
       (try clear BK289)
       (try clear HB)
       generalize ((w29.setCell ⟨gb289,0,none⟩ (.int .i64 ((rd_T55 l0_0 x8_1).f0))).setCell ⟨gb289,1,none⟩ (.int .i64 ((rd_T55 l0_0 x8_1).f1))) = w32 at n0_ n1_ n2_ ⊢
       have BK287:=n0_
       have BK289:=n1_
       have HB:=n2_
       clear n0_ n1_ n2_
       replace BK287:=am (blk_drew BK287.out)
       replace BK289:=am (blk_drew BK289.out)
       replace HB:=am (below_drew1 HB.out)
       refine start_ (n:=11) (S:=fun w'=>w'.cell? ⟨gb289,0,none⟩ = some (.int .i64 ((rd_T55 l0_0 x8_1).f0)) ∧ w'.cell? ⟨gb289,1,none⟩ = some (.int .i64 ((rd_T55 l0_0 x8_1).f1))) (ds:=[]) #[false,false,false,false,false,false,false,false,false,false,false] (by kernel_rfl) rfl rfl ⟨bcell BK289 0,bcell BK289 1⟩ (fun hHeld=>?_);refine with_tabW impl_MapOk.tab4 impl_MapOk.bits4 (fun HT_ HW_=>?_)
       generalize w32.drew = w33 at BK287 BK289 HB hHeld ⊢
       refine tk_ 0 (some 13) (bm 11 1) rfl (.inl ⟨rfl,m4_⟩) ?_
       refine on_ 1 (some 14) (bm 11 3) (fun K hK=>?_)
       refine gR Tryz.func60 #[.agg #[.int .i64 ((rd_T55 l0_0 x8_1).f0),.int .i64 ((rd_T55 l0_0 x8_1).f1)]] ?_
       with_reducible refine (impl_EndInside.calls ((rd_T55 l0_0 x8_1).f0) ((rd_T55 l0_0 x8_1).f1) false _ A7.out).mono ?_
       rintro e w34 ⟨rfl,hb⟩
       refine ⟨_,rfl,?_⟩
       replace BK287:=bkB BK287 hb
       replace BK289:=bkB BK289 hb
       replace HB:=hbS HB hb
       (try clear hb)
       (try clear hb2)
       (try clear hk)
       (try clear hi)
       refine hK.out _ _ ⟨bcell BK289 0,bcell BK289 1⟩ (fun hHeld=>?_)
       clear hK K
       refine nm_ ?_
       refine pu_ 2 (some 15) (bm 11 7) ?_
       refine pu_ 3 (some 16) (bm 11 15) ?_
       refine pv_ 4 (some 17) (bm 11 31) ?_
       refine pv_ 5 (some 18) (bm 11 63) ?_
       refine pv_ 6 (some 19) (bm 11 127) ?_
       refine pv_ 7 (some 20) (bm 11 255) ?_
       refine pv_ 8 (some 21) (bm 11 511) ?_
       refine pv_ 9 (some 22) (bm 11 1023) ?_
       refine pu_ 10 (some 23) (bm 11 2047) ?_
       refine done_ (done_of HT_.out (by kernel_rfl)) ?_
       try go_wp2
       go_ret
       exact ⟨fi_,m2_⟩
     ·rw [if_neg c6] at H
      exact absurd H (by simp)
    ·rw [if_neg c5] at H
     exact absurd H (by simp)
   ·rw [if_neg c4] at H
    have c4b0 : decide (x8_1 < (l0_0.length : Int)) = false:=decide_eq_false c4
    clear c4
    obtain rfl:=Option.some.inj H
    have:=bcell BK287 0
    have:=bfz BK287 0
    go_wp2
    go_ret
    exact ⟨fi_,m2_⟩
def impl_lineByte.f (a0 : Int) : Option (Bool):=if a0 ≥ 97 then (if a0 ≤ 122 then (some true) else (if a0 ≥ 48 then (if a0 ≤ 57 then (some true) else (some (a0 == 32))) else (some (a0 == 32)))) else (if a0 ≥ 48 then (if a0 ≤ 57 then (some true) else (some (a0 == 32))) else (some (a0 == 32)))
set_option maxHeartbeats 8000000 in
set_option maxRecDepth 100000 in
theorem impl_lineByte.calls (a0 : Int) (r : Bool) (w : World) (h : impl_lineByte.f a0 = some r) :
  Calls Tryz.prog 73 #[.int .u8 a0] w fun e w'=>e = .returned (.bool r) ∧ Drawn0 w w':=by
 have H : (if a0 ≥ 97 then (if a0 ≤ 122 then (some true) else (if a0 ≥ 48 then (if a0 ≤ 57 then (some true) else (some (a0 == 32))) else (some (a0 == 32)))) else (if a0 ≥ 48 then (if a0 ≤ 57 then (some true) else (some (a0 == 32))) else (some (a0 == 32)))) = some r:=h
 clear h
 by_cases c2 : a0 ≥ 97
 ·rw [if_pos c2] at H
  have c2b0 : decide (97 ≤ a0) = true:=decide_eq_true c2
  clear c2
  by_cases c3 : a0 ≤ 122
  ·rw [if_pos c3] at H
   have c3b0 : decide (a0 ≤ 122) = true:=decide_eq_true c3
   clear c3
   obtain rfl:=Option.some.inj H
   go_enter Tryz.func73,Tryz.ntmps73
   go_wp2
   go_ret
   exact ⟨fr_,dn_⟩
  ·rw [if_neg c3] at H
   have c3b0 : decide (a0 ≤ 122) = false:=decide_eq_false c3
   clear c3
   by_cases c4 : a0 ≥ 48
   ·rw [if_pos c4] at H
    have c4b0 : decide (48 ≤ a0) = true:=decide_eq_true c4
    clear c4
    by_cases c5 : a0 ≤ 57
    ·rw [if_pos c5] at H
     have c5b0 : decide (a0 ≤ 57) = true:=decide_eq_true c5
     clear c5
     obtain rfl:=Option.some.inj H
     go_enter Tryz.func73,Tryz.ntmps73
     go_wp2
     go_ret
     exact ⟨fr_,dn_⟩
    ·rw [if_neg c5] at H
     have c5b0 : decide (a0 ≤ 57) = false:=decide_eq_false c5
     clear c5
     obtain rfl:=Option.some.inj H
     go_enter Tryz.func73,Tryz.ntmps73
     go_wp2
     go_ret
     exact ⟨fr_,dn_⟩
   ·rw [if_neg c4] at H
    have c4b0 : decide (48 ≤ a0) = false:=decide_eq_false c4
    clear c4
    obtain rfl:=Option.some.inj H
    go_enter Tryz.func73,Tryz.ntmps73
    go_wp2
    go_ret
    exact ⟨fr_,dn_⟩
 ·rw [if_neg c2] at H
  have c2b0 : decide (97 ≤ a0) = false:=decide_eq_false c2
  clear c2
  by_cases c6 : a0 ≥ 48
  ·rw [if_pos c6] at H
   have c6b0 : decide (48 ≤ a0) = true:=decide_eq_true c6
   clear c6
   by_cases c7 : a0 ≤ 57
   ·rw [if_pos c7] at H
    have c7b0 : decide (a0 ≤ 57) = true:=decide_eq_true c7
    clear c7
    obtain rfl:=Option.some.inj H
    go_enter Tryz.func73,Tryz.ntmps73
    go_wp2
    go_ret
    exact ⟨fr_,dn_⟩
   ·rw [if_neg c7] at H
    have c7b0 : decide (a0 ≤ 57) = false:=decide_eq_false c7
    clear c7
    obtain rfl:=Option.some.inj H
    go_enter Tryz.func73,Tryz.ntmps73
    go_wp2
    go_ret
    exact ⟨fr_,dn_⟩
  ·rw [if_neg c6] at H
   have c6b0 : decide (48 ≤ a0) = false:=decide_eq_false c6
   clear c6
   obtain rfl:=Option.some.inj H
   go_enter Tryz.func73,Tryz.ntmps73
   go_wp2
   go_ret
   exact ⟨fr_,dn_⟩
end
def lb (b : Int) : Bool:=(97 ≤ b && b ≤ 122) || ((48 ≤ b && b ≤ 57) || b == 32)
theorem lb_f (b : Int) : impl_lineByte.f b = some (lb b):=by
  unfold impl_lineByte.f lb
  by_cases h1 : 97 ≤ b <;> by_cases h2 : b ≤ 122 <;> by_cases h3 : 48 ≤ b <;> by_cases h4 : b ≤ 57 <;> simp [h1,h2,h3,h4]
def bys (s : ByteArray) : List Int:=s.data.toList.map fun b=>(b.toNat : Int)
def linOk (s : ByteArray) : Bool:=(bys s).all lb && decide (s.size ≤ 16)
def impl_LinOk.f (s : ByteArray) : Option Bool:=if s.size ≤ 140737488351232 then some (linOk s) else none
theorem bys_get (s : ByteArray) (k : Nat) (h : k < s.size) : ((s.data.toList.getD k 0).toNat : Int) = (bys s)[k]'(by simpa [bys] using h):=by
  have h' : k < s.data.toList.length:=by simpa using h
  simp [bys,List.getD,List.getElem?_eq_getElem h']
theorem below_bytes (w : World) (e : TypeId) (s : ByteArray) : Below w.heap.size w (Lib.bytesWorld w e s):=
  ⟨rfl,rfl,rfl,by rw [Lib.bytesWorld_size];omega,fun i hi=>Lib.bytesWorld_at_old w e s i hi⟩
set_option maxHeartbeats 1000000 in
set_option maxRecDepth 100000 in
theorem impl_LinOk.calls (a0 : ByteArray) (r : Bool) (w : World) (h : impl_LinOk.f a0 = some r) :
    Calls Tryz.prog 50 #[.string a0] w fun e w'=>e = .returned (.bool r) ∧ Below w.heap.size w w':=by
  have hs : a0.size ≤ 140737488351232:=by
    unfold impl_LinOk.f at h
    split at h
    · assumption
    · cases h
  have hr : r = linOk a0:=by
    unfold impl_LinOk.f at h
    rw [if_pos hs] at h
    exact (Option.some.inj h).symm
  have HR:=Lib.hid hr
  clear hr h
  have hcv:=fun (w : World)=>Lib.run_convert_string_bytes (P:=Tryz.prog) w 9 39 5 a0 Tryz.underlying9 Tryz.underlying39 Tryz.underlying5
  go_enter Tryz.func50,Tryz.ntmps50
  go_wp2_with fail
  obtain ⟨W0,hW0⟩ : ∃ W0,Lib.bytesWorld w 5 a0 = W0:=⟨_,rfl⟩
  have hbw : Below w.heap.size w W0:=by rw [← hW0];exact below_bytes w 5 a0
  have hcW:=Lib.hid (fun k (hk : k < a0.size)=>(by rw [← hW0];exact Lib.bytesWorld_cell w 5 a0 k hk : W0.cell? ⟨w.heap.size,k,none⟩ = some (.int .u8 (a0.data.toList.getD k 0).toNat)))
  have HBW:=Lib.hid hbw
  rw [hW0]
  clear hW0 hcv hbw
  go_loopw [4,8] (fun b i wr=>∃ k : Nat,k ≤ a0.size ∧ i = .int .i64 k ∧ Aside0 (((bys a0).take k).all lb = true) ∧ Aside0 (Drawn0 W0 wr)) (fun _ i _=>a0.size - (intOf i).toNat)
  case atStart=>exact ⟨0,Nat.zero_le _,rfl,⟨by simp⟩,⟨Drawn0.refl _⟩⟩
  case round=>
    obtain ⟨k,hk,rfl,ha,hd⟩:=hrel
    by_cases hlt : k < a0.size
    · obtain ⟨nd,hnd⟩:=hd.out.out
      subst hnd
      have hg:=bys_get a0 k hlt
      have hc0:=hcW.out k hlt
      obtain ⟨x,hx⟩ : ∃ x : Int,((a0.data.toList.getD k 0).toNat : Int) = x:=⟨_,rfl⟩
      rw [hx] at hg hc0
      have hc : (W0.drewN nd).cell? ⟨w.heap.size,k,none⟩ = some (.int .u8 x):=hc0
      have hlen : (bys a0).length = a0.size:=by simp [bys]
      have htk : (bys a0).take (k + 1) = (bys a0).take k ++ [x]:=by
        rw [List.take_succ_eq_append_getElem (by omega),← hg]
      have HT:=Lib.hid htk
      have HL:=Lib.hid hlen
      have HG:=Lib.hid hg
      clear hx hg hc0 htk hlen
      cases hb : lb x with
      | true=>
        have HL':=Lib.hid hb
        have hfb : impl_lineByte.f x = some true:=by rw [lb_f,hb]
        have HF:=Lib.hid hfb
        clear hb hfb
        go_wp2_with (go_at_call 73;refine (impl_lineByte.calls _ true _ HF.out).mono ?_;rintro e wq ⟨rfl,⟨nq,rfl⟩⟩)
        go_roundw
        case rel=>exact ⟨k + 1,by omega,by go_num,⟨by rw [HT.out,List.all_append,ha.out];simp [HL'.out]⟩,⟨⟨⟨_,rfl⟩⟩⟩⟩
        case measure=>simp [intOf];omega
      | false=>
        have HL':=Lib.hid hb
        have hfb : impl_lineByte.f x = some false:=by rw [lb_f,hb]
        have HF:=Lib.hid hfb
        clear hb hfb
        go_wp2_with (go_at_call 73;refine (impl_lineByte.calls _ false _ HF.out).mono ?_;rintro e wq ⟨rfl,⟨nq,rfl⟩⟩)
        go_ret
        have hfl : linOk a0 = false:=by
          unfold linOk
          have : (bys a0).all lb = false:=by
            rw [List.all_eq_false]
            exact ⟨x,by rw [HG.out];exact List.getElem_mem _,by simp [HL'.out]⟩
          simp [this]
        exact ⟨by rw [HR.out,hfl];rfl,HBW.out.trans ((Drawn0.below ⟨⟨_,rfl⟩⟩).mono HBW.out.size)⟩
    · obtain ⟨nd,hnd⟩:=hd.out.out
      subst hnd
      have hk2 : k = a0.size:=by omega
      subst hk2
      have hlen : (bys a0).length = a0.size:=by simp [bys]
      have hall : (bys a0).all lb = true:=by have:=ha.out;rwa [List.take_of_length_le (by omega)] at this
      have HA:=Lib.hid hall
      clear hall hlen
      have hfin : linOk a0 = decide ((a0.size : Int) ≤ 16):=by
        rw [linOk,HA.out,Bool.true_and]
        exact decide_eq_decide.mpr (by omega)
      have HFIN:=Lib.hid hfin
      clear hfin
      by_cases h16 : (a0.size : Int) ≤ 16
      · go_wp2
        go_ret
        exact ⟨by rw [HR.out,HFIN.out,decide_eq_true h16];rfl,HBW.out.trans ((Drawn0.below hd.out).mono HBW.out.size)⟩
      · go_wp2
        go_ret
        exact ⟨by rw [HR.out,HFIN.out,decide_eq_false (by omega)];rfl,HBW.out.trans ((Drawn0.below hd.out).mono HBW.out.size)⟩
end Go.Proofs.YtakfmcpjnkagmaaGreatDoor.P
namespace Go.Proofs.YtakfmcpjnkagmaaGreatDoor.P
open Go Go.RowKit
set_option linter.unusedVariables false
set_option linter.unusedSimpArgs false
theorem bax {a b : ByteArray} (h : a.data.toList = b.data.toList) : a = b:=by
  cases a;cases b;simp at h;rw [h]
theorem len_data (s : ByteArray) : s.data.toList.length = s.size:=by rw [Array.length_toList];rfl
def lineL : ByteArray → List UInt8 → List ByteArray
  | _,[]=>[]
  | w,c :: r=>if c = 59 then w :: lineL ⟨#[]⟩ r else lineL (w ++ ⟨#[c]⟩) r
def restL : ByteArray → List UInt8 → ByteArray
  | w,[]=>w
  | w,c :: r=>if c = 59 then restL ⟨#[]⟩ r else restL (w ++ ⟨#[c]⟩) r
def linesB (s : ByteArray) : List ByteArray:=lineL ⟨#[]⟩ s.data.toList
def restB (s : ByteArray) : ByteArray:=restL ⟨#[]⟩ s.data.toList
def cutS (s : ByteArray) : ByteArray × ByteArray × Bool:=(⟨(Lib.cut s.data.toList [59]).1.toArray⟩,⟨(Lib.cut s.data.toList [59]).2.1.toArray⟩,(Lib.cut s.data.toList [59]).2.2)
theorem line_index : ∀ (l : List UInt8) (w : ByteArray),(Lib.index l [59] = -1 → lineL w l = [] ∧ restL w l = w ++ ⟨l.toArray⟩) ∧
    (∀ i : Nat,Lib.index l [59] = i → lineL w l = (w ++ ⟨(l.take i).toArray⟩) :: lineL ⟨#[]⟩ (l.drop (i + 1)) ∧ restL w l = restL ⟨#[]⟩ (l.drop (i + 1)) ∧ i < l.length)
  | [],w=>⟨fun _=>⟨rfl,bax (by simp [restL])⟩,fun i h=>by simp [Lib.index] at h⟩
  | b :: l,w=>by
    by_cases hb : b = 59
    · subst hb
      have hix : Lib.index (59 :: l) [59] = 0:=by rw [Lib.index];simp [List.isPrefixOf]
      refine ⟨fun h=>by omega,fun i h=>?_⟩
      have hi : i = 0:=by omega
      subst hi
      refine ⟨?_,?_,by simp⟩
      · simp only [lineL,if_true,List.take_zero,Nat.zero_add,List.drop_succ_cons,List.drop_zero]
        congr 1;exact bax (by simp)
      · simp [restL]
    · have hp : ([59] : List UInt8).isPrefixOf (b :: l) = false:=by simp [List.isPrefixOf,Ne.symm hb]
      have hix : Lib.index (b :: l) [59] = if Lib.index l [59] == -1 then -1 else Lib.index l [59] + 1:=by rw [Lib.index,hp];simp
      obtain ⟨i1,i2⟩:=line_index l (w ++ ⟨#[b]⟩)
      have hge:=Lib.index_ge l [59]
      refine ⟨fun h=>?_,fun i h=>?_⟩
      · have hm : Lib.index l [59] = -1:=by
          rw [hix] at h
          by_cases hm : Lib.index l [59] = -1
          · exact hm
          · rw [if_neg (fun e=>hm (beq_iff_eq.1 e))] at h;omega
        obtain ⟨a1,a2⟩:=i1 hm
        simp only [lineL,restL,if_neg hb]
        exact ⟨a1,by rw [a2];exact bax (by simp)⟩
      · have hm : Lib.index l [59] ≠ -1:=fun hm=>by rw [hix,if_pos (beq_iff_eq.2 hm)] at h;omega
        rw [hix,if_neg (fun e=>hm (beq_iff_eq.1 e))] at h
        obtain ⟨j,hj⟩ : ∃ j : Nat,Lib.index l [59] = j:=⟨(Lib.index l [59]).toNat,by omega⟩
        have hi : i = j + 1:=by omega
        subst hi
        obtain ⟨a1,a2,a3⟩:=i2 j hj
        simp only [lineL,restL,if_neg hb,List.take_succ_cons,List.drop_succ_cons]
        refine ⟨?_,a2,by simp;omega⟩
        rw [a1];congr 1;exact bax (by simp)
theorem lines_hit {s : ByteArray} (h : (cutS s).2.2 = true) : linesB s = (cutS s).1 :: linesB (cutS s).2.1 ∧ restB s = restB (cutS s).2.1 ∧ (cutS s).2.1.size < s.size:=by
  have hge:=Lib.index_ge s.data.toList [59]
  have hc : 0 ≤ Lib.index s.data.toList [59]:=by
    unfold cutS Lib.cut at h
    by_cases hc : 0 ≤ Lib.index s.data.toList [59]
    · exact hc
    · rw [if_neg hc] at h;cases h
  obtain ⟨i,hi⟩ : ∃ i : Nat,Lib.index s.data.toList [59] = i:=⟨(Lib.index s.data.toList [59]).toNat,by omega⟩
  obtain ⟨a1,a2,a3⟩:=(line_index s.data.toList ⟨#[]⟩).2 i hi
  have e : Lib.cut s.data.toList [59] = (s.data.toList.take i,s.data.toList.drop (i + 1),true):=by
    unfold Lib.cut;rw [hi,if_pos (by omega)];simp
  unfold cutS linesB restB
  rw [e]
  refine ⟨?_,a2,?_⟩
  · rw [a1]
    have e1 : (⟨#[]⟩ : ByteArray) ++ ⟨(s.data.toList.take i).toArray⟩ = ⟨(s.data.toList.take i).toArray⟩:=bax (by simp)
    rw [e1]
  · have:=len_data s
    show (s.data.toList.drop (i + 1)).toArray.size < s.size
    rw [List.size_toArray,List.length_drop]
    omega
theorem lines_miss {s : ByteArray} (h : (cutS s).2.2 = false) : linesB s = [] ∧ restB s = s:=by
  have hge:=Lib.index_ge s.data.toList [59]
  have hc : Lib.index s.data.toList [59] = -1:=by
    unfold cutS Lib.cut at h
    by_cases hc : 0 ≤ Lib.index s.data.toList [59]
    · rw [if_pos hc] at h;cases h
    · omega
  obtain ⟨a1,a2⟩:=(line_index s.data.toList ⟨#[]⟩).1 hc
  exact ⟨a1,by unfold restB;rw [a2];exact bax (by simp)⟩
theorem lineL_count : ∀ (l : List UInt8) (w : ByteArray),(lineL w l).length = l.count 59
  | [],_=>rfl
  | c :: l,w=>by
    unfold lineL
    by_cases h : c = 59
    · subst h;simp [lineL_count l]
    · rw [if_neg h,lineL_count l,List.count_cons_of_ne (by simpa using h)]
theorem linesB_count (s : ByteArray) : (linesB s).length = Lib.countByte s.data.toList 59:=lineL_count _ _
theorem restL_no : ∀ (l : List UInt8) (w : ByteArray),(∀ c ∈ l,c ≠ 59) → restL w l = w ++ ⟨l.toArray⟩
  | [],w,_=>bax (by simp [restL])
  | c :: l,w,h=>by
    unfold restL
    rw [if_neg (h c (by simp)),restL_no l _ (fun x hx=>h x (by simp [hx]))]
    exact bax (by simp)
theorem restL_at : ∀ (x y : List UInt8) (w : ByteArray),restL w (x ++ 59 :: y) = restL ⟨#[]⟩ y
  | [],y,w=>by simp [restL]
  | c :: x,y,w=>by
    rw [List.cons_append,restL]
    by_cases h : c = 59
    · rw [if_pos h];exact restL_at x y _
    · rw [if_neg h];exact restL_at x y _
theorem byte_get (s : ByteArray) (j : Nat) (h : j < s.size) : s.data[j]! = s.data.toList[j]'(by rw [len_data];exact h):=by
  have : j < s.data.size:=h
  rw [getElem!_pos s.data j this]
  simp
theorem restB_last (s : ByteArray) : -1 ≤ Lib.lastIndexByte s 59 ∧ Lib.lastIndexByte s 59 < s.size ∧ restB s = s.extract (Lib.lastIndexByte s 59 + 1).toNat s.size:=by
  have hl:=len_data s
  rcases Lib.lastIdx_spec s 59 s.size with ⟨e,hno⟩ | ⟨i,hi,e,hc,hno⟩
  · have e' : Lib.lastIndexByte s 59 = -1:=e
    rw [e']
    refine ⟨by omega,by omega,?_⟩
    unfold restB
    rw [restL_no _ _ (fun c hc=>by
      obtain ⟨j,hj,rfl⟩:=List.getElem_of_mem hc
      intro e2
      have:=hno j (by omega)
      rw [byte_get s j (by omega),e2] at this
      exact this rfl)]
    apply bax
    rw [Lib.extract_data]
    simp
    rw [List.take_of_length_le (by simp)]
  · have e' : Lib.lastIndexByte s 59 = i:=e
    rw [e']
    refine ⟨by omega,by omega,?_⟩
    have hli : i < s.data.toList.length:=by omega
    have hsp : s.data.toList = s.data.toList.take i ++ 59 :: s.data.toList.drop (i + 1):=by
      have h59 : s.data.toList[i] = 59:=by
        rw [byte_get s i hi] at hc
        exact UInt8.toNat_inj.mp (by have : ((59 : UInt8).toNat : Int) = 59:=rfl;omega)
      have hd : s.data.toList.drop i = s.data.toList[i] :: s.data.toList.drop (i + 1):=List.drop_eq_getElem_cons hli
      rw [h59] at hd
      rw [← hd,List.take_append_drop]
    unfold restB
    rw [hsp,restL_at,restL_no _ _ (fun c hc=>by
      obtain ⟨j,hj,rfl⟩:=List.getElem_of_mem hc
      intro e2
      simp only [List.length_drop] at hj
      have h1:=hno (i + 1 + j) (by omega) (by omega)
      rw [byte_get s (i + 1 + j) (by omega)] at h1
      rw [List.getElem_drop] at e2
      rw [e2] at h1
      exact h1 rfl)]
    apply bax
    rw [Lib.extract_data]
    have e3 : ((i : Int) + 1).toNat = i + 1:=by omega
    rw [e3]
    simp
    rw [List.take_of_length_le (by simp)]
end Go.Proofs.YtakfmcpjnkagmaaGreatDoor.P
namespace Go.Proofs.YtakfmcpjnkagmaaGreatDoor.P
open Go Go.RowKit
set_option linter.unusedVariables false
variable {F : Fence} {n : Nat} {P : Program}
def SeqRuns {α : Type} (F : Fence) (n : Nat) (P : Program) (g : Nat) (lb : Array Value) (encs : α → Array Value) (Kp T : World → World → Prop) (S : List α → Prop) (Nx : List α → α → Prop) (w : World) : Prop:=
  ∀ (l : Nat) (J : List α → World → Prop) (W : World),Below w.heap.size w W → AbidesFrom W.heap.size J → (∀ s A B,J s A → T A B → J s B) →
    (∀ pre x W1,J pre W1 → Nx pre x → YieldAt F (n - 1) P l (encs x) W1 fun e W'=>e = .returned (.bool true) ∧ J (pre ++ [x]) W' ∧ Kp W1 W') →
    J [] W → CallsIn F n P g (#[.func (.yield l) #[] #[]] ++ lb) W fun e W'=>(∃ v,e = .returned v) ∧ ∃ xs,S xs ∧ J xs W'
theorem wpIn_rangeFunc_runs {α : Type} {g : Operand} {ps : Array Tmp} {assign body : Code} {Q : Exit → Act → World → Prop} {a : Act} {w : World}
    (hro : F.round = none) (h1 : 1 ≤ n) {gf : Nat} {lb : Array Value} (hg : a.eval g = .func (.func gf) #[] lb) (hFg : F.fn gf) (eg : ∀ args w,(callFunc gf args).run P w = .ok (.enter gf args) w)
    {encs : α → Array Value} {Kp T : World → World → Prop} {S : List α → Prop} {Nx : List α → α → Prop} {w0 : World} (hseq : SeqRuns F (n - 1) P gf lb encs Kp T S Nx w0)
    (hKt : ∀ {A B C : World},Kp A B → Kp B C → Kp A C) (hKb : ∀ (W : World) (l : Nat) (o o' : Obj),w.heap.size ≤ l → W.heap[l]? = some o → o.isCells = false → o.isWalk = false → Kp W (W.putObj l o'))
    (hTk : ∀ A B,T A B → ∀ k,w.heap.size ≤ k → B.heap[k]? = A.heap[k]?)
    (hb0 : Below w0.heap.size w0 w) (hps : ∀ x,(encs x).size = ps.size)
    (I : List α → World → Prop) (hI : OwnFrom w.heap.size I) (hIT : ∀ s A B,I s A → T A B → I s B) (h0 : I [] w) (a₁ : α → Act)
    (hassign : ∀ (l : Nat) (x : α) (W : World) (K : Act → World → Prop),K (a₁ x) W →
      assign.wpIn (F.inRound l) (n - 1 - 1) P (Exit.then K (fun _ _ _=>False)) { tmps:=(ps.zip (encs x)).foldl (fun t (p,v)=>t.setIfInBounds p v) a.tmps,defers:=[] } W)
    (hbody : ∀ (l : Nat) (pre : List α) (x : α) (W : World),I pre W → Nx pre x → body.wpIn (F.inRound l) (n - 1 - 1) P (ownPostK Kp I (fun _ _ _=>False) (pre ++ [x]) W) (a₁ x) W)
    (hdone : ∀ (D : Nat) (xs : List α) (W : World),w.heap.size ≤ D → S xs → I xs W → W.heap[D]? = some (.deferred (some [])) → Q .normal { a with defers:={ target:=.collected D,args:=#[] } :: a.defers } W) :
    (Code.rangeFunc g ps assign body).wpIn F n P Q a w:=by
  refine wpIn_rangeFunc fun fn hfn=>?_
  rw [hro]
  -- the loop's record L st, at block w.heap.size + 1; the block for the rounds' deferred calls ahead of it
  obtain ⟨L,hL⟩ : ∃ L : LoopState → Option Code → Loop,L = fun st pe=>{ state:=st,pending:=pe,fn,tmps:=a.tmps,params:=ps,assign,body,defers:=w.heap.size }:=⟨_,rfl⟩
  obtain ⟨V,hV⟩ : ∃ V,(w.alloc (.deferred (some []))).alloc (.loop (L .ready none)) = V:=⟨_,rfl⟩
  have vsz : V.heap.size = w.heap.size + 2:=by rw [← hV];simp
  have vl : V.heap[w.heap.size + 1]? = some (.loop (L .ready none)):=by
    have:=World.alloc_heap_new (w.alloc (.deferred (some []))) (.loop (L .ready none))
    rw [World.size_alloc,hV] at this
    exact this
  have vd : V.heap[w.heap.size]? = some (.deferred (some [])):=by
    rw [← hV];exact (Below.heap_alloc _ _ _ (by simp)).trans (World.alloc_heap_new w _)
  have vi : I [] V:=by rw [← hV];exact hI.alloc _ (hI.alloc _ h0)
  have vb : Below w0.heap.size w0 V:=by
    rw [← hV];exact hb0.trans ((((Below.refl _ w).alloc (Nat.le_refl _) _).alloc (by simp) _).mono hb0.size)
  refine ⟨w.heap.size + 1,[{ target:=.collected w.heap.size,args:=#[] }],V,{ target:=.fn (.func gf) lb,args:=#[.func (.yield (w.heap.size + 1)) #[] #[]] },V,gf,
    #[.func (.yield (w.heap.size + 1)) #[] #[]] ++ lb,V,?_,?_,?_,?_,fun _=>h1,?_⟩
  · rw [← hV,hL];exact run_enterLoop_outer _ _ _ _ _
  · simp only [resolve,hg];simp [go_sem]
  · intro f' hf';simp [Target.leads] at hf';subst hf';exact hFg
  · simp [invoke,go_sem,eg]
  have keep : ∀ {A B : World} {row : Option Nat} {k : Nat} {o : Obj},A.grownBy B row → (∀ r,row = some r → V.heap.size ≤ r ∧ ∃ o : Obj,A.heap[r]? = some o ∧ o.isWalk = true) → A.heap[k]? = some o → o.isWalk = false → B.heap[k]? = some o:=
    fun hg' hr hk ho=>(grownBy_keeps hg' (fun r e=>(hr r e).2) hk ho).trans hk
  refine (hseq (w.heap.size + 1) (fun pre W=>I pre W ∧ W.heap[w.heap.size + 1]? = some (.loop (L .ready none)) ∧ W.heap[w.heap.size]? = some (.deferred (some []))) V vb ?abide ?turn ?round ⟨vi,vl,vd⟩).mono ?after
  case abide=>
    rintro s A B row ⟨i1,i2,i3⟩ hg' hr
    exact ⟨hI s A B row i1 hg' (fun r e=>by obtain ⟨q1,o,q2,q3⟩:=hr r e;exact ⟨by omega,o,q2,Obj.not_cells_of_walk q3⟩),keep hg' hr i2 rfl,keep hg' hr i3 rfl⟩
  case turn=>
    rintro s A B ⟨i1,i2,i3⟩ ht
    exact ⟨hIT s A B i1 ht,(hTk A B ht _ (by omega)).trans i2,(hTk A B ht _ (Nat.le_refl _)).trans i3⟩
  case round=>
    rintro pre x W ⟨i1,i2,i3⟩ hlen
    have lt:=(Array.getElem?_eq_some_iff.1 i2).1
    have hy:=run_yield (P:=P) (args:=encs x) i2 (by rw [hL];exact hps x)
    rw [hL] at hy
    refine ⟨fn,_,assign,body,hy,roundIn_of_wpIn hfn (hassign _ x W _ ⟨_,run_beginRound i2 (by rw [hL]),?_⟩)⟩
    obtain ⟨R,hR⟩ : ∃ R,W.putObj (w.heap.size + 1) (.loop { L .ready none with state:=.busy }) = R:=⟨_,rfl⟩
    have r2 : R.heap[w.heap.size + 1]? = some (.loop { L .ready none with state:=.busy }):=by rw [← hR];exact World.putObj_heap_same lt
    have r3 : R.heap[w.heap.size]? = some (.deferred (some [])):=by rw [← hR];exact (World.putObj_heap_other (by omega)).trans i3
    have rk : Kp W R:=by rw [← hR];exact hKb _ _ _ _ (by omega) i2 rfl rfl
    have ri : I pre R:=by rw [← hR];exact hI.putObj _ i1 (by omega) i2 rfl
    rw [hR]
    refine wpIn_mono (hbody _ pre x R ri hlen) ?_
    rintro e a3 X hp
    cases e with
    | normal=>
      obtain ⟨k1,k2,k3⟩:=hp
      have x2:=k1.same _ _ r2 rfl
      have x3:=k1.same _ _ r3 rfl
      have hend:=run_endRound (P:=P) none x2
      rw [hL] at hend
      refine ⟨_,_,hend,rfl,⟨hI.putObj _ k3 (by omega) x2 rfl,?_,(World.putObj_heap_other (by omega)).trans x3⟩,hKt (hKt rk k2) (hKb _ _ _ _ (by omega) x2 rfl rfl)⟩
      have:=World.putObj_heap_same (w:=X) (o:=.loop (L .ready none)) (Array.getElem?_eq_some_iff.1 x2).1
      rw [hL] at this ⊢
      exact this
    | ret=>exact hp.2.elim
    | exit id=>exact hp.2.elim
    | goto t=>exact hp.2.elim
    | panic ch=>exact hp.elim
    | outgrown=>exact hp.elim
  case after=>
    rintro e X ⟨⟨v,rfl⟩,xs,hS,i1,i2,i3⟩
    refine ⟨none,_,by have:=run_endLoop (P:=P) i2 (by rw [hL];simp);rw [hL] at this;exact this,hdone _ xs _ (Nat.le_refl _) hS (hI.putObj _ i1 (by omega) i2 rfl) ((World.putObj_heap_other (by omega)).trans i3)⟩
end Go.Proofs.YtakfmcpjnkagmaaGreatDoor.P
namespace Go.Proofs.YtakfmcpjnkagmaaGreatDoor.P
open Go.Proofs.YtakfmcpjnkagmaaGreatDoorUPoSp.PrintLast Go.Proofs.YtakfmcpjnkagmaaGreatDoorUPoSp.PrintMore Go.Proofs.YtakfmcpjnkagmaaGreatDoorUPoSp.PrintWords Go.RowKit Go.Shelf
set_option linter.unusedVariables false
set_option linter.unusedSimpArgs false
section
attribute [local go_sem] Oper.semAt_some
theorem linesOf0 (s : ByteArray) (w : World) :
    Calls Tryz.prog 52 #[.string s] w fun e w'=>e = .returned (.func (.func 77) #[] #[.pointer (some ⟨w.heap.size,0,none⟩)]) ∧ w' = w.alloc (.cells #[.string s] 9):=by
  go_enter Tryz.func52,Tryz.ntmps52
  go_wp2
  go_ret
  exact ⟨rfl,rfl⟩
theorem cutS_calls (s : ByteArray) (hs : s.size < 4294967281) (w : World) (hE : Env w) :
    Calls Tryz.prog 78 #[.string s,.string (⟨#[59]⟩ : ByteArray)] w fun e w'=>e = .returned (.tuple #[.string (cutS s).1,.string (cutS s).2.1,.bool (cutS s).2.2]) ∧ ∃ n,w' = w.drewN n:=by
  obtain ⟨m,hm⟩:=hE.max
  refine (Tryz.strings_Cut s _ m w hs hm).mono ?_
  rintro e w' ⟨rfl,n,rfl⟩
  exact ⟨rfl,n,rfl⟩
def KpL (n₀ b : Nat) (W W' : World) : Prop:=Below n₀ W W' ∧ W'.heap[b]? = W.heap[b]?
theorem KpL.trans {n₀ b : Nat} {A B C : World} (h : KpL n₀ b A B) (k : KpL n₀ b B C) : KpL n₀ b A C:=⟨h.1.trans k.1,k.2.trans h.2⟩
def TuL (b : Nat) (A B : World) : Prop:=∃ v,B = A.setCell ⟨b,0,none⟩ v
def leftL (b : Nat) (w : World) : Nat:=match w.cell? ⟨b,0,none⟩ with | some (.string s)=>s.size | _=>0
theorem leftL_of {b : Nat} {w : World} {s : ByteArray} (h : w.cell? ⟨b,0,none⟩ = some (.string s)) : leftL b w = s.size:=by unfold leftL;rw [h]
theorem abide_below {B : Nat} {β : Type} {J : β → World → Prop} (hA : AbidesFrom B J) {s : β} {A A' : World} (h : Below A.heap.size A A') (hj : J s A) : J s A':=
  hA s A A' none hj (grown_of_below h none) (fun r e=>by cases e)
set_option maxHeartbeats 4000000 in
set_option maxRecDepth 100000 in
theorem lines_runs (Bs n₀ : Nat) (s0 : ByteArray) (w0 w : World) (hn : w0.heap.size = n₀) (hw : Below n₀ w0 w) (hB : n₀ ≤ Bs) (hc : w.heap[Bs]? = some (.cells #[.string s0] 9 (0,0))) (hs : s0.size < 4294967281) (hE : Env w0) :
    SeqRuns Fence.wide 8 Tryz.prog 77 #[.pointer (some ⟨Bs,0,none⟩)] (fun x : ByteArray=>#[.string x]) (KpL n₀ Bs) (TuL Bs) (fun xs=>xs = linesB s0) (fun pre x=>∃ r,pre ++ x :: r = linesB s0) w:=by
  intro l J W hW hA hT hY h0
  have HW0:=Lib.hid (show Below w0.heap.size w0 W from by rw [hn];exact hw.trans (hW.mono (by rw [← hn];exact hw.size)))
  have HE:=Lib.hid hE
  have HN:=Lib.hid hn
  have HA:=Lib.hid hA
  have HT:=Lib.hid hT
  have HY:=Lib.hid hY
  have HBs:=Lib.hid hB
  have hlt : Bs < w.heap.size:=(Array.getElem?_eq_some_iff.1 hc).1
  have hbs : W.heap[Bs]? = some (.cells #[.string s0] 9 (0,0)):=(hW.block _ hlt).trans hc
  have HS:=Lib.hid hs
  have H0:=Lib.hid h0
  clear hn hE hA hT hw hc hY hs h0 hW hB
  refine callsIn_of_wp Tryz.func77 rfl trivial ?_ rfl
  simp only [Tryz.ntmps77,List.size_toArray,List.length_cons,List.length_nil,Nat.reduceAdd,Nat.reduceSub,Array.replicate_succ,Array.replicate_zero,List.push_toArray,List.append_toArray,List.nil_append,List.cons_append]
  have HB:=Lib.hid hbs
  clear hbs hlt
  gi_wp2
  gi_loopw [] (fun wr=>∃ (pre : List ByteArray) (s : ByteArray),Hid (wr.heap[Bs]? = some (.cells #[.string s] 9 (0,0))) ∧ Hid (pre ++ linesB s = linesB s0) ∧ Hid (s.size ≤ s0.size) ∧ Hid (J pre wr) ∧ Hid (Below n₀ W wr)) (fun wr=>leftL Bs wr)
  case atStart=>exact ⟨[],s0,HB,Lib.hid (by simp),Lib.hid (Nat.le_refl _),H0,Lib.hid (Below.refl _ _)⟩
  case round=>
    obtain ⟨pre,s,hb,hp,hz,hj,hw⟩:=hrel
    have hcell:=(blk_cell hb.out 0).trans rfl
    have hEw : Env wr:=HE.out.below (HW0.out.trans (by rw [HN.out];exact hw.out))
    have HEW:=Lib.hid hEw
    clear hEw
    have HAx : Hid (AbidesFrom wr.heap.size J):=Lib.hid (fun s A B row h hg hr=>HA.out s A B row h hg (fun r e=>⟨Nat.le_trans hw.out.size (hr r e).1,(hr r e).2⟩))
    cases hc : (cutS s).2.2 with
    | false=>
      gi_wp2_with (refine ⟨trivial,?_⟩;gi_at_call 78;refine (callsIn_wide.2 (cutS_calls s (by have:=hz.out;have:=HS.out;omega) _ HEW.out)).mono ?_;rintro e w' ⟨rfl,nq,rfl⟩)
      refine ⟨fun _ h=>(by cases h),?_⟩
      gi_wp2
      refine bodyPost_ret (results_none rfl _ _ _) rfl ?_
      exact ⟨⟨_,rfl⟩,pre,by rw [← hp.out,(lines_miss hc).1,List.append_nil],abide_below HAx.out (pw_below_drewN (Below.refl _ _) nq) hj.out⟩
    | true=>
      obtain ⟨l1,l2,l3⟩:=lines_hit hc
      have hlen : ∃ r,pre ++ (cutS s).1 :: r = linesB s0:=⟨_,by rw [← l1];exact hp.out⟩
      have HL:=Lib.hid hlen
      have L1:=Lib.hid l1
      have L3:=Lib.hid l3
      clear hlen l1 l2 l3
      gi_wp2_with (first | (refine ⟨trivial,?_⟩;gi_at_call 78;refine (callsIn_wide.2 (cutS_calls s (by have:=hz.out;have:=HS.out;omega) _ HEW.out)).mono ?_;rintro e w' ⟨rfl,nq,rfl⟩;obtain ⟨fn,tmps,assign,body,hy,hR⟩:=HY.out pre (cutS s).1 (wr.drewN nq) (abide_below HAx.out (pw_below_drewN (Below.refl _ _) nq) hj.out) HL.out))
      clear hcell
      refine hR.mono ?_
      rintro e W3 ⟨rfl,hJ3,hk3⟩
      have hb3 : W3.heap[Bs]? = some (.cells #[.string s] 9 (0,0)):=hk3.2.trans hb.out
      have c3 : W3.cell? ⟨Bs,0,none⟩ = some (.string s):=(blk_cell hb3 0).trans rfl
      have f3:=blk_frozen hb3 0
      have HB3:=Lib.hid hb3
      have HJ3:=Lib.hid hJ3
      have HK3:=Lib.hid hk3
      clear hb3 hJ3 hk3 hR hy
      gi_wp2
      have hb4 : (W3.setCell ⟨Bs,0,none⟩ (.string (cutS s).2.1)).heap[Bs]? = some (.cells #[.string (cutS s).2.1] 9 (0,0)):=blk_set HB3.out 0 _
      go_roundw
      case rel=>exact ⟨pre ++ [(cutS s).1],(cutS s).2.1,Lib.hid hb4,Lib.hid (by rw [List.append_assoc,← hp.out,L1.out];rfl),Lib.hid (by have:=L3.out;have:=hz.out;omega),Lib.hid (HT.out _ _ _ HJ3.out ⟨_,rfl⟩),Lib.hid (((hw.out.trans (pw_below_drewN (Below.refl _ _) nq)).trans HK3.out.1).setCell (p:=⟨Bs,0,none⟩) HBs.out _)⟩
      case measure=>
        rw [leftL_of ((blk_cell hb4 0).trans rfl),leftL_of ((blk_cell hb.out 0).trans rfl)]
        exact L3.out
end
end Go.Proofs.YtakfmcpjnkagmaaGreatDoor.P
namespace Go.Proofs
open Go.Shelf
def Tryz.lays169_ren : Go.Shelf.Ren:=⟨fun | 169=>85 | n=>n,fun | 70=>93 | 9=>9 | 0=>0 | 72=>95 | 37=>39 | 127=>121 | 3=>3 | 5=>5 | n=>n,fun | n=>n⟩
theorem Tryz.lays169 : Go.Proofs.Lays.n169 Tryz.prog Tryz.lays169_ren:={
  mixed:=by kernel_rfl
  f169:=Tryz.func85.trans (congrArg some (by kernel_rfl))
  t0:=Tryz.underlying0
  a0:=Tryz.isAgg0
  z0:=Tryz.sizeOf0
  v0:=Tryz.zeroValue0
  t3:=Tryz.underlying3
  a3:=Tryz.isAgg3
  z3:=Tryz.sizeOf3
  v3:=Tryz.zeroValue3
  t9:=Tryz.underlying9
  a9:=Tryz.isAgg9
  z9:=Tryz.sizeOf9
  v9:=Tryz.zeroValue9
  t37:=Tryz.underlying39
  a37:=Tryz.isAgg39
  z37:=Tryz.sizeOf39
  v37:=Tryz.zeroValue39
  t70:=Tryz.underlying93
  a70:=Tryz.isAgg93
  z70:=Tryz.sizeOf93
  v70:=Tryz.zeroValue93
  t72:=Tryz.underlying95
  a72:=Tryz.isAgg95
  z72:=Tryz.sizeOf95
  v72:=Tryz.zeroValue95
  t127:=Tryz.underlying121
  a127:=Tryz.isAgg121
  z127:=Tryz.sizeOf121
  v127:=Tryz.zeroValue121 }
theorem Tryz.Builder_Extra_169 : Builder.Extra Tryz.prog Tryz.lays169_ren:={
  sizeBuilder:=by kernel_rfl
  liesBuilder:=by kernel_rfl
  t5:=Tryz.underlying5
  a5:=Tryz.isAgg5
  z5:=Tryz.sizeOf5
  v5:=Tryz.zeroValue5
  infoByte:=by kernel_rfl
  cellsByte:=by kernel_rfl
  sizeByte:=by kernel_rfl
  neB5:=by decide }
open Go.RowKit in
theorem Tryz.Builder_String_any_k (B b : Nat) (l : List UInt8) (w : World) (h : Lib.IsBuilderF 95 5 B b (Lib.byteCells l) w) (hBw : B ≤ w.heap.size) :
    Calls Tryz.prog 85 #[.pointer (some ⟨b,0,none⟩)] w fun e w'=>e = .returned (.string ⟨l.toArray⟩) ∧ (Lib.IsBuilderF 95 5 B b (Lib.byteCells l) w' ∧ Below B w w' ∧ Lib.OthersKept 5 (some b) w w'):=Any.Builder_String_any_k Tryz.lays169 Tryz.Builder_Extra_169 B b l w h hBw
def Tryz.lays138_ren : Go.Shelf.Ren:=⟨fun | 138=>51 | 195=>74 | 218=>75 | 143=>76 | 219=>98 | 217=>116 | 225=>117 | 224=>118 | 267=>119 | 266=>131 | 314=>132 | n=>n,fun | 9=>9 | 3=>3 | 4=>4 | 5=>5 | 0=>0 | 46=>107 | 146=>115 | 51=>114 | n=>n,fun | 1=>0 | n=>n⟩
theorem Tryz.lays138 : Go.Proofs.Lays.n138 Tryz.prog Tryz.lays138_ren:={
  mixed:=by kernel_rfl
  f138:=Tryz.func51.trans (congrArg some (by kernel_rfl))
  f143:=Tryz.func76.trans (congrArg some (by kernel_rfl))
  f195:=Tryz.func74.trans (congrArg some (by kernel_rfl))
  f217:=Tryz.func116.trans (congrArg some (by kernel_rfl))
  f218:=Tryz.func75.trans (congrArg some (by kernel_rfl))
  f219:=Tryz.func98.trans (congrArg some (by kernel_rfl))
  f224:=Tryz.func118.trans (congrArg some (by kernel_rfl))
  f225:=Tryz.func117.trans (congrArg some (by kernel_rfl))
  f266:=Tryz.func131.trans (congrArg some (by kernel_rfl))
  f267:=Tryz.func119.trans (congrArg some (by kernel_rfl))
  f314:=Tryz.func132.trans (congrArg some (by kernel_rfl))
  t0:=Tryz.underlying0
  a0:=Tryz.isAgg0
  z0:=Tryz.sizeOf0
  v0:=Tryz.zeroValue0
  t3:=Tryz.underlying3
  a3:=Tryz.isAgg3
  z3:=Tryz.sizeOf3
  v3:=Tryz.zeroValue3
  t4:=Tryz.underlying4
  a4:=Tryz.isAgg4
  z4:=Tryz.sizeOf4
  v4:=Tryz.zeroValue4
  t5:=Tryz.underlying5
  a5:=Tryz.isAgg5
  z5:=Tryz.sizeOf5
  v5:=Tryz.zeroValue5
  t9:=Tryz.underlying9
  a9:=Tryz.isAgg9
  z9:=Tryz.sizeOf9
  v9:=Tryz.zeroValue9
  t46:=Tryz.underlying107
  a46:=Tryz.isAgg107
  z46:=Tryz.sizeOf107
  v46:=Tryz.zeroValue107
  t51:=Tryz.underlying114
  a51:=Tryz.isAgg114
  z51:=Tryz.sizeOf114
  v51:=Tryz.zeroValue114
  t146:=Tryz.underlying115
  a146:=Tryz.isAgg115
  z146:=Tryz.sizeOf115
  v146:=Tryz.zeroValue115
  g1:=by kernel_rfl }
open Go.RowKit Go.Lib in
theorem Tryz.strings_Count_one (s : ByteArray) (c : UInt8) (w : World) :
    Calls Tryz.prog 51 #[.string s,.string ⟨#[c]⟩] w fun e w'=>e = .returned (.int .i64 (Lib.countByte s.data.toList c)) ∧ w' = w:=Any.strings_Count_one Tryz.lays138 s c w
def Tryz.lays148_ren : Go.Shelf.Ren:=⟨fun | 148=>53 | 222=>79 | 223=>80 | 269=>100 | n=>n,fun | 9=>9 | 3=>3 | 4=>4 | 5=>5 | 146=>115 | 51=>114 | 46=>107 | n=>n,fun | n=>n⟩
theorem Tryz.lays148 : Go.Proofs.Lays.n148 Tryz.prog Tryz.lays148_ren:={
  mixed:=by kernel_rfl
  f148:=Tryz.func53.trans (congrArg some (by kernel_rfl))
  f222:=Tryz.func79.trans (congrArg some (by kernel_rfl))
  f223:=Tryz.func80.trans (congrArg some (by kernel_rfl))
  f269:=Tryz.func100.trans (congrArg some (by kernel_rfl))
  t3:=Tryz.underlying3
  a3:=Tryz.isAgg3
  z3:=Tryz.sizeOf3
  v3:=Tryz.zeroValue3
  t4:=Tryz.underlying4
  a4:=Tryz.isAgg4
  z4:=Tryz.sizeOf4
  v4:=Tryz.zeroValue4
  t5:=Tryz.underlying5
  a5:=Tryz.isAgg5
  z5:=Tryz.sizeOf5
  v5:=Tryz.zeroValue5
  t9:=Tryz.underlying9
  a9:=Tryz.isAgg9
  z9:=Tryz.sizeOf9
  v9:=Tryz.zeroValue9
  t46:=Tryz.underlying107
  a46:=Tryz.isAgg107
  z46:=Tryz.sizeOf107
  v46:=Tryz.zeroValue107
  t51:=Tryz.underlying114
  a51:=Tryz.isAgg114
  z51:=Tryz.sizeOf114
  v51:=Tryz.zeroValue114
  t146:=Tryz.underlying115
  a146:=Tryz.isAgg115
  z146:=Tryz.sizeOf115
  v146:=Tryz.zeroValue115 }
open Go.RowKit Go.Lib in
theorem Tryz.strings_LastIndex_one (s sub : ByteArray) (h1 : sub.size = 1) (hs : s.size < 4611686018427387904) (w : World) :
    Calls Tryz.prog 53 #[.string s,.string sub] w fun e w'=>e = .returned (.int .i64 (Lib.lastIndexByte s ((sub[0]'(by omega)).toNat : Int))) ∧ w' = w:=Any.strings_LastIndex_one Tryz.lays148 s sub h1 hs w
end Go.Proofs
namespace Go.Proofs.YtakfmcpjnkagmaaGreatDoor.P
open Go.Proofs.YtakfmcpjnkagmaaGreatDoorUPoSp.PrintLast Go.Proofs.YtakfmcpjnkagmaaGreatDoorUPoSp.PrintMore Go.Proofs.YtakfmcpjnkagmaaGreatDoorUPoSp.PrintWords Go.RowKit Go.Shelf
set_option linter.unusedVariables false
set_option linter.unusedSimpArgs false
section
attribute [local go_sem] Oper.semAt_some
def impl_StrLines.f (s : ByteArray) : Option (List ByteArray × ByteArray):=if s.size ≤ 4000000000 then some (linesB s,restB s) else none
theorem ownsRow_from {β : Type} (B base : Nat) (e : TypeId) (sz : Nat) (v : β → Value) (n : β → Nat) (xs : β → List Value) : OwnFrom B (fun (s : β) W=>W.ownsRow base e sz (v s) (n s) (xs s)):=fun s X Y row hs hg hr=>by
  refine hs.kept hg ?_
  rcases hv : (v s).ownBlock with _ | k
  · exact .inl rfl
  · refine .inr fun e=>?_
    obtain ⟨_,o,ho,hc⟩:=hr k e.symm
    obtain ⟨cells,h⟩:=own_typed (.of_owns hs) k hv
    rw [h] at ho
    cases ho
    cases hc
theorem kpl_b {n₀ b : Nat} {w : World} (hn : n₀ ≤ w.heap.size) (hb : b < w.heap.size) (W : World) (l : Nat) (o o' : Obj) (hl : w.heap.size ≤ l) (ho : W.heap[l]? = some o) (hc : o.isCells = false) (hk : o.isWalk = false) : KpL n₀ b W (W.putObj l o'):=
  ⟨belowK_b (w:=w) hn W l o o' hl ho hc hk,World.putObj_heap_other (by omega)⟩
theorem ownsRow_moved {w w1 : World} {base : Nat} {e : TypeId} {size n : Nat} {v : Value} {xs : List Value} (h : w.ownsRow base e size v n xs) (hm : ∀ k,v.ownBlock = some k → w1.heap[k]? = w.heap[k]?) : w1.ownsRow base e size v n xs:=by
  obtain ⟨h1,h2⟩:=h
  refine ⟨h1,?_⟩
  rcases h2 with h2 | ⟨g,cap,cur,rfl,hg,hh,r⟩
  · exact .inl h2
  · exact .inr ⟨g,cap,cur,rfl,hg,(hm g (by simp [Value.ownBlock])).trans hh,r⟩
theorem cells_own' {β : Type} (b : Nat) (t : TypeId) (v : β → Value) : Own (fun (s : β) W=>Boxed W b t (v s)):=fun s X Y row hs hg hr=>by
  refine (hg.block b (Array.getElem?_eq_some_iff.1 hs).1 (fun e=>?_)).trans hs
  obtain ⟨o,ho,hc⟩:=hr b e.symm
  rw [show X.heap[b]? = _ from hs] at ho;cases ho;cases hc
theorem count_calls (s : ByteArray) (w : World) : Calls Tryz.prog 51 #[.string s,.string (⟨#[59]⟩ : ByteArray)] w fun e w'=>e = .returned (.int .i64 ((linesB s).length : Int)) ∧ w = w':=by
  rw [linesB_count]
  exact (Tryz.strings_Count_one s 59 w).mono fun _ _ h=>⟨h.1,h.2.symm⟩
theorem last_calls (s : ByteArray) (hs : s.size ≤ 4000000000) (w : World) : Calls Tryz.prog 53 #[.string s,.string (⟨#[59]⟩ : ByteArray)] w fun e w'=>e = .returned (.int .i64 (Lib.lastIndexByte s 59)) ∧ w = w':=
  (Tryz.strings_LastIndex_one s ⟨#[59]⟩ rfl (by omega) w).mono fun _ _ h=>⟨h.1,h.2.symm⟩
set_option maxRecDepth 100000 in
set_option maxHeartbeats 4000000 in
theorem impl_StrLines.calls (a0 : ByteArray) (r1 : List ByteArray) (r2 : ByteArray) (w : World) (h : impl_StrLines.f a0 = some (r1,r2)) (hE : Env w) :
    Calls Tryz.prog 29 #[.string a0] w fun e w'=>∃ v0_ : Value,e = .returned (.tuple #[v0_,.string r2]) ∧ Kd.R Kd.string 9 w' w.heap.size (fun _=>True) v0_ r1 ∧ Below w.heap.size w w':=by
  unfold impl_StrLines.f at h
  by_cases hs : a0.size ≤ 4000000000
  · rw [if_pos hs] at h
    simp only [Option.some.injEq,Prod.mk.injEq] at h
    obtain ⟨rfl,rfl⟩:=h
    have hlen : (linesB a0).length ≤ a0.size:=by
      rw [linesB_count];unfold Lib.countByte
      exact Nat.le_trans List.count_le_length (by rw [len_data];exact Nat.le_refl _)
    obtain ⟨N,hN⟩ : ∃ N,(linesB a0).length = N:=⟨_,rfl⟩
    have HS:=Lib.hid hs
    have HL:=Lib.hid hlen
    have HE:=Lib.hid hE
    clear hs hlen hE
    obtain ⟨i0,hi,hz0,hz1,hz2⟩:=info_parts info9
    refine (callsIn_wide (n:=9)).1 ?_
    refine callsIn_of_wp_marks Tryz.func29 rfl trivial (wpIn_wide.2 ?_) rfl
    simp only [Tryz.ntmps29,List.size_toArray,List.length_cons,List.length_nil,Nat.reduceAdd,Nat.reduceSub,Array.replicate_succ,Array.replicate_zero,List.push_toArray,List.append_toArray,List.nil_append,List.cons_append]
    go_wp2_with (first
      | (go_at_call 51;refine (count_calls a0 _).mono ?_;rintro e w' ⟨rfl,rfl⟩;rw [hN])
      | (at_make;refine wpList_make_own w rfl _ _ 45 rfl w.heap.size 9 i0 (.string ⟨#[]⟩) 1 Tryz.underlying45 hi hz0 hz1 .i64 .i64 (N : Int) N rfl rfl rfl (by rw [hz2];have:=HS.out;have:=HL.out;omega) (by unfold maxLen;have:=HS.out;have:=HL.out;omega) (Nat.le_refl _) ?_;intro w1 hown hgr)
      | (go_at_call 52;refine (linesOf0 a0 _).mono ?_;rintro e w2 ⟨rfl,rfl⟩))
    have hB1 : Below w.heap.size w w1:=(Below.refl _ w).grown hgr (Nat.le_refl _) (fun k e=>by cases e)
    have hs1:=hB1.size
    obtain ⟨W0,hW0⟩ : ∃ W0,(w1.alloc (.cells #[.slice (some ⟨w.heap.size,0,none⟩) 0 N] 45)).alloc (.cells #[.string a0] 9) = W0:=⟨_,rfl⟩
    have hb0 : Boxed W0 w1.heap.size 45 (.slice (some ⟨w.heap.size,0,none⟩) 0 N):=by rw [← hW0];exact (Boxed.new _ _ _).alloc _
    have hst : W0.heap[w1.heap.size + 1]? = some (.cells #[.string a0] 9 (0,0)):=by
      rw [← hW0]
      have:=heap_alloc_new (w1.alloc (.cells #[.slice (some ⟨w.heap.size,0,none⟩) 0 N] 45)) (.cells #[.string a0] 9)
      simp only [World.size_alloc] at this
      exact this
    have hB0 : Below w.heap.size w W0:=by rw [← hW0];exact (hB1.alloc hs1 _).alloc (by simp only [World.size_alloc];omega) _
    have hr0 : W0.ownsRow w.heap.size 9 1 (.slice (some ⟨w.heap.size,0,none⟩) 0 N) 0 []:=by rw [← hW0];exact (hown.alloc _).alloc _
    have hsz : W0.heap.size = w1.heap.size + 2:=by rw [← hW0];simp
    have hlt1:=(hown.lt w.heap.size rfl).2
    rw [hW0]
    clear hW0 hown hgr hB1
    have HHS:=Lib.hid hs1
    refine (wpIn_wide (n:=9)).1 ?_
    refine wpIn_rangeFunc_runs rfl (by omega) (gf:=77) (lb:=#[.pointer (some ⟨w1.heap.size + 1,0,none⟩)]) rfl trivial (enters_of Tryz.func77 (by kernel_rfl) rfl)
      (lines_runs (w1.heap.size + 1) w.heap.size a0 w W0 rfl hB0 (by omega) hst (by have:=HS.out;omega) HE.out) KpL.trans (kpl_b (by omega) (by omega))
      (fun A B ⟨v,h⟩ k hk=>by rw [h];exact Below.heap_setCell A _ _ _ (by simp only;omega)) (Below.refl _ _) (fun _=>rfl)
      (fun pre W=>Boxed W w1.heap.size 45 (.slice (some ⟨w.heap.size,0,none⟩) pre.length N) ∧ (W.ownsRow w.heap.size 9 1 (.slice (some ⟨w.heap.size,0,none⟩) pre.length N) pre.length (pre.map Value.string) ∧ Below w.heap.size W0 W))
      (OwnFrom.and (Own.from (cells_own' _ _ _) _) (OwnFrom.and (ownsRow_from _ _ _ _ _ _ _) (ownFrom_below (by omega) (by omega))))
      (fun s A B ⟨h1,h2,h3⟩ ⟨v,h⟩=>by
        subst h
        exact ⟨(Below.heap_setCell A _ _ _ (by simp only;omega)).trans h1,ownsRow_moved h2 (fun k hk=>Below.heap_setCell A _ _ _ (by have e : w.heap.size = k:=(by simpa [Value.ownBlock] using hk);simp only;omega)),h3.setCell (p:=⟨w1.heap.size + 1,0,none⟩) (by simp only;omega) _⟩)
      ⟨hb0,hr0,Below.refl _ _⟩
      (fun x=>{ tmps:=#[.string a0,undef,.slice none 0 0,.string ⟨#[]⟩,.pointer (some ⟨w1.heap.size,0,none⟩),.string x,.string a0,.int .i64 N,.slice (some ⟨w.heap.size,0,none⟩) 0 N,.string a0,.func (.func 77) #[] #[.pointer (some ⟨w1.heap.size + 1,0,none⟩)],.string x,undef,undef,undef,undef,undef,undef,undef,undef,undef,undef],defers:=[] })
      ?assign ?body ?done
    case assign=>
      intro l x W K hK
      gi_wp2
      exact hK
    case body=>
      rintro l pre x W ⟨hbx,hrow,hB⟩ hlt
      have hlN : pre.length + 1 ≤ N:=by
        obtain ⟨r,hr⟩:=hlt
        rw [← hN,← hr,List.length_append,List.length_cons];omega
      have hc:=hbx.cell
      have hf:=hbx.frozen
      have HB:=Lib.hid hB
      have HR:=Lib.hid hrow
      have HX:=Lib.hid hbx
      have HSZ:=Lib.hid hsz
      have HLT:=Lib.hid hlt1
      clear hB hrow hbx hlt hsz hs1 hr0 hst hb0 hB0 hlt1
      gi_wp2_with (gi_at_builtin;refine wpListIn_append_fits _ rfl _ _ 45 rfl w.heap.size 9 i0 1 Tryz.underlying45 hi hz1 w.heap.size pre.length N (pre.map Value.string) rfl (HR.out.alloc _) ⟨W.heap.size,0,none⟩ 1 1 [.string x] rfl rfl (cell_one_new _ _ _) (by simp [Value.oneCell']) hlN ?_;intro w2 hown2 hgr2;obtain ⟨hv1,hv2,hr2,hk2,hb2⟩:=HX.out.appended (by decide) HR.out (by have:=HB.out.size;have:=HSZ.out;have:=HHS.out;omega) HHS.out hown2 hgr2;have HG2:=Lib.hid hgr2;have HV2:=Lib.hid hv2;have HR2:=Lib.hid hr2;have HK2:=Lib.hid hk2;have HB2:=Lib.hid hb2;have hc1:=hv1.cell;have hf1:=hv1.frozen;clear hv1 hv2 hr2 hk2 hb2 hown2 hgr2)
      have hWs:=HB.out.size
      have hsz:=HSZ.out
      have hlt:=HLT.out
      refine ⟨HK2.out,⟨HB2.out,?_⟩,?_,?_,HB.out.trans HB2.out⟩
      · refine (Below.heap_setCell _ _ _ _ (by simp only;omega)).trans ((HG2.out.block _ (by simp;omega) (by simp [Value.ownBlock];omega)).trans (Below.heap_alloc W _ _ (by omega)))
      · rw [List.length_append];exact HV2.out
      · rw [List.length_append,List.map_append];exact HR2.out
    case done=>
      rintro D xs W hD rfl ⟨hbx,hrow,hB⟩ hK
      rw [hN] at hbx hrow
      have hc:=hbx.cell
      have HR:=Lib.hid hrow
      have HB:=Lib.hid hB
      have HK:=Lib.hid hK
      have HD:=Lib.hid hD
      have HB0:=Lib.hid hB0
      have HSZ:=Lib.hid hsz
      obtain ⟨q1,q2,q3⟩:=restB_last a0
      have HLC:=Lib.hid (last_calls a0 HS.out)
      obtain ⟨x,hx⟩ : ∃ x,Lib.lastIndexByte a0 59 = x:=⟨_,rfl⟩
      rw [hx] at q1 q2 q3 HLC
      have Q3:=Lib.hid q3
      clear hbx hrow hB hK hD hB0 hsz hs1 hr0 hst hb0 hlt1 q3 hx
      have z1 : IntKind.i64.wrap (x + 1) = x + 1:=IntWalk.i64_in _ (by have:=HS.out;omega)
      go_wp2_with fail
      go_quiet ((go_at_call 53;exact Calls.quiet_of_same ((HLC.out _).mono fun _ _ h=>⟨h.1,h.2.symm⟩)))
      go_wp2
      have hDl:=(Array.getElem?_eq_some_iff.1 HK.out).1
      have hbW : Below w.heap.size w ((W.drewN nq).putObj D (.deferred none)):=
        (HB0.out.trans (pw_below_drewN HB.out nq)).trans (belowK_b (w:=w) (Nat.le_refl _) (W.drewN nq) D _ _ (by have:=HD.out;have:=HSZ.out;have:=HHS.out;omega) HK.out rfl rfl)
      refine ⟨by simp,.inl ⟨_,_,rfl,run_takeDeferred (w:=W.drewN nq) HK.out,?_⟩⟩
      refine ⟨_,results_tmp2 rfl _ _ _,⟨_,by rw [Q3.out];rfl,?_,hbW⟩⟩
      have hrow : ((W.drewN nq).putObj D (.deferred none)).ownsRow w.heap.size 9 1 (.slice (some ⟨w.heap.size,0,none⟩) N N) N ((linesB a0).map Value.string):=
        ownsRow_moved HR.out (fun k hk=>by
          have e : w.heap.size = k:=(by simpa [Value.ownBlock] using hk)
          exact World.putObj_heap_other (by have:=HD.out;have:=HSZ.out;have:=HHS.out;omega))
      rw [← hN] at hrow ⊢
      exact Kd.R_of_own (.of_owns hrow) (fun _ _=>trivial)
  · rw [if_neg hs] at h;cases h
end
end Go.Proofs.YtakfmcpjnkagmaaGreatDoor.P
namespace Go.Proofs.YtakfmcpjnkagmaaGreatDoor.P
open Go.Proofs.YtakfmcpjnkagmaaGreatDoorUPoSp.PrintLast Go.Proofs.YtakfmcpjnkagmaaGreatDoorUPoSp.PrintMore Go.Proofs.YtakfmcpjnkagmaaGreatDoorUPoSp.PrintWords Go.RowKit
set_option linter.unusedVariables false
set_option linter.unusedSimpArgs false
section
attribute [local go_sem] max2_int min2_int max_two min_two max_three min_three max_four min_four
def impl_StrOk.l0 : Nat → ByteArray → List ByteArray → Int → Int → Option (Bool)
 | 0,_,_,_,_=>none
 | k + 1,x0,x15,x16,x17=>if x17 < x16 then (if 0 ≤ x17 then (if x17 < (x15.length : Int) then ((impl_LinOk.f (rdOf ByteArray.empty x15 x17)).bind fun t310=>(if t310 = true then (impl_StrOk.l0 k x0 x15 x16 (wrap64 (x17 + 1))) else (some false))) else (none)) else (none)) else (some (decide ((x0.size : Int) ≤ 120)))
def impl_StrOk.f (k : Nat) (a0 : ByteArray) : Option (Bool):=(impl_StrLines.f a0).bind fun bt302=>(if bt302.1.length < 8796093022208 then ((some (bt302.1 ++ [bt302.2] : List ByteArray)).bind fun y306=>(impl_StrOk.l0 k a0 y306 (y306.length : Int) 0)) else (none))
theorem impl_StrOk.mono_l : ∀ k,(∀ y0 y1 y2 y3,LeO (impl_StrOk.l0 k y0 y1 y2 y3) (impl_StrOk.l0 (k + 1) y0 y1 y2 y3))
 | 0=>fun _ _ _ _ r h=>by simp [impl_StrOk.l0] at h
 | k + 1=>by
  have ih0:=impl_StrOk.mono_l k
  ·intro y0 y1 y2 y3
   unfold impl_StrOk.l0
   repeat' first | (with_reducible first | exact ih0 _ _ _ _ | exact LeO.refl _ | exact LeO.none _ | refine LeO.ite ?_ ?_ | refine LeO.bind ?_ (fun _=>?_)) | exact ih0 _ _ _ _ | exact LeO.none _ | refine LeO.ite ?_ ?_ | refine LeO.bind ?_ (fun _=>?_)
theorem impl_StrOk.mono : ∀ a0 k,LeO (impl_StrOk.f k a0) (impl_StrOk.f (k + 1) a0):=by
 intro a0 k
 have ih0:=impl_StrOk.mono_l k
 unfold impl_StrOk.f
 repeat' first | (with_reducible first | exact ih0 _ _ _ _ | exact LeO.refl _ | exact LeO.none _ | refine LeO.ite ?_ ?_ | refine LeO.bind ?_ (fun _=>?_)) | exact ih0 _ _ _ _ | exact LeO.none _ | refine LeO.ite ?_ ?_ | refine LeO.bind ?_ (fun _=>?_)
set_option maxHeartbeats 8000000 in
set_option maxRecDepth 100000 in
theorem impl_StrOk.calls (k : Nat) (a0 : ByteArray) (r : Bool) (w : World) (h : impl_StrOk.f k a0 = some r) (hE : Env w) :
  Calls Tryz.prog 55 #[.string a0] w fun e w'=>e = .returned (.bool r) ∧ Below w.heap.size w w':=by
 have HB:=am (Below.refl w.heap.size w)
 have H : ((impl_StrLines.f a0).bind fun bt302=>(if bt302.1.length < 8796093022208 then ((some (bt302.1 ++ [bt302.2] : List ByteArray)).bind fun y306=>(impl_StrOk.l0 k a0 y306 (y306.length : Int) 0)) else (none))) = some r:=h
 clear h
 obtain ⟨⟨t302,t303⟩,A2,H⟩:=bse H
 try dsimp only at H
 by_cases c3 : t302.length < 8796093022208
 ·rw [if_pos c3] at H
  have LMc3:=am c3
  clear c3
  obtain ⟨y306,hy306⟩ : ∃ y_ : List ByteArray,y_ = (t302 ++ [t303]):=⟨_,rfl⟩
  replace H : (impl_StrOk.l0 k a0 y306 (y306.length : Int) 0) = some r:=by first | (rw [hy306];with_reducible exact H) | (have H2_:=(Option.bind_some _ _).symm.trans H;rw [hy306];with_reducible exact H2_) | (have H2_:=(Option.bind_some _ _).symm.trans H;with_reducible exact H2_) | with_reducible exact H | (rw [hy306];exact H) | exact H
  have Ny306:=am hy306
  clear hy306
  have H':=am H
  clear H
  go_enter Tryz.func55,Tryz.ntmps55
  go_wp2_with (first | ((with_reducible refine gC 29 rfl ?_);refine gL (some 9) Tryz.func29 #[.string a0] ?_;(with_reducible refine (impl_StrLines.calls a0 t302 t303 _ A2.out (Env.below hE (bl HB))).mono ?_);rintro e w4 ⟨v304,rfl,ho0,hb⟩;refine ⟨_,rfl,?_⟩;have HO305:=am (Kd.R_lower ho0 (below_size (bl HB)));replace HB:=hbS HB hb;(try clear hb);(try clear ho0)) | ((with_reducible refine gate_builtin (b:=.append) (xs:=#[.tmp 12,.tmp 14]) rfl ?_);at_builtin;refine Kd.R_append Kd.string (w0:=w) w.heap.size rfl (.tmp 12) (.tmp 14) 45 9 (.string ⟨#[]⟩) 16 rfl Tryz.underlying45 info9 rfl (by decide) (by omega) v304 t302 t303 [.string t303] (fun _=>True) (fun _=>False) rfl rfl ?aP (fun _ hk=>hk.elim) ?aF ?aO ?aB ?aS ?aL ?_;(case aP=>exact rfl);(case aB=>exact (bl HB));(case aF=>exact (fun _ _=>trivial));(case aO=>exact (rs HO305));(case aS=>exact (below_size (bl HB)));(case aL=>have:=LMc3.out;omega);intro v307 w5 ho hb hg hat;rw [← Ny306.out] at ho;replace HB:=am hb;have HO308:=am (ho);clear HO305;clear ho hb hg hat;obtain ⟨Ao6,co6,eo6⟩:=Kd.R_slice HO308.out;subst eo6))
  go_loopg [17] k (fun kq v17 w'=>∃ (x17_1 : Int),v17 = .int .i64 x17_1 ∧ Aside0 (impl_StrOk.l0 kq a0 y306 (y306.length : Int) x17_1 = some r) ∧ Aside0 (kq ≤ k) ∧ Aside0 (Kd.R Kd.string 9 w' w.heap.size (fun _=>True) (.slice Ao6 y306.length co6) y306) ∧ Aside0 (Below w.heap.size w w'))
  case atStart=>exact ⟨(0),rs_,H',⟨Nat.le_refl _⟩,⟨by (with_reducible repeat apply ru);exact HO308.out⟩,⟨m0_⟩⟩
  case round=>
   clear H'
   try clear c2
   try clear p2
   try clear c3
   try clear c5
   obtain ⟨x17_1,rfl,HA,HK1,HO_15,HB⟩:=hrel
   cases gk with
   | zero=>exact absurd HA.out (by simp [impl_StrOk.l0])
   | succ k1=>
    have H:=HA.out
    clear HA
    simp only [impl_StrOk.l0] at H
    by_cases c7 : x17_1 < (y306.length : Int)
    ·rw [if_pos c7] at H
     have c7b0 : decide (x17_1 < (y306.length : Int)) = true:=decide_eq_true c7
     clear c7
     by_cases c8 : 0 ≤ x17_1
     ·rw [if_pos c8] at H
      have c8b0 : decide (0 ≤ x17_1) = true:=decide_eq_true c8
      clear c8
      by_cases c9 : x17_1 < (y306.length : Int)
      ·rw [if_pos c9] at H
       have c9b0 : decide (x17_1 < (y306.length : Int)) = true:=decide_eq_true c9
       clear c9
       obtain ⟨t310,A10,H⟩:=bse H
       try dsimp only at H
       by_cases c11 : t310 = true
       ·subst c11
        have H1 : (impl_StrOk.l0 k1 a0 y306 (y306.length : Int) (wrap64 (x17_1 + 1))) = some r:=by rw [if_pos rfl] at H;exact H
        clear H
        have H:=H1
        clear H1
        have H':=am H
        clear H
        have p309 : 0 ≤ (x17_1 : Int):=of_decide_eq_true da_
        have q309 : x17_1 < (y306.length : Int):=of_decide_eq_true da_
        obtain ⟨ad309,e309,hx309_0⟩:=Kd.at_string (Kd.R_reads' HO_15.out).2.2 x17_1 p309 q309
        cases e309
        replace p309:=eq_true p309
        replace q309:=eq_true q309
        go_wp2_with (first | ((with_reducible refine gC 50 rfl ?_);refine gL (some 22) Tryz.func50 #[.string (rdOf ByteArray.empty y306 x17_1)] ?_;(with_reducible refine (impl_LinOk.calls (rdOf ByteArray.empty y306 x17_1) true _ A10.out).mono ?_);rintro e w12 ⟨rfl,hb⟩;refine ⟨_,rfl,?_⟩;replace HO_15:=am (Kd.R_below (rs HO_15) hb);replace HB:=hbS HB hb;(try clear hb)))
        go_roundg k1
        case measure=>have:=HK1.out;omega
        case rel=>exact ⟨(wrap64 (x17_1 + 1)),rs_,H',⟨by have:=HK1.out;omega⟩,⟨by (with_reducible repeat apply ru);exact HO_15.out⟩,⟨m0_⟩⟩
       ·replace c11:=Bool.eq_false_iff.mpr c11
        subst c11
        have H1 : (some false) = some r:=by rw [if_neg (show ¬ (false = true) by decide)] at H;exact H
        clear H
        have H:=H1
        clear H1
        obtain rfl:=Option.some.inj H
        have p309 : 0 ≤ (x17_1 : Int):=of_decide_eq_true da_
        have q309 : x17_1 < (y306.length : Int):=of_decide_eq_true da_
        obtain ⟨ad309,e309,hx309_0⟩:=Kd.at_string (Kd.R_reads' HO_15.out).2.2 x17_1 p309 q309
        cases e309
        replace p309:=eq_true p309
        replace q309:=eq_true q309
        go_wp2_with (first | ((with_reducible refine gC 50 rfl ?_);refine gL (some 22) Tryz.func50 #[.string (rdOf ByteArray.empty y306 x17_1)] ?_;(with_reducible refine (impl_LinOk.calls (rdOf ByteArray.empty y306 x17_1) false _ A10.out).mono ?_);rintro e w13 ⟨rfl,hb⟩;refine ⟨_,rfl,?_⟩;replace HO_15:=am (Kd.R_below (rs HO_15) hb);replace HB:=hbS HB hb;(try clear hb)))
        go_ret
        exact ⟨fi_,m0_⟩
      ·rw [if_neg c9] at H
       exact absurd H (by simp)
     ·rw [if_neg c8] at H
      exact absurd H (by simp)
    ·rw [if_neg c7] at H
     have c7b0 : decide (x17_1 < (y306.length : Int)) = false:=decide_eq_false c7
     clear c7
     obtain rfl:=Option.some.inj H
     go_wp2
     go_ret
     exact ⟨fi_,m0_⟩
 ·rw [if_neg c3] at H
  exact absurd H (by simp)
end
theorem kd_make0 {P : Program} {ops : Array Oper} {rest : List Oper} {o : Oper} {a : Act} {Q : Exit → Act → World → Prop} {α : Type} (d : Kd α) {w0 W : World} (base e : Nat) (hgd : o.guard = none) {N : Tmp} (hd : o.dst = some N) (t : TypeId) (x y : Operand) (ho : o.op = .makeSlice t x y) (c : Int) (hx : a.eval x = .int .i64 0) (hy : a.eval y = .int .i64 c)
    (ht : P.underlying t = some (.slice e)) (z : Value) (bytes : Nat) (hinfo : (P.info? e).map (fun i=>(i.zero,i.size,i.bytes)) = some (some z,d.sz,bytes)) (hz : z.cells.size = d.sz) (hs0 : 0 < d.sz) (hb0 : 0 < bytes)
    (z0 : α) {ok okp : Nat → Prop} (hzero : d.M W base okp z0 z.cells.toList) (hok : ∀ k,okp k → ok k) (hfresh : ok W.heap.size) (h0 : 0 ≤ c) (hl : c.toNat * bytes ≤ 281474976710656) (HB : Below base w0 W) (hbase : base ≤ W.heap.size)
    (h : ∀ v1 w1,d.R e w1 base ok v1 (List.replicate (0 * c.toNat) z0) → Below base w0 w1 → W.grownBy w1 none → (∃ b,v1.ownBlock = some b ∧ W.heap.size ≤ b) → wpList P ops Q rest (a.put o.dst v1) w1) : wpList P ops Q (o :: rest) a W:=by
  obtain ⟨m,rfl⟩:=Int.eq_ofNat_of_zero_le h0
  simp only [Int.toNat_natCast] at hl
  obtain ⟨i0,hi,hzz⟩:=Option.map_eq_some_iff.1 hinfo
  simp only [Prod.mk.injEq] at hzz
  obtain ⟨hz0,hz1,hz2⟩:=hzz
  have hm : m ≤ 281474976710656:=Nat.le_trans (Nat.le_mul_of_pos_right _ hb0) hl
  refine wpList_make_own W hgd x y t ho base e i0 z d.sz ht hi hz0 hz1 .i64 .i64 (m : Int) m hx hy rfl (by rw [hz2,Nat.mul_comm];exact hl) (by unfold maxLen;omega) hbase ?_
  intro w1 hown hg
  rw [Nat.zero_mul] at h
  refine h _ w1 ⟨fun k hk=>?_,[],.of_owns hown,Reps.none _ _⟩ (HB.grown hg hbase (fun k e=>by cases e)) hg ⟨_,rfl,Nat.le_refl _⟩
  have : W.heap.size = k:=by simpa [Value.ownBlock] using hk
  subst this
  exact hfresh
section
attribute [local go_sem] max2_int min2_int max_two min_two max_three min_three max_four min_four
def impl_spansOf.l0 : Nat → List ByteArray → List ByteArray → List (S50) → Int → Int → Int → Int → Option ((List (S50)))
 | 0,_,_,_,_,_,_,_=>none
 | k + 1,x5,x7,x10,x11,x12,x32,x33=>if x33 < x32 then (if 0 ≤ x33 then (if x33 < (x5.length : Int) then (if x33 < (x7.length : Int) then (if x10.length < 3518437208883 then (impl_spansOf.l0 k x5 x7 (x10 ++ [(⟨x11,wrap64 ((wrap64 (x11 + ((rdOf ByteArray.empty x5 x33).size : Int))) + 1),x12,wrap64 ((wrap64 (x12 + ((rdOf ByteArray.empty x7 x33).size : Int))) + 1),((rdOf ByteArray.empty x5 x33).toList == (rdOf ByteArray.empty x7 x33).toList)⟩ : S50)]) (wrap64 ((wrap64 (x11 + ((rdOf ByteArray.empty x5 x33).size : Int))) + 1)) (wrap64 ((wrap64 (x12 + ((rdOf ByteArray.empty x7 x33).size : Int))) + 1)) x32 (wrap64 (x33 + 1))) else (none)) else (none)) else (none)) else (none)) else (some x10)
def impl_spansOf.f (k : Nat) (a0 : ByteArray) (a1 : ByteArray) : Option ((List (S50))):=(impl_StrLines.f a0).bind fun bt408=>((impl_StrLines.f a1).bind fun bt412=>(if 0 ≤ (mn (bt408.1.length : Int) (bt412.1.length : Int)) then (if (mn (bt408.1.length : Int) (bt412.1.length : Int) : Int).toNat ≤ 7036874417766 then (impl_spansOf.l0 k bt408.1 bt412.1 (List.replicate (0 * (mn (bt408.1.length : Int) (bt412.1.length : Int) : Int).toNat) z50) 0 0 (mn (bt408.1.length : Int) (bt412.1.length : Int)) 0) else (none)) else (none)))
theorem impl_spansOf.mono_l : ∀ k,(∀ y0 y1 y2 y3 y4 y5 y6,LeO (impl_spansOf.l0 k y0 y1 y2 y3 y4 y5 y6) (impl_spansOf.l0 (k + 1) y0 y1 y2 y3 y4 y5 y6))
 | 0=>fun _ _ _ _ _ _ _ r h=>by simp [impl_spansOf.l0] at h
 | k + 1=>by
  have ih0:=impl_spansOf.mono_l k
  ·intro y0 y1 y2 y3 y4 y5 y6
   unfold impl_spansOf.l0
   repeat' first | (with_reducible first | exact ih0 _ _ _ _ _ _ _ | exact LeO.refl _ | exact LeO.none _ | refine LeO.ite ?_ ?_ | refine LeO.bind ?_ (fun _=>?_)) | exact ih0 _ _ _ _ _ _ _ | exact LeO.none _ | refine LeO.ite ?_ ?_ | refine LeO.bind ?_ (fun _=>?_)
theorem impl_spansOf.mono : ∀ a0 a1 k,LeO (impl_spansOf.f k a0 a1) (impl_spansOf.f (k + 1) a0 a1):=by
 intro a0 a1 k
 have ih0:=impl_spansOf.mono_l k
 unfold impl_spansOf.f
 repeat' first | (with_reducible first | exact ih0 _ _ _ _ _ _ _ | exact LeO.refl _ | exact LeO.none _ | refine LeO.ite ?_ ?_ | refine LeO.bind ?_ (fun _=>?_)) | exact ih0 _ _ _ _ _ _ _ | exact LeO.none _ | refine LeO.ite ?_ ?_ | refine LeO.bind ?_ (fun _=>?_)
def impl_spansOf.T9 : Bool × List (List Nat × List Nat):=(true,[([],[]),([],[]),([],[]),([],[]),([2,3],[2,3]),([4],[4]),([5],[5]),([1,6],[1,6]),([7],[7]),([],[]),([],[]),([],[]),([],[]),([11,12],[11,12]),([13],[13]),([14],[14]),([10,15],[10,15]),([16],[16]),([],[]),([],[]),([18,19],[18,19]),([20],[20]),([],[]),([],[]),([22,23],[22,23]),([24],[24]),([21,25],[21,25]),([0,8,9,17,26],[0,8,9,17,26]),([],[]),([28,27,0,1,2,3,4,5,6,7,8,9,10,11,12,13,14,15,16,17,18,19,20,21,22,23,24,25,26,27,28],[27,28])])
def impl_spansOf.B9 : List Nat:=[0,0,0,0,12,28,60,126,254,0,0,0,0,6144,14336,30720,64512,130048,0,0,786432,1835008,0,0,12582912,29360128,66846720,134217727,0,536870911]
theorem impl_spansOf.tab9 : rtab .any (opsOf Tryz.f62 9) = impl_spansOf.T9:=by kernel_rfl
theorem impl_spansOf.bits9 : waitsOk impl_spansOf.T9.2 impl_spansOf.B9 = true:=by kernel_rfl
set_option maxHeartbeats 8000000 in
set_option maxRecDepth 100000 in
theorem impl_spansOf.calls (k : Nat) (a0 : ByteArray) (a1 : ByteArray) (r : List (S50)) (w : World) (h : impl_spansOf.f k a0 a1 = some r) (hE : Env w) :
  Calls Tryz.prog 62 #[.string a0,.string a1] w fun e w'=>∃ v0_ : Value,e = .returned (v0_) ∧ Kd.R k50 50 w' w.heap.size (fun _=>True) v0_ r ∧ Below w.heap.size w w':=by
 have hu50:=Tryz.underlying50
 have HB:=am (Below.refl w.heap.size w)
 have H : ((impl_StrLines.f a0).bind fun bt408=>((impl_StrLines.f a1).bind fun bt412=>(if 0 ≤ (mn (bt408.1.length : Int) (bt412.1.length : Int)) then (if (mn (bt408.1.length : Int) (bt412.1.length : Int) : Int).toNat ≤ 7036874417766 then (impl_spansOf.l0 k bt408.1 bt412.1 (List.replicate (0 * (mn (bt408.1.length : Int) (bt412.1.length : Int) : Int).toNat) z50) 0 0 (mn (bt408.1.length : Int) (bt412.1.length : Int)) 0) else (none)) else (none)))) = some r:=h
 clear h
 obtain ⟨⟨t408,t409⟩,A3,H⟩:=bse H
 try dsimp only at H
 obtain ⟨⟨t412,t413⟩,A4,H⟩:=bse H
 try dsimp only at H
 obtain ⟨ji5,hji5⟩ : ∃ j_ : Int,(mn (t408.length : Int) (t412.length : Int)) = j_:=⟨_,rfl⟩
 replace H : (if 0 ≤ (ji5) then (if (ji5 : Int).toNat ≤ 7036874417766 then (impl_spansOf.l0 k t408 t412 (List.replicate (0 * (ji5 : Int).toNat) z50) 0 0 ji5 0) else (none)) else (none)) = some r:=by first | (rw [hji5] at H;exact H) | (simp only [hji5] at H ⊢;exact H)
 (try rw [hji5] at A3)
 (try rw [hji5] at A4)
 (try (have hji5l : 0 ≤ ji5:=by (rw [← hji5];unfold mn;(repeat' split) <;> omega)))
 (try (have hji5m : 0 ≤ ji5:=by omega))
 have hji5_ : (if (t412.length : Int) < (t408.length : Int) then (t412.length : Int) else (t408.length : Int)) = ji5:=hji5
 (try (have hji5n:=hji5_;simp only [Int.ofNat_lt] at hji5n))
 by_cases c6 : 0 ≤ (ji5)
 ·rw [if_pos c6] at H
  have c6b0:=eq_true c6
  have c6b1 : decide (0 ≤ (ji5)) = true:=decide_eq_true c6
  clear c6
  by_cases c7 : (ji5 : Int).toNat ≤ 7036874417766
  ·rw [if_pos c7] at H
   have c7b0:=eq_true c7
   have c7b1 : decide ((ji5 : Int).toNat ≤ 7036874417766) = true:=decide_eq_true c7
   clear c7
   obtain ⟨y416,hy416⟩ : ∃ y_ : List (S50),y_ = (List.replicate (0 * (ji5 : Int).toNat) z50):=⟨_,rfl⟩
   replace H : (impl_spansOf.l0 k t408 t412 y416 0 0 ji5 0) = some r:=by first | (rw [hy416];with_reducible exact H) | (have H2_:=(Option.bind_some _ _).symm.trans H;rw [hy416];with_reducible exact H2_) | (have H2_:=(Option.bind_some _ _).symm.trans H;with_reducible exact H2_) | with_reducible exact H | (rw [hy416];exact H) | exact H
   have Ny416:=am hy416
   clear hy416
   have H':=am H
   clear H
   go_enter Tryz.func62,Tryz.ntmps62
   go_wp2_with (first | ((with_reducible refine gC 29 rfl ?_);refine gL (some 17) Tryz.func29 #[.string a0] ?_;(with_reducible refine (impl_StrLines.calls a0 t408 t409 _ A3.out (Env.below hE (bl HB))).mono ?_);rintro e w8 ⟨v410,rfl,ho0,hb⟩;refine ⟨_,rfl,?_⟩;have HO411:=am (Kd.R_lower ho0 (below_size (bl HB)));replace HB:=hbS HB hb;(try clear hb);(try clear ho0)) | ((with_reducible refine gC 29 rfl ?_);refine gL (some 22) Tryz.func29 #[.string a1] ?_;(with_reducible refine (impl_StrLines.calls a1 t412 t413 _ A4.out (Env.below hE (bl HB))).mono ?_);rintro e w9 ⟨v414,rfl,ho0,hb⟩;refine ⟨_,rfl,?_⟩;have HO415:=am (Kd.R_lower (Kd.R_new' ho0 (Kd.R_lt (rs HO411))) (below_size (bl HB)));replace HO411:=am (Kd.R_elder' (rs HO411) (Kd.R_base ho0) hb);replace HB:=hbS HB hb;(try clear hb);(try clear ho0);obtain ⟨Ao10,co10,eo10⟩:=Kd.R_slice HO411.out;subst eo10;obtain ⟨Ao11,co11,eo11⟩:=Kd.R_slice HO415.out;subst eo11) | ((with_reducible refine gD 31 rfl ?_);refine kd_make0 k50 _ 50 rfl (N:=31) rfl 60 _ _ rfl ji5 rfl rfl Tryz.underlying60 (.agg #[(.int .i64 0),(.int .i64 0),(.int .i64 0),(.int .i64 0),(.bool false)]) 40 info50 rfl (by decide) (by omega) z50 (ok:=fun _=>True) (okp:=fun _=>True) (k50_mkM _ _ _ z50 ) (fun _ hk=>hk) trivial (of_decide_eq_true da_) (Nat.le_trans (Nat.mul_le_mul_right _ (of_decide_eq_true da_ : ji5.toNat ≤ 7036874417766)) (by omega)) (Below.refl _ _) (Nat.le_refl _) ?_;intro v417 w12 ho13 hb hg_ hnew_;clear hg_ hnew_;(first | rw [← Ny416.out] at ho13 | (simp only [Int.reduceToNat] at ho13;rw [← Ny416.out] at ho13));replace HO411:=am (Kd.R_below (rs HO411) hb);replace HO415:=am (Kd.R_below (rs HO415) hb);have HO418:=am (Kd.R_lower ho13 (below_size (bl HB)));replace HB:=hbS HB hb;clear hb ho13) | ((with_reducible rw [hji5n])))
   go_loopg [10,11,12,33] k (fun kq v10 v11 v12 v33 w'=>∃ (x10_1 : List (S50)) (x11_1 : Int) (x12_1 : Int) (x33_1 : Int),v11 = .int .i64 x11_1 ∧ v12 = .int .i64 x12_1 ∧ v33 = .int .i64 x33_1 ∧ Aside0 (impl_spansOf.l0 kq t408 t412 x10_1 x11_1 x12_1 ji5 x33_1 = some r) ∧ Aside0 (kq ≤ k) ∧ Aside0 (Kd.R Kd.string 9 w' w.heap.size (fun k_=>some k_ ≠ ((.slice Ao11 t412.length co11) : Value).ownBlock) (.slice Ao10 t408.length co10) t408) ∧ Aside0 (Kd.R Kd.string 9 w' w.heap.size (fun k_=>some k_ ≠ ((.slice Ao10 t408.length co10) : Value).ownBlock) (.slice Ao11 t412.length co11) t412) ∧ Aside0 (Kd.R k50 50 w' w.heap.size (fun _=>True) v10 x10_1) ∧ Aside0 (Below w.heap.size w w'))
   case atStart=>exact ⟨(y416),(0),(0),(0),rs_,rs_,rs_,H',⟨Nat.le_refl _⟩,⟨by (with_reducible repeat apply ru);exact Kd.R_mono HO411.out (fun _ hk=>hk.2)⟩,⟨by (with_reducible repeat apply ru);exact Kd.R_mono HO415.out (fun _ hk=>hk.2)⟩,⟨by (with_reducible repeat apply ru);exact HO418.out⟩,⟨m0_⟩⟩
   case round=>
    clear H'
    try clear c2
    try clear p2
    try clear c6
    try clear c6b0
    try clear c6b1
    try clear c7
    try clear c7b0
    try clear c7b1
    obtain ⟨x10_1,x11_1,x12_1,x33_1,rfl,rfl,rfl,HA,HK1,HO_5,HO_7,HO_10,HB⟩:=hrel
    cases gk with
    | zero=>exact absurd HA.out (by simp [impl_spansOf.l0])
    | succ k1=>
     have H:=HA.out
     clear HA
     simp only [impl_spansOf.l0] at H
     by_cases c14 : x33_1 < ji5
     ·rw [if_pos c14] at H
      have c14b0 : decide (x33_1 < ji5) = true:=decide_eq_true c14
      clear c14
      by_cases c15 : 0 ≤ x33_1
      ·rw [if_pos c15] at H
       have c15b0 : decide (0 ≤ x33_1) = true:=decide_eq_true c15
       clear c15
       by_cases c16 : x33_1 < (t408.length : Int)
       ·rw [if_pos c16] at H
        have c16b0 : decide (x33_1 < (t408.length : Int)) = true:=decide_eq_true c16
        clear c16
        by_cases c17 : x33_1 < (t412.length : Int)
        ·rw [if_pos c17] at H
         have c17b0 : decide (x33_1 < (t412.length : Int)) = true:=decide_eq_true c17
         clear c17
         by_cases c18 : x10_1.length < 3518437208883
         ·rw [if_pos c18] at H
          have LMc18:=am c18
          clear c18
          obtain ⟨y424,hy424⟩ : ∃ y_ : List (S50),y_ = (x10_1 ++ [(⟨x11_1,wrap64 ((wrap64 (x11_1 + ((rdOf ByteArray.empty t408 x33_1).size : Int))) + 1),x12_1,wrap64 ((wrap64 (x12_1 + ((rdOf ByteArray.empty t412 x33_1).size : Int))) + 1),((rdOf ByteArray.empty t408 x33_1).toList == (rdOf ByteArray.empty t412 x33_1).toList)⟩ : S50)]):=⟨_,rfl⟩
          replace H : (impl_spansOf.l0 k1 t408 t412 y424 (wrap64 ((wrap64 (x11_1 + ((rdOf ByteArray.empty t408 x33_1).size : Int))) + 1)) (wrap64 ((wrap64 (x12_1 + ((rdOf ByteArray.empty t412 x33_1).size : Int))) + 1)) ji5 (wrap64 (x33_1 + 1))) = some r:=by first | (rw [hy424];with_reducible exact H) | (have H2_:=(Option.bind_some _ _).symm.trans H;rw [hy424];with_reducible exact H2_) | (have H2_:=(Option.bind_some _ _).symm.trans H;with_reducible exact H2_) | with_reducible exact H | (rw [hy424];exact H) | exact H
          have Ny424:=am hy424
          clear hy424
          have H':=am H
          clear H
          try go_wp2
          replace HO_5:=am (Kd.R_drew HO_5.out)
          replace HO_7:=am (Kd.R_drew HO_7.out)
          replace HO_10:=am (Kd.R_drew HO_10.out)
          replace HB:=am (below_drew1 HB.out)
          have p419 : 0 ≤ (x33_1 : Int):=of_decide_eq_true da_
          have q419 : x33_1 < (t408.length : Int):=of_decide_eq_true da_
          obtain ⟨ad419,e419,hx419_0⟩:=Kd.at_string (Kd.R_reads' HO_5.out).2.2 x33_1 p419 q419
          cases e419
          replace p419:=eq_true p419
          replace q419:=eq_true q419
          have p420 : 0 ≤ (x33_1 : Int):=of_decide_eq_true da_
          have q420 : x33_1 < (t412.length : Int):=of_decide_eq_true da_
          obtain ⟨ad420,e420,hx420_0⟩:=Kd.at_string (Kd.R_reads' HO_7.out).2.2 x33_1 p420 q420
          cases e420
          replace p420:=eq_true p420
          replace q420:=eq_true q420
          have p421 : 0 ≤ (x33_1 : Int):=of_decide_eq_true da_
          have q421 : x33_1 < (t408.length : Int):=of_decide_eq_true da_
          obtain ⟨ad421,e421,hx421_0⟩:=Kd.at_string (Kd.R_reads' HO_5.out).2.2 x33_1 p421 q421
          obtain rfl : ad419 = ad421:=(by injection e421)
          replace p421:=eq_true p421
          replace q421:=eq_true q421
          have p422 : 0 ≤ (x33_1 : Int):=of_decide_eq_true da_
          have q422 : x33_1 < (t412.length : Int):=of_decide_eq_true da_
          obtain ⟨ad422,e422,hx422_0⟩:=Kd.at_string (Kd.R_reads' HO_7.out).2.2 x33_1 p422 q422
          obtain rfl : ad420 = ad422:=(by injection e422)
          replace p422:=eq_true p422
          replace q422:=eq_true q422
          refine start_ (n:=30) (S:=fun w'=>w'.cell? (ad419.add (x33_1).toNat) = some (.string (rdOf ByteArray.empty t408 x33_1)) ∧ w'.cell? (ad420.add (x33_1).toNat) = some (.string (rdOf ByteArray.empty t412 x33_1)) ∧ w'.cell? (ad419.add (x33_1).toNat) = some (.string (rdOf ByteArray.empty t408 x33_1)) ∧ w'.cell? (ad420.add (x33_1).toNat) = some (.string (rdOf ByteArray.empty t412 x33_1))) (ds:=[]) #[false,false,false,false,false,false,false,false,false,false,false,false,false,false,false,false,false,false,false,false,false,false,false,false,false,false,false,false,false,false] (by kernel_rfl) rfl rfl ⟨hx419_0,hx420_0,hx421_0,hx422_0⟩ (fun hHeld=>?_);refine with_tabW impl_spansOf.tab9 impl_spansOf.bits9 (fun HT_ HW_=>?_)
          generalize wr.drew = w19 at HO_5 HO_7 HO_10 HB hx419_0 hx420_0 hx421_0 hx422_0 hHeld ⊢
          refine pu_ 0 (some 36) (bm 30 1) ?_
          refine pu_ 1 (some 37) (bm 30 3) ?_
          refine pu_ 2 (some 38) (bm 30 7) ?_
          refine pu_ 3 (some 39) (bm 30 15) ?_
          refine pu_ 4 (some 40) (bm 30 31) ?_
          refine pu_ 9 (some 45) (bm 30 543) ?_
          refine pu_ 10 (some 46) (bm 30 1567) ?_
          refine pu_ 11 (some 47) (bm 30 3615) ?_
          refine pu_ 12 (some 48) (bm 30 7711) ?_
          refine pu_ 13 (some 49) (bm 30 15903) ?_
          refine pu_ 18 (some 54) (bm 30 278047) ?_
          refine pu_ 19 (some 55) (bm 30 802335) ?_
          refine pu_ 20 (some 56) (bm 30 1850911) ?_
          refine pu_ 22 (some 58) (bm 30 6045215) ?_
          refine pu_ 23 (some 59) (bm 30 14433823) ?_
          refine pu_ 24 (some 60) (bm 30 31211039) ?_
          refine tk_ 5 (some 41) (bm 30 31211071) rfl (.inl ⟨rfl,m18_⟩) ?_
          refine pu_ 6 (some 42) (bm 30 31211135) ?_
          refine pu_ 7 (some 43) (bm 30 31211263) ?_
          refine pu_ 8 (some 44) (bm 30 31211519) ?_
          refine tk_ 14 (some 50) (bm 30 31227903) rfl (.inl ⟨rfl,m18_⟩) ?_
          refine pu_ 15 (some 51) (bm 30 31260671) ?_
          refine pu_ 16 (some 52) (bm 30 31326207) ?_
          refine pu_ 17 (some 53) (bm 30 31457279) ?_
          refine tk_ 21 (some 57) (bm 30 33554431) rfl (.inl ⟨rfl,m18_⟩) ?_
          refine tk_ 25 (some 61) (bm 30 67108863) rfl (.inl ⟨rfl,m18_⟩) ?_
          refine pu_ 26 (some 62) (bm 30 134217727) ?_
          refine pu_ 27 (some 63) (bm 30 268435455) ?_
          refine on_ 28 (some 14) (bm 30 536870911) (fun K hK=>?_)
          refine box_step rfl (N:=14) rfl (cs:=#[.int .i64 0,.int .i64 0,.int .i64 0,.int .i64 0,.bool false]) (t:=50) hr_ ?_
          intro gb423 hg w20 hbox hb
          have HS0_:=bch hb (hHeld.1)
          have HS1_:=bch hb (hHeld.2.1)
          have HS2_:=bch hb (hHeld.2.2.1)
          have HS3_:=bch hb (hHeld.2.2.2)
          replace HO_5:=am (Kd.R_below (rs HO_5) hb)
          replace HO_7:=am (Kd.R_below (rs HO_7) hb)
          replace HO_10:=am (Kd.R_below (Kd.R_elderB (rs HO_10) gb423 (Nat.le_of_eq hg.symm)) hb)
          have BK423:=am hbox
          have GW423:=gwE HB hg
          have GE423:=gwE HB hg
          replace HB:=hbS HB hb
          clear hb hbox hg
          refine hK.out _ _ ⟨HS0_,HS1_,HS2_,HS3_⟩ (fun hHeld=>?_)
          clear hK K
          refine nm_ ?_
          refine on_ 29 none (bm 30 1073741823) (fun K hK=>?_)
          have : w20.cell? ⟨gb423,0,none⟩ = some (.int .i64 0):=bcell BK423 0
          have:=bfz BK423 0
          have : w20.cell? ⟨gb423,1,none⟩ = some (.int .i64 0):=bcell BK423 1
          have:=bfz BK423 1
          have : w20.cell? ⟨gb423,2,none⟩ = some (.int .i64 0):=bcell BK423 2
          have:=bfz BK423 2
          have : w20.cell? ⟨gb423,3,none⟩ = some (.int .i64 0):=bcell BK423 3
          have:=bfz BK423 3
          have : w20.cell? ⟨gb423,4,none⟩ = some (.bool false):=bcell BK423 4
          have:=bfz BK423 4
          refine skip_ (w1:=?_) (by rfl) rfl ?_ ?_
          rotate_left
          ·go_simp
           rfl
          refine hK.out _ _ ⟨(farN (g:=gb423) (Kd.own_blk (Kd.R_ne HO_5.out BK423.out (by decide))) (hHeld.1)),(farN (g:=gb423) (Kd.own_blk (Kd.R_ne HO_7.out BK423.out (by decide))) (hHeld.2.1)),(farN (g:=gb423) (Kd.own_blk (Kd.R_ne HO_5.out BK423.out (by decide))) (hHeld.2.2.1)),(farN (g:=gb423) (Kd.own_blk (Kd.R_ne HO_7.out BK423.out (by decide))) (hHeld.2.2.2))⟩ (fun hHeld=>?_)
          clear hK K
          refine done_ (done_of HT_.out (by kernel_rfl)) ?_
          try go_wp2
          have n0_ : Aside0 (Kd.R Kd.string 9 (((((w20.setCell ⟨gb423,0,none⟩ (.int .i64 x11_1)).setCell ⟨gb423,1,none⟩ (.int .i64 (wrap64 ((wrap64 (x11_1 + ((rdOf ByteArray.empty t408 x33_1).size : Int))) + 1)))).setCell ⟨gb423,2,none⟩ (.int .i64 x12_1)).setCell ⟨gb423,3,none⟩ (.int .i64 (wrap64 ((wrap64 (x12_1 + ((rdOf ByteArray.empty t412 x33_1).size : Int))) + 1)))).setCell ⟨gb423,4,none⟩ (.bool ((rdOf ByteArray.empty t408 x33_1).toList == (rdOf ByteArray.empty t412 x33_1).toList))) w.heap.size (fun k_=>some k_ ≠ (.slice (some ad420) t412.length co11 : Value).ownBlock) (.slice (some ad419) t408.length co10) t408):=⟨by (with_reducible repeat apply ru);exact Kd.R_mono (Kd.R_far (p:=⟨gb423,4,none⟩) (Kd.R_far (p:=⟨gb423,3,none⟩) (Kd.R_far (p:=⟨gb423,2,none⟩) (Kd.R_far (p:=⟨gb423,1,none⟩) (Kd.R_far (p:=⟨gb423,0,none⟩) (Kd.R_types HO_5.out BK423.out (by decide)) (fun _ hk=>hk.2) (.int .i64 x11_1)) (fun _ hk=>hk.2) (.int .i64 (wrap64 ((wrap64 (x11_1 + ((rdOf ByteArray.empty t408 x33_1).size : Int))) + 1)))) (fun _ hk=>hk.2) (.int .i64 x12_1)) (fun _ hk=>hk.2) (.int .i64 (wrap64 ((wrap64 (x12_1 + ((rdOf ByteArray.empty t412 x33_1).size : Int))) + 1)))) (fun _ hk=>hk.2) (.bool ((rdOf ByteArray.empty t408 x33_1).toList == (rdOf ByteArray.empty t412 x33_1).toList))) (fun _ hk=>hk.1)⟩
          have n1_ : Aside0 (Kd.R Kd.string 9 (((((w20.setCell ⟨gb423,0,none⟩ (.int .i64 x11_1)).setCell ⟨gb423,1,none⟩ (.int .i64 (wrap64 ((wrap64 (x11_1 + ((rdOf ByteArray.empty t408 x33_1).size : Int))) + 1)))).setCell ⟨gb423,2,none⟩ (.int .i64 x12_1)).setCell ⟨gb423,3,none⟩ (.int .i64 (wrap64 ((wrap64 (x12_1 + ((rdOf ByteArray.empty t412 x33_1).size : Int))) + 1)))).setCell ⟨gb423,4,none⟩ (.bool ((rdOf ByteArray.empty t408 x33_1).toList == (rdOf ByteArray.empty t412 x33_1).toList))) w.heap.size (fun k_=>some k_ ≠ (.slice (some ad419) t408.length co10 : Value).ownBlock) (.slice (some ad420) t412.length co11) t412):=⟨by (with_reducible repeat apply ru);exact Kd.R_mono (Kd.R_far (p:=⟨gb423,4,none⟩) (Kd.R_far (p:=⟨gb423,3,none⟩) (Kd.R_far (p:=⟨gb423,2,none⟩) (Kd.R_far (p:=⟨gb423,1,none⟩) (Kd.R_far (p:=⟨gb423,0,none⟩) (Kd.R_types HO_7.out BK423.out (by decide)) (fun _ hk=>hk.2) (.int .i64 x11_1)) (fun _ hk=>hk.2) (.int .i64 (wrap64 ((wrap64 (x11_1 + ((rdOf ByteArray.empty t408 x33_1).size : Int))) + 1)))) (fun _ hk=>hk.2) (.int .i64 x12_1)) (fun _ hk=>hk.2) (.int .i64 (wrap64 ((wrap64 (x12_1 + ((rdOf ByteArray.empty t412 x33_1).size : Int))) + 1)))) (fun _ hk=>hk.2) (.bool ((rdOf ByteArray.empty t408 x33_1).toList == (rdOf ByteArray.empty t412 x33_1).toList))) (fun _ hk=>hk.1)⟩
          have n2_ : Aside0 (Kd.R k50 50 (((((w20.setCell ⟨gb423,0,none⟩ (.int .i64 x11_1)).setCell ⟨gb423,1,none⟩ (.int .i64 (wrap64 ((wrap64 (x11_1 + ((rdOf ByteArray.empty t408 x33_1).size : Int))) + 1)))).setCell ⟨gb423,2,none⟩ (.int .i64 x12_1)).setCell ⟨gb423,3,none⟩ (.int .i64 (wrap64 ((wrap64 (x12_1 + ((rdOf ByteArray.empty t412 x33_1).size : Int))) + 1)))).setCell ⟨gb423,4,none⟩ (.bool ((rdOf ByteArray.empty t408 x33_1).toList == (rdOf ByteArray.empty t412 x33_1).toList))) w.heap.size (fun k_=>k_ ≠ gb423) u10 x10_1):=⟨by (with_reducible repeat apply ru);exact Kd.R_mono (Kd.R_far (p:=⟨gb423,4,none⟩) (Kd.R_far (p:=⟨gb423,3,none⟩) (Kd.R_far (p:=⟨gb423,2,none⟩) (Kd.R_far (p:=⟨gb423,1,none⟩) (Kd.R_far (p:=⟨gb423,0,none⟩) (Kd.R_mono HO_10.out (fun k_ hk=>(⟨hk,hk.2⟩ : _ ∧ k_ ≠ gb423))) (fun _ hk=>hk.2) (.int .i64 x11_1)) (fun _ hk=>hk.2) (.int .i64 (wrap64 ((wrap64 (x11_1 + ((rdOf ByteArray.empty t408 x33_1).size : Int))) + 1)))) (fun _ hk=>hk.2) (.int .i64 x12_1)) (fun _ hk=>hk.2) (.int .i64 (wrap64 ((wrap64 (x12_1 + ((rdOf ByteArray.empty t412 x33_1).size : Int))) + 1)))) (fun _ hk=>hk.2) (.bool ((rdOf ByteArray.empty t408 x33_1).toList == (rdOf ByteArray.empty t412 x33_1).toList))) (fun _ hk=>hk.1.2)⟩
          have n3_ : Aside0 ((((((w20.setCell ⟨gb423,0,none⟩ (.int .i64 x11_1)).setCell ⟨gb423,1,none⟩ (.int .i64 (wrap64 ((wrap64 (x11_1 + ((rdOf ByteArray.empty t408 x33_1).size : Int))) + 1)))).setCell ⟨gb423,2,none⟩ (.int .i64 x12_1)).setCell ⟨gb423,3,none⟩ (.int .i64 (wrap64 ((wrap64 (x12_1 + ((rdOf ByteArray.empty t412 x33_1).size : Int))) + 1)))).setCell ⟨gb423,4,none⟩ (.bool ((rdOf ByteArray.empty t408 x33_1).toList == (rdOf ByteArray.empty t412 x33_1).toList))).heap[gb423]? = some (.cells #[.int .i64 x11_1,.int .i64 (wrap64 ((wrap64 (x11_1 + ((rdOf ByteArray.empty t408 x33_1).size : Int))) + 1)),.int .i64 x12_1,.int .i64 (wrap64 ((wrap64 (x12_1 + ((rdOf ByteArray.empty t412 x33_1).size : Int))) + 1)),.bool ((rdOf ByteArray.empty t408 x33_1).toList == (rdOf ByteArray.empty t412 x33_1).toList)] 50 (0,0))):=⟨by (with_reducible repeat refine bu ?_);refine blk_put (cs:=#[.int .i64 x11_1,.int .i64 (wrap64 ((wrap64 (x11_1 + ((rdOf ByteArray.empty t408 x33_1).size : Int))) + 1)),.int .i64 x12_1,.int .i64 (wrap64 ((wrap64 (x12_1 + ((rdOf ByteArray.empty t412 x33_1).size : Int))) + 1)),.bool false]) ?_ 4 _ rfl;(with_reducible repeat refine bu ?_);refine blk_put (cs:=#[.int .i64 x11_1,.int .i64 (wrap64 ((wrap64 (x11_1 + ((rdOf ByteArray.empty t408 x33_1).size : Int))) + 1)),.int .i64 x12_1,.int .i64 0,.bool false]) ?_ 3 _ rfl;(with_reducible repeat refine bu ?_);refine blk_put (cs:=#[.int .i64 x11_1,.int .i64 (wrap64 ((wrap64 (x11_1 + ((rdOf ByteArray.empty t408 x33_1).size : Int))) + 1)),.int .i64 0,.int .i64 0,.bool false]) ?_ 2 _ rfl;(with_reducible repeat refine bu ?_);refine blk_put (cs:=#[.int .i64 x11_1,.int .i64 0,.int .i64 0,.int .i64 0,.bool false]) ?_ 1 _ rfl;(with_reducible repeat refine bu ?_);refine blk_put (cs:=#[.int .i64 0,.int .i64 0,.int .i64 0,.int .i64 0,.bool false]) ?_ 0 _ rfl;(with_reducible repeat refine bu ?_);exact BK423.out⟩
          have n4_ : Aside0 (Below w.heap.size w (((((w20.setCell ⟨gb423,0,none⟩ (.int .i64 x11_1)).setCell ⟨gb423,1,none⟩ (.int .i64 (wrap64 ((wrap64 (x11_1 + ((rdOf ByteArray.empty t408 x33_1).size : Int))) + 1)))).setCell ⟨gb423,2,none⟩ (.int .i64 x12_1)).setCell ⟨gb423,3,none⟩ (.int .i64 (wrap64 ((wrap64 (x12_1 + ((rdOf ByteArray.empty t412 x33_1).size : Int))) + 1)))).setCell ⟨gb423,4,none⟩ (.bool ((rdOf ByteArray.empty t408 x33_1).toList == (rdOf ByteArray.empty t412 x33_1).toList)))):=⟨m2_⟩
          (try clear HO_5)
          (try clear HO_7)
          (try clear HO_10)
          (try clear BK423)
          (try clear HB)
          generalize (((((w20.setCell ⟨gb423,0,none⟩ (.int .i64 x11_1)).setCell ⟨gb423,1,none⟩ (.int .i64 (wrap64 ((wrap64 (x11_1 + ((rdOf ByteArray.empty t408 x33_1).size : Int))) + 1)))).setCell ⟨gb423,2,none⟩ (.int .i64 x12_1)).setCell ⟨gb423,3,none⟩ (.int .i64 (wrap64 ((wrap64 (x12_1 + ((rdOf ByteArray.empty t412 x33_1).size : Int))) + 1)))).setCell ⟨gb423,4,none⟩ (.bool ((rdOf ByteArray.empty t408 x33_1).toList == (rdOf ByteArray.empty t412 x33_1).toList))) = w26 at n0_ n1_ n2_ n3_ n4_ ⊢
          have HO_5:=n0_
          have HO_7:=n1_
          have HO_10:=n2_
          have BK423:=n3_
          have HB:=n4_
          clear n0_ n1_ n2_ n3_ n4_
          replace HO_5:=am (Kd.R_drew HO_5.out)
          replace HO_7:=am (Kd.R_drew HO_7.out)
          replace HO_10:=am (Kd.R_drew HO_10.out)
          replace BK423:=am (blk_drew BK423.out)
          replace HB:=am (below_drew1 HB.out)
          refine start_ (n:=6) (S:=fun w'=>w'.cell? ⟨gb423,0,none⟩ = some (.int .i64 x11_1) ∧ w'.cell? ⟨gb423,1,none⟩ = some (.int .i64 (wrap64 ((wrap64 (x11_1 + ((rdOf ByteArray.empty t408 x33_1).size : Int))) + 1))) ∧ w'.cell? ⟨gb423,2,none⟩ = some (.int .i64 x12_1) ∧ w'.cell? ⟨gb423,3,none⟩ = some (.int .i64 (wrap64 ((wrap64 (x12_1 + ((rdOf ByteArray.empty t412 x33_1).size : Int))) + 1))) ∧ w'.cell? ⟨gb423,4,none⟩ = some (.bool ((rdOf ByteArray.empty t408 x33_1).toList == (rdOf ByteArray.empty t412 x33_1).toList))) (ds:=[]) #[false,false,false,false,false,false] (by kernel_rfl) rfl rfl ⟨bcell BK423 0,bcell BK423 1,bcell BK423 2,bcell BK423 3,bcell BK423 4⟩ (fun hHeld=>?_)
          generalize w26.drew = w27 at HO_5 HO_7 HO_10 BK423 HB hHeld ⊢
          refine pu_ 0 (some 64) (bm 6 1) ?_
          refine pu_ 2 (some 66) (bm 6 5) ?_
          refine tk_ 1 (some 65) (bm 6 7) rfl (.inl ⟨rfl,m15_⟩) ?_
          refine pu_ 4 (some 11) (bm 6 23) ?_
          refine tk_ 3 (some 67) (bm 6 31) rfl (.inl ⟨rfl,m15_⟩) ?_
          refine pu_ 5 (some 12) (bm 6 63) ?_
          refine done_ (by kernel_rfl) ?_
          have:=bcell BK423 0
          have:=bcell BK423 1
          have:=bcell BK423 2
          have:=bcell BK423 3
          have:=bcell BK423 4
          have:=bfz BK423 0
          have:=bfz BK423 1
          have:=bfz BK423 2
          have:=bfz BK423 3
          have:=bfz BK423 4
          try go_wp2_with (first | ((with_reducible refine gate_builtin (b:=.append) (xs:=#[.tmp 68,.tmp 70]) rfl ?_);at_builtin;refine Kd.R_append k50 (w0:=w) w.heap.size rfl (.tmp 68) (.tmp 70) 60 50 (.agg #[(.int .i64 0),(.int .i64 0),(.int .i64 0),(.int .i64 0),(.bool false)]) 40 rfl Tryz.underlying60 info50 rfl (by decide) (by omega) u10 x10_1 (⟨x11_1,wrap64 ((wrap64 (x11_1 + ((rdOf ByteArray.empty t408 x33_1).size : Int))) + 1),x12_1,wrap64 ((wrap64 (x12_1 + ((rdOf ByteArray.empty t412 x33_1).size : Int))) + 1),((rdOf ByteArray.empty t408 x33_1).toList == (rdOf ByteArray.empty t412 x33_1).toList)⟩ : S50) [.int .i64 x11_1,.int .i64 (wrap64 ((wrap64 (x11_1 + ((rdOf ByteArray.empty t408 x33_1).size : Int))) + 1)),.int .i64 x12_1,.int .i64 (wrap64 ((wrap64 (x12_1 + ((rdOf ByteArray.empty t412 x33_1).size : Int))) + 1)),.bool ((rdOf ByteArray.empty t408 x33_1).toList == (rdOf ByteArray.empty t412 x33_1).toList)] (fun k_=>k_ ≠ gb423) (fun _=>False) rfl rfl ?aP (fun _ hk=>hk.elim) ?aF ?aO ?aB ?aS ?aL ?_;(case aP=>exact k50_mkM _ _ _ (⟨x11_1,wrap64 ((wrap64 (x11_1 + ((rdOf ByteArray.empty t408 x33_1).size : Int))) + 1),x12_1,wrap64 ((wrap64 (x12_1 + ((rdOf ByteArray.empty t412 x33_1).size : Int))) + 1),((rdOf ByteArray.empty t408 x33_1).toList == (rdOf ByteArray.empty t412 x33_1).toList)⟩ : S50));(case aB=>exact (bl HB));(case aF=>exact (fun k_ hk=>Kd.freshB (g:=gb423) (o:=.cells #[.int .i64 x11_1,.int .i64 (wrap64 ((wrap64 (x11_1 + ((rdOf ByteArray.empty t408 x33_1).size : Int))) + 1)),.int .i64 x12_1,.int .i64 (wrap64 ((wrap64 (x12_1 + ((rdOf ByteArray.empty t412 x33_1).size : Int))) + 1)),.bool ((rdOf ByteArray.empty t408 x33_1).toList == (rdOf ByteArray.empty t412 x33_1).toList)] 50 (0,0)) (bk BK423) k_ hk));(case aO=>exact (rs HO_10));(case aS=>exact (below_size (bl HB)));(case aL=>have:=LMc18.out;omega);intro v425 w29 ho hb hg hat;rw [← Ny424.out] at ho;replace HO_5:=am (Kd.R_over' (rs HO_5) (Kd.R_typed (rs HO_10)) (by decide) hg);replace HO_7:=am (Kd.R_over' (rs HO_7) (Kd.R_typed (rs HO_10)) (by decide) hg);replace BK423:=am (blk_grown (g:=gb423) (o:=.cells #[.int .i64 x11_1,.int .i64 (wrap64 ((wrap64 (x11_1 + ((rdOf ByteArray.empty t408 x33_1).size : Int))) + 1)),.int .i64 x12_1,.int .i64 (wrap64 ((wrap64 (x12_1 + ((rdOf ByteArray.empty t412 x33_1).size : Int))) + 1)),.bool ((rdOf ByteArray.empty t408 x33_1).toList == (rdOf ByteArray.empty t412 x33_1).toList)] 50 (0,0)) (bk BK423) hg (Kd.R_away HO_10.out (fun _ hk=>hk)));replace HB:=am hb;have HO426:=am (ho);clear HO_10;clear ho hb hg hat) | ((with_reducible rw [hji5n])))
          go_roundg k1
          case measure=>have:=HK1.out;omega
          case rel=>exact ⟨(y424),(wrap64 ((wrap64 (x11_1 + ((rdOf ByteArray.empty t408 x33_1).size : Int))) + 1)),(wrap64 ((wrap64 (x12_1 + ((rdOf ByteArray.empty t412 x33_1).size : Int))) + 1)),(wrap64 (x33_1 + 1)),rs_,rs_,rs_,H',⟨by have:=HK1.out;omega⟩,⟨by (with_reducible repeat apply ru);exact HO_5.out⟩,⟨by (with_reducible repeat apply ru);exact HO_7.out⟩,⟨by (with_reducible repeat apply ru);exact Kd.R_mono HO426.out (fun _ hk=>trivial)⟩,⟨m2_⟩⟩
         ·rw [if_neg c18] at H
          exact absurd H (by simp)
        ·rw [if_neg c17] at H
         exact absurd H (by simp)
       ·rw [if_neg c16] at H
        exact absurd H (by simp)
      ·rw [if_neg c15] at H
       exact absurd H (by simp)
     ·rw [if_neg c14] at H
      have c14b0 : decide (x33_1 < ji5) = false:=decide_eq_false c14
      clear c14
      obtain rfl:=Option.some.inj H
      go_wp2
      go_ret
      exact ⟨_,by first | rfl | (simp [errW_none,errW_some] <;> rfl) | (simp only [← hji5];first | rfl | (simp [errW_none,errW_some] <;> rfl)) | (simp [*,errW_none,errW_some] <;> rfl),by (with_reducible repeat apply ru);exact HO_10.out,m0_⟩
  ·rw [if_neg c7] at H
   exact absurd H (by simp)
 ·rw [if_neg c6] at H
  exact absurd H (by simp)
end
end Go.Proofs.YtakfmcpjnkagmaaGreatDoor.P
namespace Go.Proofs.YtakfmcpjnkagmaaGreatDoor.P
open Go.RowKit Go.Shelf
set_option linter.unusedVariables false
set_option linter.unusedSimpArgs false
set_option maxHeartbeats 1000000 in
set_option maxRecDepth 100000 in
theorem copyCheck_used (b : Nat) (w : World) (h0 : w.cell? ⟨b,0,none⟩ = some (.pointer (some ⟨b,0,none⟩))) :
    Calls Tryz.prog 106 #[.pointer (some ⟨b,0,none⟩)] w fun e w'=>e = .returned (.tuple #[]) ∧ w = w':=by
  obtain ⟨j,hj,_⟩:=Option.map_eq_some_iff.1 Tryz.Builder_Extra_169.sizeBuilder
  go_enter Tryz.func106,Tryz.ntmps106
  go_wp2
  rw [Lib.run_neq_ptr_same w _ Tryz.underlying93 hj]
  go_wp2
  go_end0
  exact ⟨rfl,rfl⟩
set_option maxHeartbeats 1000000 in
set_option maxRecDepth 100000 in
theorem copyCheck_fresh (b : Nat) (w : World) (h0 : w.cell? ⟨b,0,none⟩ = some (.pointer none)) (hsh : w.shape? b = some (95,2)) (hfz : w.frozen? ⟨b,0,none⟩ = false) :
    Calls Tryz.prog 106 #[.pointer (some ⟨b,0,none⟩)] w fun e w'=>e = .returned (.tuple #[]) ∧ w' = w.setCell ⟨b,0,none⟩ (.pointer (some ⟨b,0,none⟩)):=by
  obtain ⟨j,hj,hjs⟩:=Option.map_eq_some_iff.1 Tryz.Builder_Extra_169.sizeBuilder
  go_enter Tryz.func106,Tryz.ntmps106
  go_wp2
  rw [Lib.run_to_unsafe w ⟨b,0,none⟩ Tryz.underlying93 Tryz.underlying123 hj (by rw [hjs];decide) hsh (Nat.zero_lt_succ 1)]
  simp only [Result.andThen]
  rw [Oper.upon_value]
  go_wp2
  rw [run_callFunc_extern Tryz.func122 (by kernel_rfl) (by kernel_rfl) (by kernel_rfl) (e:=Extern.AbiNoEscape.same) (by kernel_rfl)]
  rw [Lib.run_noEscape]
  simp only [Result.andThen]
  rw [Oper.upon_value]
  go_wp2
  rw [Lib.run_from_unsafe w ⟨b,0,none⟩ Tryz.underlying123 Tryz.underlying93 hj hsh Tryz.Builder_Extra_169.liesBuilder]
  simp only [Result.andThen]
  rw [Oper.upon_value]
  go_wp2
  go_end0
  exact ⟨rfl,rfl⟩
theorem copyCheck_k (B b : Nat) (bs : List Value) (w : World) (h : Lib.IsBuilderF 95 5 B b bs w) :
    Calls Tryz.prog 106 #[.pointer (some ⟨b,0,none⟩)] w fun e w'=>e = .returned (.tuple #[]) ∧ (Lib.BuilderAtF 95 5 B b (.pointer (some ⟨b,0,none⟩)) bs w' ∧ Below B w w' ∧ Lib.OthersKept 5 (some b) w w'):=by
  rcases h with h | h
  · refine (copyCheck_fresh b w h.cell0 h.shape h.frozen0).mono ?_
    rintro e w' ⟨rfl,rfl⟩
    exact ⟨rfl,h.used _,(Below.refl B w).setCell (p:=⟨b,0,none⟩) h.1 _,(Lib.OthersKept.refl _ _ w).setCell ⟨b,0,none⟩ rfl _⟩
  · refine (copyCheck_used b w h.cell0).mono ?_
    rintro e w' ⟨rfl,rfl⟩
    exact ⟨rfl,h,Below.refl B _,Lib.OthersKept.refl _ _ _⟩
set_option maxHeartbeats 2000000 in
set_option maxRecDepth 100000 in
theorem writeString_k (B b : Nat) (bs : List Value) (s : ByteArray) (w : World) (h : Lib.IsBuilderF 95 5 B b bs w) (hlen : bs.length + s.size ≤ 140737488355328) (hBw : B ≤ w.heap.size) :
    Calls Tryz.prog 84 #[.pointer (some ⟨b,0,none⟩),.string s] w fun e w'=>e = .returned (.tuple #[.int .i64 s.size,.nilIface]) ∧ (Lib.BuilderAtF 95 5 B b (.pointer (some ⟨b,0,none⟩)) (bs ++ Lib.strCells s) w' ∧ Below B w w' ∧ Lib.OthersKept 5 (some b) w w'):=by
  obtain ⟨i0,hi,hz0,hz1,hz2⟩:=info_parts Tryz.Builder_Extra_169.infoByte
  go_enter Tryz.func84,Tryz.ntmps84
  go_wp2_with (go_at_call 106;refine (copyCheck_k B b bs _ h).mono ?_)
  rintro e w1 ⟨rfl,h1,hb1,hk1⟩
  obtain ⟨hB,v,hbk,hown,hne⟩:=h1
  have c0 : w1.cell? ⟨b,0,none⟩ = some (.pointer (some ⟨b,0,none⟩)):=by rw [Lib.cell_of_heap hbk];rfl
  have c1 : w1.cell? ⟨b,1,none⟩ = some v:=by rw [Lib.cell_of_heap hbk];rfl
  go_wp2_with (at_builtin;refine Lib.wpList_append_own_stringF _ rfl _ _ 39 9 rfl B 5 i0 Tryz.underlying39 Tryz.underlying9 hi hz0 hz1 hz2 _ _ _ rfl hown s rfl ?c3 ?c4 ?c5 ?_)
  case c3=>unfold maxLen;omega
  case c4=>omega
  case c5=>have:=hb1.size;omega
  intro v' w2 hown' hgrow _
  have hlt : b < w1.heap.size:=by
    rcases Nat.lt_or_ge b w1.heap.size with h' | h'
    · exact h'
    · simp [Array.getElem?_eq_none h'] at hbk
  have hb2 : w2.heap[b]? = some (.cells #[.pointer (some ⟨b,0,none⟩),v] 95 (0,0)):=by
    rw [hgrow.block b hlt (fun e=>hne e.symm)]
    exact hbk
  have d0 : w2.cell? ⟨b,0,none⟩ = some (.pointer (some ⟨b,0,none⟩)):=by rw [Lib.cell_of_heap hb2];rfl
  have d1 : w2.cell? ⟨b,1,none⟩ = some v:=by rw [Lib.cell_of_heap hb2];rfl
  have f1 : w2.frozen? ⟨b,1,none⟩ = false:=Lib.frozen_of_heap hb2 1
  obtain ⟨ao,n',cap,rfl⟩ : ∃ ao n' cap,v' = .slice ao n' cap:=by
    rcases hown'.2 with ⟨hv,_⟩ | ⟨g,cap,cur,fz,hv,_⟩
    · exact ⟨_,_,_,hv⟩
    · exact ⟨_,_,_,hv⟩
  go_wp2
  go_ret2
  refine ⟨rfl,?_,?_,(hk1.grown hgrow (Lib.ownsRowF_kind hown)).setCell ⟨b,1,none⟩ rfl _⟩
  · exact Lib.BuilderAtF.put (T:=95) (e:=5) hB hb2 (bs':=bs ++ Lib.strCells s) (by simpa [Lib.strCells_length] using hown') Tryz.Builder_Extra_169.neB5
  · exact (hb1.grown hgrow (by have:=hb1.size;omega) (fun k hk=>(hown.lt k hk).1)).setCell (p:=⟨b,1,none⟩) hB _
end Go.Proofs.YtakfmcpjnkagmaaGreatDoor.P
namespace Go.Proofs.YtakfmcpjnkagmaaGreatDoor.P
open Go.Proofs.YtakfmcpjnkagmaaGreatDoorUPoSp.PrintLast Go.Proofs.YtakfmcpjnkagmaaGreatDoorUPoSp.PrintMore Go.Proofs.YtakfmcpjnkagmaaGreatDoorUPoSp.PrintWords Go.RowKit
set_option linter.unusedVariables false
set_option linter.unusedSimpArgs false
theorem R_clip {α : Type} {d : Kd α} {e n c : Nat} {w : World} {base : Nat} {ok : Nat → Prop} {A : Option Addr} {xs : List α} (h : d.R e w base ok (.slice A n c) xs) : d.R e w base ok (.slice A n n) xs:=by
  obtain ⟨h0,inner,ho,hr⟩:=h
  have hb : ∀ x y : Nat,(Value.slice A x x).ownBlock = (Value.slice A n c).ownBlock:=by intro x y;cases A <;> rfl
  have hn : n = xs.length:=by
    obtain ⟨A',c',he⟩:=own_slice ho
    injection he
  refine ⟨fun k hk=>h0 k (by rw [← hb n n];exact hk),inner,?_,by rw [hb n n];exact hr⟩
  obtain ⟨hl,h2⟩:=ho
  refine ⟨hl,?_⟩
  rcases h2 with ⟨hv,hx⟩ | ⟨g,cap,cur,hv,hbg,hh,hnc,hcm,hcs,ht⟩
  · injection hv with h1 h2 h3
    subst h1;subst h2
    exact .inl ⟨rfl,hx⟩
  · injection hv with h1 h2 h3
    subst h1;subst h2;subst h3
    exact .inr ⟨g,xs.length,cur,rfl,hbg,hh,Nat.le_refl _,Nat.le_trans hnc hcm,Nat.le_trans (Nat.mul_le_mul_right _ hnc) hcs,ht⟩
set_option maxHeartbeats 8000000 in
set_option maxRecDepth 100000 in
theorem clip_end (A : Option Addr) (n c : Nat) (h : n ≤ c) (w : World) : Calls Tryz.prog 102 #[.slice A n c] w fun e w'=>∃ v,e = .returned v ∧ v = .slice A n n ∧ w' = w:=by
  go_enter Tryz.func102,Tryz.ntmps102
  go_wp2
  go_ret
  exact ⟨_,rfl,rfl,rfl⟩
set_option maxHeartbeats 8000000 in
set_option maxRecDepth 100000 in
theorem clone_end (A : Option Addr) (c : Nat) (l : List S55) (w : World) (hr : Kd.C k55 w A l.length l) (hc : l.length ≤ c) (hl : l.length < 1000000000000) :
    Calls Tryz.prog 103 #[.slice A l.length c] w fun e w'=>∃ v,e = .returned v ∧ Kd.R k55 55 w' w.heap.size (fun _=>True) v l ∧ Below w.heap.size w w':=by
  have HR:=Aside0.mk hr
  have HL:=Aside0.mk hl
  clear hl
  have HB:=Aside0.mk (Below.refl w.heap.size w)
  cases A with
  | none=>
    have h0 : l.length = 0:=by
      rcases Nat.eq_zero_or_pos l.length with h | h
      · exact h
      · obtain ⟨x,hx,_⟩:=hr.2.2 h
        cases hx
    have hnil:=Aside0.mk (List.eq_nil_of_length_eq_zero h0)
    clear hr h0
    have hq:=fun w' : World=>Lib.run_eql_slice_nil (P:=Tryz.prog) w' 27 55 none l.length c 0 0 Tryz.underlying27
    go_enter Tryz.func103,Tryz.ntmps103
    go_wp2
    go_ret
    exact ⟨_,rfl,by rw [hnil.out];exact Kd.R_nil _ _ _ _ _,HB.out⟩
  | some ad=>
    clear hr
    have hq:=fun w' : World=>Lib.run_eql_slice_nil (P:=Tryz.prog) w' 27 55 (some ad) l.length c 0 0 Tryz.underlying27
    go_enter Tryz.func103,Tryz.ntmps103
    go_wp2_with (first
      | ((with_reducible refine gate_dst (N:=5) rfl ?_)
         refine Kd.R_lit k55 _ 55 ?hg (N:=5) ?hd (xs:=([] : List (S55))) (inner:=[]) (ok:=fun _=>True) (okp:=fun _=>True) ?hr ?hp (fun _ hk=>hk) trivial (Below.refl _ _) (Nat.le_refl _) (by simp) ?_
         (case hd=>rfl)
         (case hg=>rfl)
         (case hr=>first | (go_simp;done) | (go_simp;rfl))
         (case hp=>exact (Reps.none _ _))
         intro v5 w5 ho5 hb hg_ hnew_
         clear hg_ hnew_
         have HO:=Aside0.mk (Kd.R_lower ho5 (below_size (bl HB)))
         have n3_:=Aside0.mk (below_step (bl HB) hb)
         clear HB
         have HB:=n3_
         clear n3_ hb ho5)
      | ((with_reducible refine gate_builtin (b:=.append) (xs:=#[.tmp 5,.tmp 6]) rfl ?_)
         at_builtin
         refine Kd.R_append_rows k55 (w0:=w) w.heap.size rfl (.tmp 5) (.tmp 6) 27 55 (.agg #[(.int .i64 0),(.int .i64 0)]) 16 rfl Tryz.underlying27 info55 rfl (by decide) (by omega) v5 [] l _ _ _ (fun _=>True) (fun _=>False) rfl rfl ?aO ?aR (fun _ _ h=>h) (fun _ h=>h.elim) ?aF ?aB ?aS ?aL ?_
         (case aR=>repeat (first | exact (Kd.C_below HR.out HB.out) | (with_reducible refine Kd.C_alloc ?_ _) | (with_reducible refine Kd.C_drewN ?_ _) | (with_reducible refine Kd.C_drew ?_)))
         (case aB=>exact (bl HB))
         (case aF=>exact (fun _ _=>trivial))
         (case aO=>exact (rs HO))
         (case aS=>exact (below_size (bl HB)))
         (case aL=>have:=HL.out;simp only [List.length_nil];omega)
         intro v7 w7 ho hb hg hat
         have n2_:=Aside0.mk hb
         clear HB HO
         have HB:=n2_
         have HO:=Aside0.mk ho
         clear n2_ ho hb hg hat))
    go_ret
    exact ⟨_,rfl,HO.out,HB.out⟩
def impl_EndPoint_103.f (l : List S55) : Option (List S55):=if l.length < 1000000000000 then some l else none
theorem impl_EndPoint_103.calls (A0 : Option Addr) (c0 : Nat) (l0 : List (S55)) (r : List (S55)) (w : World) (hr0 : Kd.C k55 w A0 l0.length l0) (hc0 : l0.length ≤ c0) (h : impl_EndPoint_103.f l0 = some r) :
    Calls Tryz.prog 103 #[.slice A0 l0.length c0] w fun e w'=>∃ v0_ : Value,e = .returned (v0_) ∧ Kd.R k55 55 w' w.heap.size (fun _=>True) v0_ r ∧ Below w.heap.size w w':=by
  unfold impl_EndPoint_103.f at h
  by_cases hl : l0.length < 1000000000000
  · rw [if_pos hl] at h
    obtain rfl:=Option.some.inj h
    exact clone_end A0 c0 l0 w hr0 hc0 hl
  · rw [if_neg hl] at h
    cases h
def impl_EndPoint_102.f (l : List S55) : Option (List S55 × List S55):=some (l,[])
theorem bkW {w W w' : World} {g : Nat} {o : Obj} (b : Aside0 (w.heap[g]? = some o)) (hw : w' = W) (s : w.heap[g]? = some o → W.heap[g]? = some o:=by intro h;(with_reducible repeat refine bu ?_);exact h) : Aside0 (w'.heap[g]? = some o):=⟨by rw [hw];exact s b.out⟩
theorem blW {w W W' w' : World} {n : Nat} (b : Aside0 (Below n w W)) (hw : w' = W') (s : Below n w W → Below n w W':=by intro h;repeat (first | (with_reducible first | exact h | apply below_alloc | apply pw_below_drewN | apply below_drew1 | refine below_set ?_ (Aside0.out (by with_reducible assumption))) | exact h)) : Aside0 (Below n w w'):=⟨by rw [hw];exact s b.out⟩
theorem clipNil {α : Type} {d : Kd α} {e : Nat} {w : World} {base : Nat} {ok : Nat → Prop} {u : Value} {xs r1 r2 : List α} (h : Aside0 (Kd.R d e w base ok u xs)) (w' : World) (hf : some (xs,([] : List α)) = some (r1,r2)) : Aside0 (Kd.R d e w' base ok (.slice none 0 0) r2):=by
  injection hf with hf
  injection hf with _ h2
  subst h2
  exact ⟨Kd.R_nil _ _ _ _ _⟩
theorem clipR {α : Type} {d : Kd α} {e n c : Nat} {w W w' : World} {base : Nat} {ok ok' : Nat → Prop} {A : Option Addr} {v : Value} {xs r1 r2 : List α} (h : Aside0 (Kd.R d e w base ok (.slice A n c) xs)) (hv : v = .slice A n n) (hw : w' = W) (hf : some (xs,([] : List α)) = some (r1,r2)) (hok : ∀ k,ok k → ok' k)
    (s : Kd.R d e w base ok (.slice A n c) xs → Kd.R d e W base ok (.slice A n c) xs:=by intro h;(with_reducible repeat apply ru);exact h) : Aside0 (Kd.R d e w' base ok' v r1):=by
  injection hf with hf
  injection hf with h1 _
  subst h1
  subst hv
  subst hw
  exact ⟨Kd.R_mono (R_clip (s h.out)) hok⟩
section
attribute [local go_sem] max2_int min2_int max_two min_two max_three min_three max_four min_four
def impl_MapTab_copied.f (l0_0 : List (S55)) : Option ((List (S55))):=(impl_EndPoint_103.f l0_0).bind fun t313=>((impl_EndPoint_102.f t313).bind fun bt316=>(some bt316.1))
set_option maxHeartbeats 8000000 in
set_option maxRecDepth 100000 in
theorem impl_MapTab_copied.calls (A0_0 : Option Addr) (c0_0 : Nat) (l0_0 : List (S55)) (r : List (S55)) (w : World) (hr0_0 : Kd.C k55 w A0_0 l0_0.length l0_0) (hc0_0 : l0_0.length ≤ c0_0) (h : impl_MapTab_copied.f l0_0 = some r) :
  Calls Tryz.prog 82 #[.agg #[.slice A0_0 l0_0.length c0_0]] w fun e w'=>∃ v0_ : Value,e = .returned (.agg #[v0_]) ∧ Kd.R k55 55 w' w.heap.size (fun _=>True) v0_ r ∧ Below w.heap.size w w':=by
 have hu29:=Tryz.underlying29
 have HR0_0:=am hr0_0
 have HC0_0:=am hc0_0
 clear hr0_0 hc0_0
 have HB:=am (Below.refl w.heap.size w)
 have H : ((impl_EndPoint_103.f l0_0).bind fun t313=>((impl_EndPoint_102.f t313).bind fun bt316=>(some bt316.1))) = some r:=h
 clear h
 obtain ⟨t313,A2,H⟩:=bse H
 try dsimp only at H
 obtain ⟨⟨t316,t319⟩,A3,H⟩:=bse H
 try dsimp only at H
 obtain rfl:=Option.some.inj H
 go_enter Tryz.func82,Tryz.ntmps82
 go_wp2_with (first | ((with_reducible refine gD 1 rfl ?_);refine box_event rfl (N:=1) rfl (cs:=#[.slice A0_0 l0_0.length c0_0]) (t:=29) hr_ ?_;intro gb311 hg w4 hbox hb;have BK311:=am hbox;have GW311:=gwE HB hg;have GE311:=gwE HB hg;replace HB:=hbS HB hb;clear hb hbox hg) | ((with_reducible refine gD 2 rfl ?_);refine box_event rfl (N:=2) rfl (cs:=#[.slice none 0 0]) (t:=29) hr_ ?_;intro gb312 hg w5 hbox hb;have BK312:=am hbox;have GW312:=gwE HB hg;have GE312:=gwE HB hg;replace HB:=hbS HB hb;have NB311_312:=neL BK311 hg;have NB312_311:=neG BK311 hg;replace BK311:=bkB BK311 hb;clear hb hbox hg;have:=NB311_312.out;have:=NB312_311.out;have:=bcell BK311 0;have:=bfz BK311 0) | ((with_reducible refine gC 103 rfl ?_);refine gL (some 5) Tryz.func103 #[.slice A0_0 l0_0.length c0_0] ?_;(with_reducible refine (impl_EndPoint_103.calls _ _ l0_0 t313 _ ?side1 ?side2 A2.out).mono ?_);(case side1=>exact m3_);(case side2=>exact HC0_0.out);rintro e w8 ⟨v314,rfl,ho0,hb⟩;refine ⟨_,rfl,?_⟩;have HO315:=am (Kd.R_lower ho0 (below_size (bl HB)));replace BK311:=bkB BK311 hb;replace BK312:=bkB BK312 hb;replace HB:=hbS HB hb;(try clear hb);(try clear ho0);obtain ⟨Ao9,co9,eo9⟩:=Kd.R_slice HO315.out;subst eo9) | ((with_reducible refine gC 102 rfl ?_);refine gL (some 6) Tryz.func102 #[.slice Ao9 t313.length co9] ?_;(with_reducible refine (clip_end Ao9 t313.length co9 (Kd.R_reads' HO315.out).2.1 _).mono ?_);rintro e w10 ⟨v317,rfl,hv_,hw_⟩;refine ⟨_,rfl,?_⟩;replace BK311:=bkW BK311 hw_;replace BK312:=bkW BK312 hw_;have HO318:=clipR (ok':=fun k_=>some k_ ≠ (.slice none 0 0 : Value).ownBlock) HO315 hv_ hw_ A3.out (fun k_ hk_=>by first | exact ⟨by simp [Value.ownBlock],hk_⟩ | (simp [Value.ownBlock];done) | exact hk_);replace HO315:=clipNil HO315 w10 A3.out;replace HB:=blW HB hw_;clear hv_ hw_;obtain ⟨Ao11,co11,eo11⟩:=Kd.R_slice HO318.out;subst eo11;have:=bcell BK312 0;have:=bfz BK312 0))
 refine bodyPost_ret (results_cell_row rfl _ _ gb312 29 #[.slice Ao11 t316.length co11] (0,0) _ rfl (by (with_reducible repeat refine bu ?_);refine blk_put (cs:=#[.slice none 0 0]) ?_ 0 _ rfl;(with_reducible repeat refine bu ?_);exact BK312.out) Tryz.underlying29 rfl (by kernel_rfl)) rfl ?_
 exact ⟨_,fi_,by (with_reducible repeat apply ru);exact Kd.R_mono (Kd.R_far (p:=⟨gb312,0,none⟩) (Kd.R_types HO318.out BK312.out (by decide)) (fun _ hk=>hk.2) (.slice Ao11 t316.length co11)) (fun _ hk=>trivial),m2_⟩
end
def I64 (n : Int) : Prop:=(Lit.int .i64 n).wf = true
theorem i64_iff (n : Int) : I64 n ↔ -9223372036854775808 ≤ n ∧ n ≤ 9223372036854775807:=by
  unfold I64
  simp [Lit.wf,IntKind.min,IntKind.max,IntKind.signed,IntKind.bits]
theorem mapLaid : laidOutB Tryz.prog = true:=by kernel_rfl
theorem endKeyed : Maps.Keyed Tryz.prog 55:=Maps.Keyed.of_law (deep_law_laid mapLaid (m:=2) (by omega) (of_decide_eq_true (by kernel_rfl)) (by kernel_rfl) (by rw [Tryz.underlying55]))
theorem intKeyed : Maps.Keyed Tryz.prog 3:=Maps.int_keyed Tryz.underlying3
def eK (a b : Int) : Lit:=.string (keyBytes [.int .i64 a,.int .i64 b])
theorem eK_key (a b : Int) : WideAt.IsKeyLit (eK a b):=trivial
theorem pK_key (n : Int) : WideAt.IsKeyLit (Lit.int .i64 n):=trivial
theorem endKey {a b : Int} (wa : I64 a) (wb : I64 b) : keyOf Tryz.prog 55 (.agg #[.int .i64 a,.int .i64 b]) = some (eK a b):=by
  have hk : Tryz.prog.keyType 55 = true:=by kernel_rfl
  have hc : Tryz.prog.cellsOf 55 = 2:=by kernel_rfl
  have hc3 : Tryz.prog.cellsOf 3 = 1:=by kernel_rfl
  obtain ⟨m,hm⟩ : ∃ m,Tryz.prog.types.size = m + 2:=⟨Tryz.prog.types.size - 2,by kernel_rfl⟩
  unfold I64 at wa wb
  unfold keyOf eK
  simp only [Tryz.underlying55]
  rw [if_pos (by simp [hk,Value.formed,Tryz.underlying55,hc]),hm]
  unfold Program.keyLits
  simp only [Tryz.underlying55,Value.cells]
  rw [if_pos (by rw [hc];exact ⟨rfl,by simp⟩)]
  simp [hc3,Program.keyLits,Tryz.underlying3,wa,wb]
theorem intKey {n : Int} (w : I64 n) : keyOf Tryz.prog 3 (.int .i64 n) = some (.int .i64 n):=by
  unfold I64 at w
  simp [keyOf,mapKey,Tryz.underlying3,w]
theorem eK_inj {a b c d : Int} (wa : I64 a) (wb : I64 b) (wc : I64 c) (wd : I64 d) (h : eK a b = eK c d) : a = c ∧ b = d:=by
  have:=endKeyed.inj (endKey wa wb) (by rw [h];exact endKey wc wd)
  simpa using this
def endD (a b : Int) : DataW Unit:=.map [(.int .i64 0,.lit (.int .i64 a)),(.int .i64 0,.lit (.int .i64 b))]
def endR (v : Value) : Option (DataW Unit × List MemPlace):=match v with
  | .agg cs=>(match cs.toList with
    | [.int .i64 a,.int .i64 b]=>some (endD a b,[])
    | _=>none)
  | _=>none
theorem endR_mk (a b : Int) : endR (.agg #[.int .i64 a,.int .i64 b]) = some (endD a b,[]):=rfl
theorem endR_inv {v : Value} {z : DataW Unit × List MemPlace} (h : endR v = some z) : ∃ a b,v = .agg #[.int .i64 a,.int .i64 b] ∧ z.1 = endD a b:=by
  unfold endR at h
  split at h
  · rename_i cs
    split at h
    · rename_i a b he
      obtain ⟨l⟩:=cs
      simp at he
      subst he
      injection h with h
      subst h
      exact ⟨a,b,rfl,rfl⟩
    · cases h
  · cases h
def fnd (l : List S55) (a b : Int) : Option Nat:=l.findIdx? (fun x=>x.f0 == a && x.f1 == b)
theorem fnd_snoc (l : List S55) (x : S55) (a b : Int) : fnd (l ++ [x]) a b = (match fnd l a b with | some i=>some i | none=>if x.f0 = a ∧ x.f1 = b then some l.length else none):=by
  unfold fnd
  rw [List.findIdx?_append]
  cases l.findIdx? (fun x=>x.f0 == a && x.f1 == b) with
  | some i=>simp
  | none=>by_cases h : x.f0 = a ∧ x.f1 = b <;> simp [List.findIdx?_cons,h]
def Says1 (l : List S55) (D : DataW Unit) : Prop:=∀ a b,I64 a → I64 b → ∀ z,D.atKey (eK a b) z = (match fnd l a b with | none=>z | some i=>.lit (.int .i64 (500 + i)))
def Says2 (l : List S55) (D : DataW Unit) : Prop:=∀ n,I64 n → ∀ z,D.atKey (.int .i64 n) z = (match (if 500 ≤ n then l[(n - 500).toNat]? else none) with | none=>z | some x=>endD x.f0 x.f1)
theorem says1_nil : Says1 [] (.map []):=fun a b _ _ z=>rfl
theorem says2_nil : Says2 [] (.map []):=fun n _ z=>by
  have : (if 500 ≤ n then ([] : List S55)[(n - 500).toNat]? else none) = none:=by split <;> rfl
  rw [this];rfl
theorem says1_has {l : List S55} {D : DataW Unit} (h : Says1 l D) {a b : Int} (wa : I64 a) (wb : I64 b) : Maps.has D (eK a b) = (fnd l a b).isSome:=by
  cases hf : fnd l a b with
  | none=>exact Maps.has_false_of_atKey (fun z=>by rw [h a b wa wb z,hf])
  | some i=>exact Maps.has_true_of_atKey (fun z=>by rw [h a b wa wb z,hf])
theorem says1_old {l : List S55} {D : DataW Unit} (h : Says1 l D) (x : S55) (wx : I64 x.f0 ∧ I64 x.f1) (hx : Maps.has D (eK x.f0 x.f1) = true) : Says1 (l ++ [x]) D:=by
  intro a b wa wb z
  rw [h a b wa wb z,fnd_snoc]
  cases hf : fnd l a b with
  | some i=>rfl
  | none=>
    have hne : ¬ (x.f0 = a ∧ x.f1 = b):=by
      rintro ⟨rfl,rfl⟩
      rw [says1_has h wx.1 wx.2,hf] at hx
      cases hx
    simp [hne]
theorem says1_new {l : List S55} {D : DataW Unit} (h : Says1 l D) (hD : Maps.IsMap D) (x : S55) (wx : I64 x.f0 ∧ I64 x.f1) (hx : Maps.has D (eK x.f0 x.f1) = false) : Says1 (l ++ [x]) (D.put (eK x.f0 x.f1) (.lit (.int .i64 (500 + l.length)))):=by
  intro a b wa wb z
  rw [fnd_snoc]
  by_cases he : x.f0 = a ∧ x.f1 = b
  · obtain ⟨rfl,rfl⟩:=he
    rw [says1_has h wx.1 wx.2] at hx
    cases hf : fnd l x.f0 x.f1 with
    | some i=>rw [hf] at hx;cases hx
    | none=>
      rw [Maps.atKey_put_same hD (eK_key _ _)]
      simp
  · have hne : eK a b ≠ eK x.f0 x.f1:=fun e=>he (by obtain ⟨h1,h2⟩:=eK_inj wa wb wx.1 wx.2 e;exact ⟨h1.symm,h2.symm⟩)
    rw [Maps.atKey_put_other hne,h a b wa wb z]
    cases fnd l a b <;> simp [he]
theorem says2_has {l : List S55} {D : DataW Unit} (h : Says2 l D) (hl : l.length < 1000000000) : Maps.has D (.int .i64 (500 + l.length)) = false:=
  Maps.has_false_of_atKey (fun z=>by
    rw [h _ ((i64_iff _).mpr (by omega)) z]
    have : (if 500 ≤ (500 + (l.length : Int)) then l[((500 + (l.length : Int)) - 500).toNat]? else none) = none:=by
      rw [if_pos (by omega)]
      exact List.getElem?_eq_none (by omega)
    rw [this])
theorem says2_put {l : List S55} {D : DataW Unit} (h : Says2 l D) (hD : Maps.IsMap D) (x : S55) (hl : l.length < 1000000000) : Says2 (l ++ [x]) (D.put (.int .i64 (500 + l.length)) (endD x.f0 x.f1)):=by
  intro n wn z
  by_cases he : n = 500 + l.length
  · subst he
    rw [Maps.atKey_put_same hD (pK_key _)]
    have : (if 500 ≤ (500 + (l.length : Int)) then (l ++ [x])[((500 + (l.length : Int)) - 500).toNat]? else none) = some x:=by
      rw [if_pos (by omega),show ((500 + (l.length : Int)) - 500).toNat = l.length by omega]
      simp
    rw [this]
  · have hne : (Lit.int .i64 n) ≠ Lit.int .i64 (500 + l.length):=fun e=>he (by injection e)
    rw [Maps.atKey_put_other hne,h n wn z]
    have : (if 500 ≤ n then (l ++ [x])[(n - 500).toNat]? else none) = (if 500 ≤ n then l[(n - 500).toNat]? else none):=by
      by_cases h5 : 500 ≤ n
      · rw [if_pos h5,if_pos h5]
        rw [List.getElem?_append]
        split
        · rfl
        · rename_i hge
          rw [List.getElem?_eq_none (by simp;omega),List.getElem?_eq_none (by omega)]
      · rw [if_neg h5,if_neg h5]
    rw [this]
theorem says2_again {l : List S55} {D : DataW Unit} {x : S55} (h : Says2 (l ++ [x]) D) (hD : Maps.IsMap D) (hl : l.length < 1000000000) : Says2 (l ++ [x]) (D.put (.int .i64 (500 + l.length)) (endD x.f0 x.f1)):=by
  intro n wn z
  by_cases he : n = 500 + l.length
  · subst he
    rw [Maps.atKey_put_same hD (pK_key _)]
    have : (if 500 ≤ (500 + (l.length : Int)) then (l ++ [x])[((500 + (l.length : Int)) - 500).toNat]? else none) = some x:=by
      rw [if_pos (by omega),show ((500 + (l.length : Int)) - 500).toNat = l.length by omega]
      simp
    rw [this]
  · have hne : (Lit.int .i64 n) ≠ Lit.int .i64 (500 + l.length):=fun e=>he (by injection e)
    rw [Maps.atKey_put_other hne,h n wn z]
theorem zero3 (w : World) : (zeroValue 3).run Tryz.prog w = .ok (.int .i64 0) w:=by kernel_rfl
theorem zeroEnd (w : World) : (zeroValue 55).run Tryz.prog w = .ok (.agg #[.int .i64 0,.int .i64 0]) w:=by kernel_rfl
structure Fr (w w' : World) (b1 b2 : Nat) : Prop where
  os : w'.os = w.os
  tape : w'.tape = w.tape
  output : w'.output = w.output
  size : w.heap.size ≤ w'.heap.size
  block : ∀ i,i < w.heap.size → i ≠ b1 → i ≠ b2 → w'.heap[i]? = w.heap[i]?
theorem Fr.refl (w : World) (b1 b2 : Nat) : Fr w w b1 b2:=⟨rfl,rfl,rfl,Nat.le_refl _,fun _ _ _ _=>rfl⟩
theorem Fr.trans {w w' w'' : World} {b1 b2 : Nat} (h : Fr w w' b1 b2) (k : Fr w' w'' b1 b2) : Fr w w'' b1 b2:=
  ⟨k.os.trans h.os,k.tape.trans h.tape,k.output.trans h.output,Nat.le_trans h.size k.size,fun i hi h1 h2=>(k.block i (Nat.lt_of_lt_of_le hi h.size) h1 h2).trans (h.block i hi h1 h2)⟩
theorem Fr.below {w w' w'' : World} {b1 b2 : Nat} (h : Fr w w' b1 b2) (k : Below w'.heap.size w' w'') : Fr w w'' b1 b2:=
  h.trans ⟨k.os,k.tape,k.output,k.size,fun i hi _ _=>k.block i hi⟩
theorem Fr.one {w w' w'' : World} {b1 b2 : Nat} (h : Fr w w' b1 b2) (k : w'.grownBy w'' (some b1)) : Fr w w'' b1 b2:=
  h.trans ⟨k.os,k.tape,k.output,k.size,fun i hi h1 _=>k.block i hi (by simpa using h1)⟩
theorem Fr.two {w w' w'' : World} {b1 b2 : Nat} (h : Fr w w' b1 b2) (k : w'.grownBy w'' (some b2)) : Fr w w'' b1 b2:=
  h.trans ⟨k.os,k.tape,k.output,k.size,fun i hi _ h2=>k.block i hi (by simpa using h2)⟩
theorem Fr.set {w w' : World} {b1 b2 g j : Nat} {v : Value} (h : Fr w w' b1 b2) (hg : w.heap.size ≤ g) : Fr w (w'.setCell ⟨g,j,none⟩ v) b1 b2:=
  ⟨h.os,h.tape,h.output,by simpa [World.setCell] using h.size,fun i hi h1 h2=>(heap_setCell_other w' ⟨g,j,none⟩ i v (fun e=>by simp at e;omega)).trans (h.block i hi h1 h2)⟩
theorem om_below {k : TypeId} {R : Value → Option (DataW Unit × List MemPlace)} {w w' : World} {b n : Nat} {D : DataW Unit} (h : w.ownsMap Tryz.prog k R b n D) (hb : Below w.heap.size w w') : w'.ownsMap Tryz.prog k R b n D:=by
  have hlt:=h.lt
  obtain ⟨es,c,h1,h2⟩:=h
  exact ⟨es,c,(hb.block b hlt).trans h1,h2⟩
theorem om_ne {k : TypeId} {R : Value → Option (DataW Unit × List MemPlace)} {w : World} {b n g : Nat} {D : DataW Unit} {cs : Array Value} {t : TypeId} (h : w.ownsMap Tryz.prog k R b n D) (hg : w.heap[g]? = some (.cells cs t (0,0))) : g ≠ b:=by
  rintro rfl
  obtain ⟨es,c,h1,h2⟩:=h
  rw [hg] at h1
  cases h1
set_option maxHeartbeats 8000000 in
set_option maxRecDepth 100000 in
theorem set_old (b1 b2 n1 n2 : Nat) (D1 D2 : DataW Unit) (a b n : Int) (wa : I64 a) (wb : I64 b) (wn : I64 n) (w : World) (hne : b1 ≠ b2)
    (h1 : w.ownsMap Tryz.prog 55 (plainElem Tryz.prog 3) b1 n1 D1) (h2 : w.ownsMap Tryz.prog 3 endR b2 n2 D2) (hn1 : n1 < 1000000000) (hn2 : n2 < 1000000000)
    (f1 : Maps.has D1 (eK a b) = true) (f2 : Maps.has D2 (.int .i64 n) = false) :
    Calls Tryz.prog 145 #[.agg #[.map (some b1),.map (some b2)],.agg #[.int .i64 a,.int .i64 b],.int .i64 n] w fun e w'=>
      e = .returned (.tuple #[]) ∧ w'.ownsMap Tryz.prog 55 (plainElem Tryz.prog 3) b1 n1 D1 ∧ w'.ownsMap Tryz.prog 3 endR b2 (n2 + 1) (D2.put (.int .i64 n) (endD a b)) ∧ Fr w w' b1 b2:=by
  have H1:=Aside0.mk h1
  have H2:=Aside0.mk h2
  have F1:=Aside0.mk f1
  have F2:=Aside0.mk f2
  have HNE:=Aside0.mk hne
  have HF:=Aside0.mk (Fr.refl w b1 b2)
  have HN1:=Aside0.mk (show n1 < maxLen by simp only [maxLen];omega)
  have HN2:=Aside0.mk (show n2 < maxLen by simp only [maxLen];omega)
  clear h1 h2 f1 f2 hne hn1 hn2
  go_enter Tryz.func145,Tryz.ntmps145
  go_wp2_with (first
    | ((with_reducible refine gate_dst (N:=3) rfl ?_)
       refine box_event ?hg (N:=3) ?hd (cs:=#[.map (some b1),.map (some b2)]) (t:=131) ?hr ?_
       (case hd=>rfl)
       (case hg=>rfl)
       (case hr=>first | (go_simp;done) | (go_simp;rfl))
       intro g3 hg w3 hbox hb
       have n1_:=Aside0.mk (om_below (w':=w3) H1.out hb)
       have n2_:=Aside0.mk (om_below (w':=w3) H2.out hb)
       have n3_:=Aside0.mk (Fr.below HF.out (w'':=w3) hb)
       have BK3:=Aside0.mk hbox
       clear H1 H2 HF
       have H1:=n1_
       have H2:=n2_
       have HF:=n3_
       clear n1_ n2_ n3_ hb hbox hg)
    | ((with_reducible refine gate_dst (N:=4) rfl ?_)
       refine box_event ?hg (N:=4) ?hd (cs:=#[.int .i64 a,.int .i64 b]) (t:=55) ?hr ?_
       (case hd=>rfl)
       (case hg=>rfl)
       (case hr=>first | (go_simp;done) | (go_simp;rfl))
       intro g4 hg w4 hbox hb
       have n1_:=Aside0.mk (om_below (w':=w4) H1.out hb)
       have n2_:=Aside0.mk (om_below (w':=w4) H2.out hb)
       have n3_:=Aside0.mk (Fr.below HF.out (w'':=w4) hb)
       have n4_:=bkB BK3 hb
       have BK4:=Aside0.mk hbox
       have NB:=Aside0.mk (show g3 ≠ g4 from by rw [hg];exact Nat.ne_of_lt (bkL BK3))
       clear H1 H2 HF BK3
       have H1:=n1_
       have H2:=n2_
       have HF:=n3_
       have BK3:=n4_
       clear n1_ n2_ n3_ n4_ hb hbox hg
       have c30 : w4.cell? ⟨g3,0,none⟩ = some (.map (some b1)):=(blk_cell BK3.out 0).trans rfl
       have c31 : w4.cell? ⟨g3,1,none⟩ = some (.map (some b2)):=(blk_cell BK3.out 1).trans rfl
       have c40 : w4.cell? ⟨g4,0,none⟩ = some (.int .i64 a):=(blk_cell BK4.out 0).trans rfl
       have c41 : w4.cell? ⟨g4,1,none⟩ = some (.int .i64 b):=(blk_cell BK4.out 1).trans rfl)
    | ((with_reducible refine gate_dst (N:=14) rfl ?_)
       at_lookup
       refine wpList_lookup_own_ok_int _ rfl _ _ 128 rfl 55 3 .i64 endKeyed Tryz.underlying128 Tryz.underlying3 (zero3 _) b1 n1 D1 rfl H1.out _ _ rfl (endKey wa wb) ?_
       intro c14 hat hwc
       rw [F1.out]
       clear hat hwc)
    | ((with_reducible refine gate_dst (N:=27) rfl ?_)
       at_lookup
       refine wpList_lookup_own_ok _ rfl _ _ 129 rfl 3 55 intKeyed Tryz.underlying129 _ (zeroEnd _) (endD 0 0) [] (endR_mk 0 0) b2 n2 D2 rfl H2.out _ _ rfl (intKey wn) ?_
       intro v27 ps27 hv27
       rw [F2.out]
       obtain ⟨xa,xb,rfl,_⟩:=endR_inv hv27
       clear hv27)
    | ((with_reducible refine gate_dst (N:=8) rfl ?_)
       refine box_event ?hg (N:=8) ?hd (cs:=#[.int .i64 0,.int .i64 0]) (t:=55) ?hr ?_
       (case hd=>rfl)
       (case hg=>rfl)
       (case hr=>first | (go_simp;done) | (go_simp;rfl))
       intro g8 hg w8 hbox hb
       have n1_:=Aside0.mk (om_below (w':=w8) H1.out hb)
       have n2_:=Aside0.mk (om_below (w':=w8) H2.out hb)
       have n3_:=Aside0.mk (Fr.below HF.out (w'':=w8) hb)
       have n4_:=bkB BK3 hb
       have n5_:=bkB BK4 hb
       have BK8:=Aside0.mk hbox
       have GE8:=Aside0.mk (show w.heap.size ≤ g8 from by rw [hg];exact HF.out.size)
       have e38 : g3 ≠ g8:=by rw [hg];exact Nat.ne_of_lt (bkL BK3)
       have e48 : g4 ≠ g8:=by rw [hg];exact Nat.ne_of_lt (bkL BK4)
       have e83:=e38.symm
       have e84:=e48.symm
       clear H1 H2 HF BK3 BK4 c30 c31 c40 c41
       have H1:=n1_
       have H2:=n2_
       have HF:=n3_
       have BK3:=n4_
       have BK4:=n5_
       clear n1_ n2_ n3_ n4_ n5_ hb hbox hg
       have c30 : w8.cell? ⟨g3,0,none⟩ = some (.map (some b1)):=(blk_cell BK3.out 0).trans rfl
       have c31 : w8.cell? ⟨g3,1,none⟩ = some (.map (some b2)):=(blk_cell BK3.out 1).trans rfl
       have c40 : w8.cell? ⟨g4,0,none⟩ = some (.int .i64 a):=(blk_cell BK4.out 0).trans rfl
       have c41 : w8.cell? ⟨g4,1,none⟩ = some (.int .i64 b):=(blk_cell BK4.out 1).trans rfl
       have c80 : w8.cell? ⟨g8,0,none⟩ = some (.int .i64 0):=(blk_cell BK8.out 0).trans rfl
       have c81 : w8.cell? ⟨g8,1,none⟩ = some (.int .i64 0):=(blk_cell BK8.out 1).trans rfl
       have z80:=blk_frozen BK8.out 0
       have z81:=blk_frozen BK8.out 1)
    | (at_mapUpdate
       refine wpList_mapUpdate_own _ rfl _ _ _ 129 rfl 3 55 intKeyed Tryz.underlying129 _ b2 n2 D2 rfl ((H2.out.setCell (om_ne H2.out BK8.out).symm _).setCell (om_ne H2.out BK8.out).symm _) HN2.out _ _ _ rfl rfl (intKey wn) _ _ (endR_mk a b) ?_
       intro w33 hm hg
       have n1_:=Aside0.mk (((H1.out.setCell (om_ne H1.out BK8.out).symm _).setCell (om_ne H1.out BK8.out).symm _).kept hg (by simpa using HNE.out))
       have n2_:=Aside0.mk hm
       have n3_:=Aside0.mk (((HF.out.set GE8.out).set GE8.out).two hg)
       clear H1 H2 HF BK3 BK4 BK8 c30 c31 c40 c41 c80 c81 z80 z81 hm hg
       have H1:=n1_
       have H2:=n2_
       have HF:=n3_
       clear n1_ n2_ n3_))
  first | go_end0 | ((try simp only [Exit.inBlock,Exit.then]);refine bodyPost_ret (results_none rfl _ _ _) rfl ?_)
  exact ⟨rfl,H1.out,H2.out,HF.out⟩
set_option maxHeartbeats 8000000 in
set_option maxRecDepth 100000 in
theorem set_new (b1 b2 n1 n2 : Nat) (D1 D2 : DataW Unit) (a b n : Int) (wa : I64 a) (wb : I64 b) (wn : I64 n) (w : World) (hne : b1 ≠ b2)
    (h1 : w.ownsMap Tryz.prog 55 (plainElem Tryz.prog 3) b1 n1 D1) (h2 : w.ownsMap Tryz.prog 3 endR b2 n2 D2) (hn1 : n1 < 1000000000) (hn2 : n2 < 1000000000)
    (f1 : Maps.has D1 (eK a b) = false) (f2 : Maps.has D2 (.int .i64 n) = false) :
    Calls Tryz.prog 145 #[.agg #[.map (some b1),.map (some b2)],.agg #[.int .i64 a,.int .i64 b],.int .i64 n] w fun e w'=>
      e = .returned (.tuple #[]) ∧ w'.ownsMap Tryz.prog 55 (plainElem Tryz.prog 3) b1 (n1 + 1) (D1.put (eK a b) (.lit (.int .i64 n))) ∧ w'.ownsMap Tryz.prog 3 endR b2 (n2 + 1) (D2.put (.int .i64 n) (endD a b)) ∧ Fr w w' b1 b2:=by
  have H1:=Aside0.mk h1
  have H2:=Aside0.mk h2
  have F1:=Aside0.mk f1
  have F2:=Aside0.mk f2
  have HNE:=Aside0.mk hne
  have HF:=Aside0.mk (Fr.refl w b1 b2)
  have HN1:=Aside0.mk (show n1 < maxLen by simp only [maxLen];omega)
  have HN2:=Aside0.mk (show n2 < maxLen by simp only [maxLen];omega)
  clear h1 h2 f1 f2 hne hn1 hn2
  go_enter Tryz.func145,Tryz.ntmps145
  go_wp2_with (first
    | ((with_reducible refine gate_dst (N:=3) rfl ?_)
       refine box_event ?hg (N:=3) ?hd (cs:=#[.map (some b1),.map (some b2)]) (t:=131) ?hr ?_
       (case hd=>rfl)
       (case hg=>rfl)
       (case hr=>first | (go_simp;done) | (go_simp;rfl))
       intro g3 hg w3 hbox hb
       have n1_:=Aside0.mk (om_below (w':=w3) H1.out hb)
       have n2_:=Aside0.mk (om_below (w':=w3) H2.out hb)
       have n3_:=Aside0.mk (Fr.below HF.out (w'':=w3) hb)
       have BK3:=Aside0.mk hbox
       clear H1 H2 HF
       have H1:=n1_
       have H2:=n2_
       have HF:=n3_
       clear n1_ n2_ n3_ hb hbox hg)
    | ((with_reducible refine gate_dst (N:=4) rfl ?_)
       refine box_event ?hg (N:=4) ?hd (cs:=#[.int .i64 a,.int .i64 b]) (t:=55) ?hr ?_
       (case hd=>rfl)
       (case hg=>rfl)
       (case hr=>first | (go_simp;done) | (go_simp;rfl))
       intro g4 hg w4 hbox hb
       have n1_:=Aside0.mk (om_below (w':=w4) H1.out hb)
       have n2_:=Aside0.mk (om_below (w':=w4) H2.out hb)
       have n3_:=Aside0.mk (Fr.below HF.out (w'':=w4) hb)
       have n4_:=bkB BK3 hb
       have BK4:=Aside0.mk hbox
       have NB:=Aside0.mk (show g3 ≠ g4 from by rw [hg];exact Nat.ne_of_lt (bkL BK3))
       clear H1 H2 HF BK3
       have H1:=n1_
       have H2:=n2_
       have HF:=n3_
       have BK3:=n4_
       clear n1_ n2_ n3_ n4_ hb hbox hg
       have c30 : w4.cell? ⟨g3,0,none⟩ = some (.map (some b1)):=(blk_cell BK3.out 0).trans rfl
       have c31 : w4.cell? ⟨g3,1,none⟩ = some (.map (some b2)):=(blk_cell BK3.out 1).trans rfl
       have c40 : w4.cell? ⟨g4,0,none⟩ = some (.int .i64 a):=(blk_cell BK4.out 0).trans rfl
       have c41 : w4.cell? ⟨g4,1,none⟩ = some (.int .i64 b):=(blk_cell BK4.out 1).trans rfl)
    | ((with_reducible refine gate_dst (N:=14) rfl ?_)
       at_lookup
       refine wpList_lookup_own_ok_int _ rfl _ _ 128 rfl 55 3 .i64 endKeyed Tryz.underlying128 Tryz.underlying3 (zero3 _) b1 n1 D1 rfl H1.out _ _ rfl (endKey wa wb) ?_
       intro c14 hat hwc
       rw [F1.out]
       clear hat hwc)
    | (at_mapUpdate
       refine wpList_mapUpdate_own _ rfl _ _ _ 128 rfl 55 3 endKeyed Tryz.underlying128 _ b1 n1 D1 rfl H1.out HN1.out _ _ _ rfl rfl (endKey wa wb) _ _ (plainElem_int Tryz.underlying3 wn) ?_
       intro w20 hm hg
       have n1_:=Aside0.mk hm
       have n2_:=Aside0.mk (H2.out.kept hg (by simpa using HNE.out.symm))
       have n3_:=Aside0.mk (HF.out.one hg)
       have n4_ : Aside0 (w20.heap[g3]? = some (.cells #[.map (some b1),.map (some b2)] 131 (0,0))):=⟨(hg.block g3 (blk_lt BK3.out) (by simpa using om_ne H1.out BK3.out)).trans BK3.out⟩
       have n5_ : Aside0 (w20.heap[g4]? = some (.cells #[.int .i64 a,.int .i64 b] 55 (0,0))):=⟨(hg.block g4 (blk_lt BK4.out) (by simpa using om_ne H1.out BK4.out)).trans BK4.out⟩
       clear H1 H2 HF BK3 BK4 c30 c31 c40 c41
       have H1:=n1_
       have H2:=n2_
       have HF:=n3_
       have BK3:=n4_
       have BK4:=n5_
       clear n1_ n2_ n3_ n4_ n5_ hm hg
       have c30 : w20.cell? ⟨g3,0,none⟩ = some (.map (some b1)):=(blk_cell BK3.out 0).trans rfl
       have c31 : w20.cell? ⟨g3,1,none⟩ = some (.map (some b2)):=(blk_cell BK3.out 1).trans rfl
       have c40 : w20.cell? ⟨g4,0,none⟩ = some (.int .i64 a):=(blk_cell BK4.out 0).trans rfl
       have c41 : w20.cell? ⟨g4,1,none⟩ = some (.int .i64 b):=(blk_cell BK4.out 1).trans rfl)
    | ((with_reducible refine gate_dst (N:=27) rfl ?_)
       at_lookup
       refine wpList_lookup_own_ok _ rfl _ _ 129 rfl 3 55 intKeyed Tryz.underlying129 _ (zeroEnd _) (endD 0 0) [] (endR_mk 0 0) b2 n2 D2 rfl H2.out _ _ rfl (intKey wn) ?_
       intro v27 ps27 hv27
       rw [F2.out]
       obtain ⟨xa,xb,rfl,_⟩:=endR_inv hv27
       clear hv27)
    | ((with_reducible refine gate_dst (N:=8) rfl ?_)
       refine box_event ?hg (N:=8) ?hd (cs:=#[.int .i64 0,.int .i64 0]) (t:=55) ?hr ?_
       (case hd=>rfl)
       (case hg=>rfl)
       (case hr=>first | (go_simp;done) | (go_simp;rfl))
       intro g8 hg w8 hbox hb
       have n1_:=Aside0.mk (om_below (w':=w8) H1.out hb)
       have n2_:=Aside0.mk (om_below (w':=w8) H2.out hb)
       have n3_:=Aside0.mk (Fr.below HF.out (w'':=w8) hb)
       have n4_:=bkB BK3 hb
       have n5_:=bkB BK4 hb
       have BK8:=Aside0.mk hbox
       have GE8:=Aside0.mk (show w.heap.size ≤ g8 from by rw [hg];exact HF.out.size)
       have e38 : g3 ≠ g8:=by rw [hg];exact Nat.ne_of_lt (bkL BK3)
       have e48 : g4 ≠ g8:=by rw [hg];exact Nat.ne_of_lt (bkL BK4)
       have e83:=e38.symm
       have e84:=e48.symm
       clear H1 H2 HF BK3 BK4 c30 c31 c40 c41
       have H1:=n1_
       have H2:=n2_
       have HF:=n3_
       have BK3:=n4_
       have BK4:=n5_
       clear n1_ n2_ n3_ n4_ n5_ hb hbox hg
       have c30 : w8.cell? ⟨g3,0,none⟩ = some (.map (some b1)):=(blk_cell BK3.out 0).trans rfl
       have c31 : w8.cell? ⟨g3,1,none⟩ = some (.map (some b2)):=(blk_cell BK3.out 1).trans rfl
       have c40 : w8.cell? ⟨g4,0,none⟩ = some (.int .i64 a):=(blk_cell BK4.out 0).trans rfl
       have c41 : w8.cell? ⟨g4,1,none⟩ = some (.int .i64 b):=(blk_cell BK4.out 1).trans rfl
       have c80 : w8.cell? ⟨g8,0,none⟩ = some (.int .i64 0):=(blk_cell BK8.out 0).trans rfl
       have c81 : w8.cell? ⟨g8,1,none⟩ = some (.int .i64 0):=(blk_cell BK8.out 1).trans rfl
       have z80:=blk_frozen BK8.out 0
       have z81:=blk_frozen BK8.out 1)
    | (at_mapUpdate
       refine wpList_mapUpdate_own _ rfl _ _ _ 129 rfl 3 55 intKeyed Tryz.underlying129 _ b2 n2 D2 rfl ((H2.out.setCell (om_ne H2.out BK8.out).symm _).setCell (om_ne H2.out BK8.out).symm _) HN2.out _ _ _ rfl rfl (intKey wn) _ _ (endR_mk a b) ?_
       intro w33 hm hg
       have n1_:=Aside0.mk (((H1.out.setCell (om_ne H1.out BK8.out).symm _).setCell (om_ne H1.out BK8.out).symm _).kept hg (by simpa using HNE.out))
       have n2_:=Aside0.mk hm
       have n3_:=Aside0.mk (((HF.out.set GE8.out).set GE8.out).two hg)
       clear H1 H2 HF BK3 BK4 BK8 c30 c31 c40 c41 c80 c81 z80 z81 hm hg
       have H1:=n1_
       have H2:=n2_
       have HF:=n3_
       clear n1_ n2_ n3_))
  first | go_end0 | ((try simp only [Exit.inBlock,Exit.then]);refine bodyPost_ret (results_none rfl _ _ _) rfl ?_)
  exact ⟨rfl,H1.out,H2.out,HF.out⟩
def Tab (w : World) (l : List S55) (b1 b2 : Nat) : Prop:=∃ n1 n2 D1 D2,w.ownsMap Tryz.prog 55 (plainElem Tryz.prog 3) b1 n1 D1 ∧ w.ownsMap Tryz.prog 3 endR b2 n2 D2 ∧ n1 ≤ l.length ∧ n2 ≤ 2 * l.length ∧ Says1 l D1 ∧ Says2 l D2
def Wf (x : S55) : Prop:=I64 x.f0 ∧ I64 x.f1
theorem Tab.kept {w w' : World} {l : List S55} {b1 b2 : Nat} (h : Tab w l b1 b2) (hk : ∀ i,i < w.heap.size → i = b1 ∨ i = b2 → w'.heap[i]? = w.heap[i]?) : Tab w' l b1 b2:=by
  obtain ⟨n1,n2,D1,D2,h1,h2,r⟩:=h
  have l1:=h1.lt
  have l2:=h2.lt
  obtain ⟨es,c,q1,q2⟩:=h1
  obtain ⟨es',c',q1',q2'⟩:=h2
  exact ⟨n1,n2,D1,D2,⟨es,c,(hk b1 l1 (.inl rfl)).trans q1,q2⟩,⟨es',c',(hk b2 l2 (.inr rfl)).trans q1',q2'⟩,r⟩
theorem Tab.below {w w' : World} {l : List S55} {b1 b2 : Nat} (h : Tab w l b1 b2) (hb : Below w.heap.size w w') : Tab w' l b1 b2:=h.kept fun i hi _=>hb.block i hi
theorem Tab.ne {w : World} {l : List S55} {b1 b2 g : Nat} {cs : Array Value} {t : TypeId} (h : Tab w l b1 b2) (hg : w.heap[g]? = some (.cells cs t (0,0))) : g ≠ b1 ∧ g ≠ b2:=by
  obtain ⟨n1,n2,D1,D2,h1,h2,r⟩:=h
  exact ⟨om_ne h1 hg,om_ne h2 hg⟩
theorem Tab.set {w : World} {l : List S55} {b1 b2 g j : Nat} {v : Value} {cs : Array Value} {t : TypeId} (h : Tab w l b1 b2) (hg : w.heap[g]? = some (.cells cs t (0,0))) : Tab (w.setCell ⟨g,j,none⟩ v) l b1 b2:=
  h.kept fun i _ hi=>heap_setCell_other w ⟨g,j,none⟩ i v (fun e=>by
    have:=h.ne hg
    simp at e
    rcases hi with rfl | rfl
    · exact this.1 e.symm
    · exact this.2 e.symm)
theorem set_tab (b1 b2 : Nat) (l : List S55) (x : S55) (p : Int) (w : World) (hne : b1 ≠ b2) (hx : Wf x) (hl : l.length < 100000000) (hp : p = 500 + l.length) (h : Tab w l b1 b2) :
    Calls Tryz.prog 145 #[.agg #[.map (some b1),.map (some b2)],.agg #[.int .i64 x.f0,.int .i64 x.f1],.int .i64 p] w fun e w'=>
      e = .returned (.tuple #[]) ∧ (∃ n1 n2 D1 D2,w'.ownsMap Tryz.prog 55 (plainElem Tryz.prog 3) b1 n1 D1 ∧ w'.ownsMap Tryz.prog 3 endR b2 n2 D2 ∧ n1 ≤ l.length + 1 ∧ n2 ≤ 2 * l.length + 1 ∧ Says1 (l ++ [x]) D1 ∧ Says2 (l ++ [x]) D2) ∧ Fr w w' b1 b2:=by
  subst hp
  obtain ⟨n1,n2,D1,D2,h1,h2,hn1,hn2,s1,s2⟩:=h
  have wn : I64 (500 + l.length):=(i64_iff _).mpr (by omega)
  have f2:=says2_has s2 (by omega)
  have s2':=says2_put s2 h2.isMap x (by omega)
  cases hf : Maps.has D1 (eK x.f0 x.f1) with
  | true=>
    refine (set_old b1 b2 n1 n2 D1 D2 x.f0 x.f1 _ hx.1 hx.2 wn w hne h1 h2 (by omega) (by omega) hf f2).mono ?_
    rintro e w' ⟨rfl,k1,k2,k3⟩
    exact ⟨rfl,⟨_,_,_,_,k1,k2,by omega,by omega,says1_old s1 x hx hf,s2'⟩,k3⟩
  | false=>
    refine (set_new b1 b2 n1 n2 D1 D2 x.f0 x.f1 _ hx.1 hx.2 wn w hne h1 h2 (by omega) (by omega) hf f2).mono ?_
    rintro e w' ⟨rfl,k1,k2,k3⟩
    exact ⟨rfl,⟨_,_,_,_,k1,k2,by omega,by omega,says1_new s1 h1.isMap x hx hf,s2'⟩,k3⟩
theorem mk_event {P : Program} {w : World} {ops : Array Oper} {rest : List Oper} {o : Oper} {a : Act} {Q : Exit → Act → World → Prop} (hgd : o.guard = none) {N : Tmp} (_hd : o.dst = some N) (t : TypeId) (hop : o.op = Op.makeMap t none)
    (h : ∀ g w1,g = w.heap.size → w1.heap[g]? = some (.map #[] 0) → Below w.heap.size w w1 → wpList P ops Q rest (a.put o.dst (.map (some g))) w1) : wpList P ops Q (o :: rest) a w:=by
  refine Kd.event_run hgd (v:=.map (some w.heap.size)) (w1:=w.alloc (.map #[] 0)) ?_ (h _ _ rfl (heap_alloc_new w _) (below_alloc (Below.refl _ _) _))
  simp [execOp,hop,run_makeMap,Result.andThen]
theorem tab_made {w : World} {b1 b2 : Nat} (h1 : w.heap[b1]? = some (.map #[] 0)) (h2 : w.heap[b2]? = some (.map #[] 0)) : Tab w [] b1 b2:=by
  have q1 : ∀ (k : TypeId) (R : Value → Option (DataW Unit × List MemPlace)) (b : Nat),w.heap[b]? = some (.map #[] 0) → w.ownsMap Tryz.prog k R b 0 (.map []):=by
    intro k R b hb
    obtain ⟨es,c,z1,z2,z3,z4⟩:=World.ownsMap_made (default : World) Tryz.prog k R
    rw [heap_alloc_new] at z1
    injection z1 with z1
    injection z1 with z1 z1'
    subst z1;subst z1'
    exact ⟨_,_,hb,z2,z3,z4⟩
  exact ⟨0,0,_,_,q1 _ _ _ h1,q1 _ _ _ h2,Nat.le_refl _,Nat.le_refl _,says1_nil,says2_nil⟩
theorem fr_blk {W w' : World} {b1 b2 g : Nat} {o : Obj} (hF : Fr W w' b1 b2) (h : W.heap[g]? = some o) (n : g ≠ b1 ∧ g ≠ b2) : w'.heap[g]? = some o:=(hF.block g (blk_lt h) n.1 n.2).trans h
theorem below_fr {w W w' : World} {b1 b2 : Nat} (h : Below w.heap.size w W) (hF : Fr W w' b1 b2) (h1 : w.heap.size ≤ b1) (h2 : w.heap.size ≤ b2) : Below w.heap.size w w':=
  ⟨hF.os.trans h.os,hF.tape.trans h.tape,hF.output.trans h.output,Nat.le_trans h.size hF.size,fun i hi=>(hF.block i (Nat.lt_of_lt_of_le hi h.size) (by omega) (by omega)).trans (h.block i hi)⟩
theorem rd29_get {l : List S55} {i : Nat} (h : i < l.length) : rd_T55 l (i : Int) = l[i]:=by
  unfold rd_T55
  simp [List.getD,h]
set_option maxHeartbeats 8000000 in
set_option maxRecDepth 100000 in
theorem portsOf_walk (A : Option Addr) (c : Nat) (l : List S55) (w : World) (hr : Kd.C k55 w A l.length l) (hc : l.length ≤ c) (hl : l.length < 1000000) (hw : ∀ x ∈ l,Wf x) :
    Calls Tryz.prog 133 #[.agg #[.slice A l.length c]] w fun e w'=>∃ b1 b2,e = .returned (.agg #[.map (some b1),.map (some b2)]) ∧ Tab w' l b1 b2 ∧ Below w.heap.size w w':=by
  have HR:=Aside0.mk hr
  have HW:=Aside0.mk hw
  have HL:=Aside0.mk hl
  clear hr hw hl hc
  have HB:=Aside0.mk (Below.refl w.heap.size w)
  go_enter Tryz.func133,Tryz.ntmps133
  go_wp2_with (first
    | ((with_reducible refine gate_dst (N:=1) rfl ?_)
       refine box_event ?hg (N:=1) ?hd (cs:=#[.slice A l.length c]) (t:=29) ?hr ?_
       (case hd=>rfl)
       (case hg=>rfl)
       (case hr=>first | (go_simp;done) | (go_simp;rfl))
       intro g1 hg w3 hbox hb
       have n1_:=Aside0.mk (below_step (bl HB) hb)
       have G1:=Aside0.mk (show w.heap.size ≤ g1 from by rw [hg];exact below_size (bl HB))
       have BK1:=Aside0.mk hbox
       clear HB
       have HB:=n1_
       clear n1_ hg hbox hb)
    | ((with_reducible refine gate_dst (N:=2) rfl ?_)
       refine box_event ?hg (N:=2) ?hd (cs:=#[.map none,.map none]) (t:=131) ?hr ?_
       (case hd=>rfl)
       (case hg=>rfl)
       (case hr=>first | (go_simp;done) | (go_simp;rfl))
       intro g2 hg w4 hbox hb
       have n1_:=Aside0.mk (below_step (bl HB) hb)
       have n2_:=bkB BK1 hb
       have G2:=Aside0.mk (show w.heap.size ≤ g2 from by rw [hg];exact below_size (bl HB))
       have E12:=Aside0.mk (show g1 ≠ g2 from by rw [hg];exact Nat.ne_of_lt (bkL BK1))
       have BK2:=Aside0.mk hbox
       clear HB BK1
       have HB:=n1_
       have BK1:=n2_
       clear n1_ n2_ hg hbox hb)
    | ((with_reducible refine gate_dst (N:=6) rfl ?_)
       refine mk_event ?hg (N:=6) ?hd _ rfl ?_
       (case hd=>rfl)
       (case hg=>rfl)
       intro b1 w5 hg hbox hb
       have n1_:=Aside0.mk (below_step (bl HB) hb)
       have n2_:=bkB BK1 hb
       have n3_:=bkB BK2 hb
       have GM1:=Aside0.mk (show w.heap.size ≤ b1 from by rw [hg];exact below_size (bl HB))
       have MK1:=Aside0.mk hbox
       clear HB BK1 BK2
       have HB:=n1_
       have BK1:=n2_
       have BK2:=n3_
       clear n1_ n2_ n3_ hg hbox hb)
    | ((with_reducible refine gate_dst (N:=7) rfl ?_)
       refine mk_event ?hg (N:=7) ?hd _ rfl ?_
       (case hd=>rfl)
       (case hg=>rfl)
       intro b2 w6 hg hbox hb
       have n1_:=Aside0.mk (below_step (bl HB) hb)
       have n2_:=bkB BK1 hb
       have n3_:=bkB BK2 hb
       have n4_:=bkB MK1 hb
       have GM2:=Aside0.mk (show w.heap.size ≤ b2 from by rw [hg];exact below_size (bl HB))
       have HNE:=Aside0.mk (show b1 ≠ b2 from by rw [hg];exact Nat.ne_of_lt (bkL MK1))
       have MK2:=Aside0.mk hbox
       clear HB BK1 BK2 MK1
       have HB:=n1_
       have BK1:=n2_
       have BK2:=n3_
       have MK1:=n4_
       clear n1_ n2_ n3_ n4_ hg hbox hb)
    | ((with_reducible refine gate_dst (N:=3) rfl ?_)
       refine box_event ?hg (N:=3) ?hd (cs:=#[.map none,.map none]) (t:=131) ?hr ?_
       (case hd=>rfl)
       (case hg=>rfl)
       (case hr=>first | (go_simp;done) | (go_simp;rfl))
       intro g3 hg w7 hbox hb
       have n1_:=Aside0.mk (below_step (bl HB) hb)
       have n2_:=bkB BK1 hb
       have n3_:=bkB BK2 hb
       have n4_:=bkB MK1 hb
       have n5_:=bkB MK2 hb
       have G3:=Aside0.mk (show w.heap.size ≤ g3 from by rw [hg];exact below_size (bl HB))
       have e13 : g1 ≠ g3:=by rw [hg];exact Nat.ne_of_lt (bkL BK1)
       have e31:=e13.symm
       have E23:=Aside0.mk (show g2 ≠ g3 from by rw [hg];exact Nat.ne_of_lt (bkL BK2))
       have BK3:=Aside0.mk hbox
       clear HB BK1 BK2 MK1 MK2
       have HB:=n1_
       have BK1:=n2_
       have BK2:=n3_
       have MK1:=n4_
       have MK2:=n5_
       clear n1_ n2_ n3_ n4_ n5_ hg hbox hb
       have c10 : w7.cell? ⟨g1,0,none⟩ = some (.slice A l.length c):=(blk_cell BK1.out 0).trans rfl
       have c30 : w7.cell? ⟨g3,0,none⟩ = some (.map none):=(blk_cell BK3.out 0).trans rfl
       have c31 : w7.cell? ⟨g3,1,none⟩ = some (.map none):=(blk_cell BK3.out 1).trans rfl
       have z30:=blk_frozen BK3.out 0
       have z31:=blk_frozen BK3.out 1))
  have n1_ : Aside0 (((w7.setCell ⟨g3,0,none⟩ (.map (some b1))).setCell ⟨g3,1,none⟩ (.map (some b2))).heap[g1]? = some (.cells #[.slice A l.length c] 29 (0,0))):=⟨blk_far (blk_far BK1.out e13 _) e13 _⟩
  have n2_ : Aside0 (((w7.setCell ⟨g3,0,none⟩ (.map (some b1))).setCell ⟨g3,1,none⟩ (.map (some b2))).heap[g2]? = some (.cells #[.map none,.map none] 131 (0,0))):=⟨blk_far (blk_far BK2.out E23.out _) E23.out _⟩
  have n3_ : Aside0 (((w7.setCell ⟨g3,0,none⟩ (.map (some b1))).setCell ⟨g3,1,none⟩ (.map (some b2))).heap[g3]? = some (.cells #[.map (some b1),.map (some b2)] 131 (0,0))):=⟨by
    have z:=blk_set (blk_set BK3.out 0 (.map (some b1))) 1 (.map (some b2))
    simpa using z⟩
  have n4_ : Aside0 (Tab ((w7.setCell ⟨g3,0,none⟩ (.map (some b1))).setCell ⟨g3,1,none⟩ (.map (some b2))) (l.take 0) b1 b2):=⟨by
    have z:=(tab_made MK1.out MK2.out).set (j:=0) (v:=.map (some b1)) BK3.out
    exact z.set (j:=1) (v:=.map (some b2)) (blk_set BK3.out 0 (.map (some b1)))⟩
  have n5_ : Aside0 (Below w.heap.size w ((w7.setCell ⟨g3,0,none⟩ (.map (some b1))).setCell ⟨g3,1,none⟩ (.map (some b2)))):=⟨below_set (below_set HB.out G3.out) G3.out⟩
  clear c10 c30 c31 z30 z31 BK1 BK2 BK3 MK1 MK2 HB
  generalize (w7.setCell ⟨g3,0,none⟩ (.map (some b1))).setCell ⟨g3,1,none⟩ (.map (some b2)) = w8 at n1_ n2_ n3_ n4_ n5_ ⊢
  go_loopg [12] l.length (fun kq v12 w'=>∃ (x : Int) (m : Nat),v12 = .int .i64 x ∧ Aside0 (x = m) ∧ Aside0 (m + kq = l.length) ∧ Aside0 (w'.heap[g1]? = some (.cells #[.slice A l.length c] 29 (0,0))) ∧ Aside0 (w'.heap[g2]? = some (.cells #[.map none,.map none] 131 (0,0))) ∧ Aside0 (w'.heap[g3]? = some (.cells #[.map (some b1),.map (some b2)] 131 (0,0))) ∧ Aside0 (Tab w' (l.take m) b1 b2) ∧ Aside0 (Below w.heap.size w w'))
  case atStart=>exact ⟨0,0,(by first | rfl | (simp;done)),⟨rfl⟩,⟨by omega⟩,n1_,n2_,n3_,n4_,n5_⟩
  case round=>
    clear n1_ n2_ n3_ n4_ n5_
    obtain ⟨x,m,rfl,HX,HM,BK1,BK2,BK3,HT,HB⟩:=hrel
    cases gk with
    | zero=>
      have hm : m = l.length:=by have:=HM.out;omega
      have HE:=Aside0.mk hm
      have c0 : decide (x < (l.length : Int)) = false:=by have:=HX.out;simp;omega
      clear hm
      have c30 : wr.cell? ⟨g3,0,none⟩ = some (.map (some b1)):=(blk_cell BK3.out 0).trans rfl
      have c31 : wr.cell? ⟨g3,1,none⟩ = some (.map (some b2)):=(blk_cell BK3.out 1).trans rfl
      have c20 : wr.cell? ⟨g2,0,none⟩ = some (.map none):=(blk_cell BK2.out 0).trans rfl
      have c21 : wr.cell? ⟨g2,1,none⟩ = some (.map none):=(blk_cell BK2.out 1).trans rfl
      have z20:=blk_frozen BK2.out 0
      have z21:=blk_frozen BK2.out 1
      go_wp2
      refine bodyPost_ret (results_cell_row rfl _ _ g2 131 #[.map (some b1),.map (some b2)] (0,0) _ rfl (by (with_reducible repeat refine bu ?_);refine blk_put (cs:=#[.map (some b1),.map none]) ?_ 1 _ rfl;(with_reducible repeat refine bu ?_);refine blk_put (cs:=#[.map none,.map none]) ?_ 0 _ rfl;(with_reducible repeat refine bu ?_);exact BK2.out) Tryz.underlying131 rfl (by kernel_rfl)) rfl ?_
      refine ⟨b1,b2,rfl,?_,below_set (below_set HB.out G2.out) G2.out⟩
      have z:=HT.out
      rw [HE.out,List.take_length] at z
      exact (z.set BK2.out).set (blk_set BK2.out 0 (.map (some b1)))
    | succ k1=>
      have hm : m < l.length:=by have:=HM.out;omega
      have hx0 : (0 : Int) ≤ x:=by have:=HX.out;omega
      have hx1 : x < (l.length : Int):=by have:=HX.out;omega
      have c0 : decide (x < (l.length : Int)) = true:=decide_eq_true hx1
      obtain ⟨ad,e_,hc0,hc1⟩:=at_T55 (Kd.C_below HR.out HB.out) x hx0 hx1
      cases e_
      have WX:=Aside0.mk (show Wf (rd_T55 l x) from by rw [HX.out,rd29_get hm];exact HW.out _ (List.getElem_mem hm))
      have HTK:=Aside0.mk (show l.take (m + 1) = l.take m ++ [rd_T55 l x] from by rw [HX.out,rd29_get hm];exact List.take_succ_eq_append_getElem hm)
      have MM:=Aside0.mk hm
      obtain ⟨p,hp⟩ : ∃ p : Int,p = 500 + ((l.take m).length : Int):=⟨_,rfl⟩
      have hpw : IntKind.i64.wrap (500 + x) = p:=by
        have:=HX.out
        have hl':=HL.out
        rw [i64_w,hp,List.length_take]
        unfold wrap64
        omega
      have HP:=Aside0.mk hp
      have HLT:=Aside0.mk (show (l.take m).length < 100000000 from by have:=HL.out;rw [List.length_take];omega)
      clear hp hm
      replace hx0:=eq_true hx0
      replace hx1:=eq_true hx1
      go_wp2_with (first
        | ((with_reducible refine gate_dst (N:=5) rfl ?_)
           refine box_event ?hg (N:=5) ?hd (cs:=#[.int .i64 0,.int .i64 0]) (t:=55) ?hr ?_
           (case hd=>rfl)
           (case hg=>rfl)
           (case hr=>first | (go_simp;done) | (go_simp;rfl))
           intro g5 hg w9 hbox hb
           have n1_:=Aside0.mk (below_step (bl HB) hb)
           have n2_:=bkB BK1 hb
           have n3_:=bkB BK2 hb
           have n4_:=bkB BK3 hb
           have n5_:=Aside0.mk (Tab.below HT.out (w':=w9) hb)
           have G5:=Aside0.mk (show w.heap.size ≤ g5 from by rw [hg];exact below_size (bl HB))
           have e15 : g1 ≠ g5:=by rw [hg];exact Nat.ne_of_lt (bkL BK1)
           have e25 : g2 ≠ g5:=by rw [hg];exact Nat.ne_of_lt (bkL BK2)
           have e35 : g3 ≠ g5:=by rw [hg];exact Nat.ne_of_lt (bkL BK3)
           have e53:=e35.symm
           have BK5:=Aside0.mk hbox
           clear HB BK1 BK2 BK3 HT
           have HB:=n1_
           have BK1:=n2_
           have BK2:=n3_
           have BK3:=n4_
           have HT:=n5_
           clear n1_ n2_ n3_ n4_ n5_ hg hbox hb
           have c30 : w9.cell? ⟨g3,0,none⟩ = some (.map (some b1)):=(blk_cell BK3.out 0).trans rfl
           have c31 : w9.cell? ⟨g3,1,none⟩ = some (.map (some b2)):=(blk_cell BK3.out 1).trans rfl
           have c50 : w9.cell? ⟨g5,0,none⟩ = some (.int .i64 0):=(blk_cell BK5.out 0).trans rfl
           have c51 : w9.cell? ⟨g5,1,none⟩ = some (.int .i64 0):=(blk_cell BK5.out 1).trans rfl
           have z50:=blk_frozen BK5.out 0
           have z51:=blk_frozen BK5.out 1)
        | ((with_reducible refine gate_callee (f:=145) rfl ?_)
           refine goesL_ _ rfl rfl Tryz.func145 (by kernel_rfl) rfl #[.agg #[.map (some b1),.map (some b2)],.agg #[.int .i64 ((rd_T55 l x).f0),.int .i64 ((rd_T55 l x).f1)],.int .i64 p] rfl (by (try simp only [List.map_toArray,List.map_cons,List.map_nil]);first | done | rfl) ?_
           (with_reducible refine (set_tab b1 b2 (l.take m) (rd_T55 l x) p _ HNE.out WX.out HLT.out HP.out ?side).mono ?_)
           (case side=>exact (HT.out.set BK5.out).set (blk_set BK5.out 0 (.int .i64 ((rd_T55 l x).f0))))
           rintro e w10 ⟨rfl,hT,hF⟩
           refine ⟨_,rfl,?_⟩
           have n1_:=Aside0.mk (fr_blk hF (blk_far (blk_far BK1.out e15 _) e15 _) (HT.out.ne BK1.out))
           have n2_:=Aside0.mk (fr_blk hF (blk_far (blk_far BK2.out e25 _) e25 _) (HT.out.ne BK2.out))
           have n3_:=Aside0.mk (fr_blk hF (blk_far (blk_far BK3.out e35 _) e35 _) (HT.out.ne BK3.out))
           have n5_ : Aside0 (w10.heap[g5]? = some (.cells #[.int .i64 ((rd_T55 l x).f0),.int .i64 ((rd_T55 l x).f1)] 55 (0,0))):=⟨fr_blk hF (by
             have z:=blk_set (blk_set BK5.out 0 (.int .i64 ((rd_T55 l x).f0))) 1 (.int .i64 ((rd_T55 l x).f1))
             simpa using z) (HT.out.ne BK5.out)⟩
           have n6_:=Aside0.mk (below_fr (below_set (below_set HB.out G5.out) G5.out) hF GM1.out GM2.out)
           have HT2:=Aside0.mk hT
           clear HT HB BK1 BK2 BK3 BK5 c30 c31 c50 c51 z50 z51 hT hF
           have BK1:=n1_
           have BK2:=n2_
           have BK3:=n3_
           have BK5:=n5_
           have HB:=n6_
           clear n1_ n2_ n3_ n5_ n6_
           have c30 : w10.cell? ⟨g3,0,none⟩ = some (.map (some b1)):=(blk_cell BK3.out 0).trans rfl
           have c31 : w10.cell? ⟨g3,1,none⟩ = some (.map (some b2)):=(blk_cell BK3.out 1).trans rfl
           have c50 : w10.cell? ⟨g5,0,none⟩ = some (.int .i64 ((rd_T55 l x).f0)):=(blk_cell BK5.out 0).trans rfl
           have c51 : w10.cell? ⟨g5,1,none⟩ = some (.int .i64 ((rd_T55 l x).f1)):=(blk_cell BK5.out 1).trans rfl
           obtain ⟨n1,n2,D1,D2,h1,h2,hn1,hn2,s1,s2⟩:=HT2.out
           clear HT2
           have M1:=Aside0.mk h1
           have M2:=Aside0.mk h2
           have N1:=Aside0.mk hn1
           have N2:=Aside0.mk hn2
           have S1:=Aside0.mk s1
           have S2:=Aside0.mk s2
           clear h1 h2 hn1 hn2 s1 s2)
        | (at_mapUpdate
           refine wpList_mapUpdate_own _ rfl _ _ _ 129 rfl 3 55 intKeyed Tryz.underlying129 _ b2 n2 D2 rfl M2.out (by have:=N2.out;have:=HLT.out;simp only [maxLen];omega) _ _ _ rfl rfl (intKey ((i64_iff _).mpr (by have:=HP.out;have:=HLT.out;omega))) _ _ (endR_mk _ _) ?_
           intro w33 hm hg
           have F : Fr w10 w33 b1 b2:=Fr.two (Fr.refl _ _ _) hg
           have TN : ∀ {g : Nat} {cs : Array Value} {t : TypeId},w10.heap[g]? = some (.cells cs t (0,0)) → g ≠ b1 ∧ g ≠ b2:=fun hg=>⟨om_ne M1.out hg,om_ne M2.out hg⟩
           have n1_:=Aside0.mk (fr_blk F BK1.out (TN BK1.out))
           have n2_:=Aside0.mk (fr_blk F BK2.out (TN BK2.out))
           have n3_:=Aside0.mk (fr_blk F BK3.out (TN BK3.out))
           have n6_:=Aside0.mk (below_fr HB.out F GM1.out GM2.out)
           have n7_ : Aside0 (Tab w33 (l.take (m + 1)) b1 b2):=⟨by
             rw [HTK.out]
             refine ⟨n1,n2 + 1,D1,_,M1.out.kept hg (by simpa using HNE.out),hm,by have:=N1.out;simp only [List.length_append,List.length_cons,List.length_nil];omega,by have:=N2.out;simp only [List.length_append,List.length_cons,List.length_nil];omega,S1.out,?_⟩
             rw [HP.out]
             exact says2_again S2.out M2.out.isMap (by have:=HLT.out;omega)⟩
           clear HB BK1 BK2 BK3 BK5 c30 c31 c50 c51 M1 M2 N1 N2 S1 S2 hm hg F TN
           have BK1:=n1_
           have BK2:=n2_
           have BK3:=n3_
           have HB:=n6_
           have HT:=n7_
           clear n1_ n2_ n3_ n6_ n7_))
      go_roundg k1
      case measure=>omega
      case rel=>exact ⟨x + 1,m + 1,(by
        have:=HX.out
        have:=HL.out
        have:=MM.out
        have e : wrap64 (x + 1) = x + 1:=by unfold wrap64;omega
        simp only [i64_w,e]),⟨by have:=HX.out;push_cast;omega⟩,⟨by have:=HM.out;omega⟩,BK1,BK2,BK3,HT,HB⟩
def wfB (n : Int) : Bool:=(Lit.int .i64 n).wf
def wfE (x : S55) : Bool:=wfB x.f0 && wfB x.f1
def portV (l : List S55) (a b : Int) : Int:=match fnd l a b with | none=>0 | some i=>500 + i
def impl_MapPort.f (l : List S55) (a b : Int) : Option Int:=if l.length < 1000000 ∧ l.all wfE = true ∧ wfB a = true ∧ wfB b = true then some (portV l a b) else none
theorem wf_all {l : List S55} (h : l.all wfE = true) : ∀ x ∈ l,Wf x:=by
  intro x hx
  have:=List.all_eq_true.mp h x hx
  simp only [wfE,wfB,Bool.and_eq_true] at this
  exact this
theorem field0 (b1 b2 : Nat) (w : World) : (Instr.field 131 (.agg #[.map (some b1),.map (some b2)]) 0).run Tryz.prog w = .ok (.map (some b1)) w:=by kernel_rfl
set_option maxHeartbeats 8000000 in
set_option maxRecDepth 100000 in
theorem impl_MapPort.calls (A0_0 : Option Addr) (c0_0 : Nat) (l0_0 : List (S55)) (a1_0 : Int) (a1_1 : Int) (r : Int) (w : World) (hr0_0 : Kd.C k55 w A0_0 l0_0.length l0_0) (hc0_0 : l0_0.length ≤ c0_0) (h : impl_MapPort.f l0_0 a1_0 a1_1 = some r) :
    Calls Tryz.prog 120 #[.agg #[.slice A0_0 l0_0.length c0_0],.agg #[.int .i64 a1_0,.int .i64 a1_1]] w fun e w'=>e = .returned (.int .i64 r) ∧ Below w.heap.size w w':=by
  unfold impl_MapPort.f at h
  by_cases hq : l0_0.length < 1000000 ∧ l0_0.all wfE = true ∧ wfB a1_0 = true ∧ wfB a1_1 = true
  · rw [if_pos hq] at h
    have HP:=Aside0.mk (Option.some.inj h)
    have HQ:=Aside0.mk hq
    have HR:=Aside0.mk hr0_0
    have HC:=Aside0.mk hc0_0
    clear h hq hr0_0 hc0_0
    have HB:=Aside0.mk (Below.refl w.heap.size w)
    have hu1:=Tryz.underlying131
    have hu2:=Tryz.underlying29
    have hu3:=Tryz.underlying55
    go_enter Tryz.func120,Tryz.ntmps120
    go_upto_region 1 with (first
      | ((with_reducible refine gate_dst (N:=2) rfl ?_)
         refine box_event ?hg (N:=2) ?hd (cs:=#[.slice A0_0 l0_0.length c0_0]) (t:=29) ?hr ?_
         (case hd=>rfl)
         (case hg=>rfl)
         (case hr=>first | (go_simp;done) | (go_simp;rfl))
         intro g2 hg w3 hbox hb
         have n1_:=Aside0.mk (below_step (bl HB) hb)
         have BK2:=Aside0.mk hbox
         clear HB
         have HB:=n1_
         clear n1_ hg hbox hb)
      | ((with_reducible refine gate_dst (N:=3) rfl ?_)
         refine box_event ?hg (N:=3) ?hd (cs:=#[.int .i64 a1_0,.int .i64 a1_1]) (t:=55) ?hr ?_
         (case hd=>rfl)
         (case hg=>rfl)
         (case hr=>first | (go_simp;done) | (go_simp;rfl))
         intro g3 hg w4 hbox hb
         have n1_:=Aside0.mk (below_step (bl HB) hb)
         have n2_:=bkB BK2 hb
         have BK3:=Aside0.mk hbox
         clear HB BK2
         have HB:=n1_
         have BK2:=n2_
         clear n1_ n2_ hg hbox hb))
    (try simp only [Act.put,List.setIfInBounds_toArray,List.set_cons_zero,List.set_cons_succ])
    have n1_:=Aside0.mk (blk_drew BK2.out)
    have n2_:=Aside0.mk (blk_drew BK3.out)
    have n3_:=Aside0.mk (below_drew1 HB.out)
    clear BK2 BK3 HB
    have BK2:=n1_
    have BK3:=n2_
    have HB:=n3_
    clear n1_ n2_ n3_
    refine start_ (n:=6) (S:=fun w'=>w'.cell? ⟨g2,0,none⟩ = some (.slice A0_0 l0_0.length c0_0) ∧ w'.cell? ⟨g3,0,none⟩ = some (.int .i64 a1_0) ∧ w'.cell? ⟨g3,1,none⟩ = some (.int .i64 a1_1)) (ds:=[]) #[false,false,false,false,false,false] (by kernel_rfl) rfl rfl ⟨(blk_cell BK2.out 0).trans rfl,(blk_cell BK3.out 0).trans rfl,(blk_cell BK3.out 1).trans rfl⟩ (fun hHeld=>?_)
    generalize w4.drew = w5 at BK2 BK3 HB hHeld ⊢
    refine take_ (i:=0) (N:=some 5) (v:=?_) (a':=?_) #[true,false,false,false,false,false] rfl rfl (by kernel_rfl) (fun _ _ _ h=>h) (Or.inl ⟨by rfl,?_⟩) hHeld ?_ ?_
    rotate_left
    · rintro w' ⟨s0,s1,s2⟩
      go_simp
      with_reducible rfl
    rotate_left
    · simp only [Act.put,List.setIfInBounds_toArray,List.set_cons_zero,List.set_cons_succ,i64_w,i32_w]
      rfl
    refine take_ (i:=3) (N:=some 8) (v:=?_) (a':=?_) #[true,false,false,true,false,false] rfl rfl (by kernel_rfl) (fun _ _ _ h=>h) (Or.inl ⟨by rfl,?_⟩) hHeld ?_ ?_
    rotate_left
    · rintro w' ⟨s0,s1,s2⟩
      go_simp
      with_reducible rfl
    rotate_left
    · simp only [Act.put,List.setIfInBounds_toArray,List.set_cons_zero,List.set_cons_succ,i64_w,i32_w]
      rfl
    refine one_ (i:=1) (N:=some 6) #[true,true,false,true,false,false] rfl rfl (by kernel_rfl) (by decide) (fun K hK=>?_)
    refine goes_ Tryz.func133 (by kernel_rfl) rfl #[.agg #[.slice A0_0 l0_0.length c0_0]] (by rfl) rfl rfl (by (try simp only [List.map_toArray,List.map_cons,List.map_nil]);first | done | rfl) ?_
    with_reducible refine (portsOf_walk A0_0 c0_0 l0_0 _ (Kd.C_below HR.out HB.out) HC.out HQ.out.1 (wf_all HQ.out.2.1)).mono ?_
    rintro e w6 ⟨b1,b2,rfl,hT,hb⟩
    refine ⟨_,rfl,?_⟩
    have n1_:=bkB BK2 hb
    have n2_:=bkB BK3 hb
    have n3_:=Aside0.mk (below_step HB.out hb)
    clear BK2 BK3 HB
    have BK2:=n1_
    have BK3:=n2_
    have HB:=n3_
    have HT:=Aside0.mk hT
    clear n1_ n2_ n3_ hT hb
    refine hK.out _ _ ⟨(blk_cell BK2.out 0).trans rfl,(blk_cell BK3.out 0).trans rfl,(blk_cell BK3.out 1).trans rfl⟩ (fun hHeld=>?_)
    clear hK K
    refine norm_ (a':=?_) ?_ ?_
    rotate_left
    · show Act.put _ (some 6) _ = _
      simp only [Act.put,List.setIfInBounds_toArray,List.set_cons_zero,List.set_cons_succ,i64_w,i32_w]
      rfl
    refine pure_ (i:=2) (N:=some 7) (v:=?_) (a':=?_) #[true,true,true,true,false,false] rfl rfl (by kernel_rfl) (fun _ _ _ h=>h) (Or.inl ⟨by rfl,?_⟩) ?_ ?_
    rotate_left
    · intro w'
      have hf:=field0 b1 b2
      go_simp
      with_reducible rfl
    rotate_left
    · simp only [Act.put,List.setIfInBounds_toArray,List.set_cons_zero,List.set_cons_succ,i64_w,i32_w]
      rfl
    refine one_ (i:=4) (N:=some 9) #[true,true,true,true,true,false] rfl rfl (by kernel_rfl) (by decide) (fun K hK=>?_)
    obtain ⟨n1,n2,D1,D2,h1,h2,_,_,s1,s2⟩:=HT.out
    obtain ⟨c,hrun,hat,hwc⟩:=h1.lookup_int endKeyed Tryz.underlying128 Tryz.underlying3 (zero3 _) (endKey HQ.out.2.2.1 HQ.out.2.2.2)
    have hc : c = r:=by
      rw [s1 _ _ HQ.out.2.2.1 HQ.out.2.2.2] at hat
      rw [← HP.out]
      unfold portV
      cases hf : fnd l0_0 a1_0 a1_1 <;> rw [hf] at hat <;> simp at hat <;> simp [hat]
    subst hc
    rw [if_pos (by rfl)]
    unfold Oper.wp
    simp [execOp,Act.eval,hrun,Result.andThen]
    refine hK.out _ _ ⟨(blk_cell BK2.out 0).trans rfl,(blk_cell BK3.out 0).trans rfl,(blk_cell BK3.out 1).trans rfl⟩ (fun hHeld=>?_)
    clear hK K
    refine norm_ (a':=?_) ?_ ?_
    rotate_left
    · show Act.put _ (some 9) _ = _
      simp only [Act.put,List.setIfInBounds_toArray,List.set_cons_zero,List.set_cons_succ,i64_w,i32_w]
      rfl
    refine pure_ (i:=5) (N:=some 4) (v:=?_) (a':=?_) #[true,true,true,true,true,true] rfl rfl (by kernel_rfl) (fun _ _ _ h=>h) (Or.inl ⟨by rfl,?_⟩) ?_ ?_
    rotate_left
    · intro w'
      go_simp
      with_reducible rfl
    rotate_left
    · simp only [Act.put,List.setIfInBounds_toArray,List.set_cons_zero,List.set_cons_succ,i64_w,i32_w]
      rfl
    refine done_ (by kernel_rfl) ?_
    go_wp2
    go_ret
    exact ⟨rfl,HB.out⟩
  · rw [if_neg hq] at h
    cases h
end Go.Proofs.YtakfmcpjnkagmaaGreatDoor.P
