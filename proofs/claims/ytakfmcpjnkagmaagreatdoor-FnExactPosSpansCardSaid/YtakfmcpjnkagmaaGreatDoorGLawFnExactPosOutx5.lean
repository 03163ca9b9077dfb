import Derived.Test.YtakfmcpjnkagmaaGreatDoorGLawFnExactPosOutx4
import Derived.Shelf.SlSorted.Search
import Derived.Lib.Hide
namespace Go.Proofs.YtakfmcpjnkagmaaGreatDoor.P
open Go.Proofs.YtakfmcpjnkagmaaGreatDoorUFnExactPosOut.PrintLast Go.Proofs.YtakfmcpjnkagmaaGreatDoorUFnExactPosOut.PrintMore Go.Proofs.YtakfmcpjnkagmaaGreatDoorUFnExactPosOut.PrintWords Go.RowKit
set_option linter.unusedVariables false
set_option linter.unusedSimpArgs false
section
attribute [local go_sem] max2_int min2_int max_two min_two max_three min_three max_four min_four
def spec_l3PutV.f (k : Nat) (l0_0 : List (S55)) (a1_0 : Int) (a1_1 : Int) : Option ((List (S55)) × Int):=(spec_MapPort.f k l0_0 a1_0 a1_1).bind fun t177=>(if t177 > 0 then (some (l0_0,t177)) else (if (l0_0.length : Int) = 6 then (some (l0_0,0)) else ((some (([] : List (S55)) : List (S55))).bind fun y178=>(if y178.length + l0_0.length < 8796093022208 then ((some (y178 ++ l0_0 : List (S55))).bind fun y181=>((some (([(⟨a1_0,a1_1⟩ : S55)] : List (S55)) : List (S55))).bind fun y184=>(if y181.length + y184.length < 8796093022208 then ((some (y181 ++ y184 : List (S55))).bind fun y187=>(some (y187,wrap64 ((wrap64 (500 + (y187.length : Int))) - 1)))) else (none)))) else (none)))))
def spec_l3PutV.T6 : Bool × List (List Nat × List Nat):=(true,[([],[]),([],[]),([1],[1]),([0,2],[0,2]),([],[]),([4],[4]),([3,5,3],[3,5]),([0,1,2,3,4,5,6],[]),([7,6,6,0,1,2,3,4,5,6],[6,7])])
def spec_l3PutV.B6 : List Nat:=[0,0,2,7,0,16,63,127,255]
theorem spec_l3PutV.tab6 : rtab .any (opsOf Tryz.f112 6) = spec_l3PutV.T6:=by kernel_rfl
theorem spec_l3PutV.bits6 : waitsOk spec_l3PutV.T6.2 spec_l3PutV.B6 = true:=by kernel_rfl
def spec_l3PutV.T7 : Bool × List (List Nat × List Nat):=(true,[([],[]),([],[]),([1],[1]),([2],[2]),([3],[3]),([4],[4]),([0,0],[0]),([5,6,0,1,2,3,4,5,6],[5])])
def spec_l3PutV.B7 : List Nat:=[0,0,2,6,14,30,1,127]
theorem spec_l3PutV.tab7 : rtab .any (opsOf Tryz.f112 7) = spec_l3PutV.T7:=by kernel_rfl
theorem spec_l3PutV.bits7 : waitsOk spec_l3PutV.T7.2 spec_l3PutV.B7 = true:=by kernel_rfl
set_option maxHeartbeats 8000000 in
set_option maxRecDepth 100000 in
theorem spec_l3PutV.calls (k : Nat) (P0_0_ : Nat → Prop) (A0_0 : Option Addr) (c0_0 : Nat) (l0_0 : List (S55)) (a1_0 : Int) (a1_1 : Int) (r1 : List (S55)) (r2 : Int) (w : World) (hs0_0 : Kd.V k55 55 w w.heap.size (fun k_=>P0_0_ k_) (.slice A0_0 l0_0.length c0_0) l0_0) (h : spec_l3PutV.f k l0_0 a1_0 a1_1 = some (r1,r2)) :
  Calls Tryz.prog 112 #[.agg #[.slice A0_0 l0_0.length c0_0],.agg #[.int .i64 a1_0,.int .i64 a1_1]] w fun e w'=>∃ v0_ : Value,e = .returned (.tuple #[.agg #[v0_],.int .i64 r2]) ∧ Kd.V k55 55 w' w.heap.size (fun k_=>(P0_0_ k_ ∨ w.heap.size ≤ k_)) v0_ r1 ∧ Below w.heap.size w w':=by
 have hu29:=Tryz.underlying29
 have hu55:=Tryz.underlying55
 have HO0_0:=am (show Kd.V k55 55 w w.heap.size (fun k_=>(P0_0_ k_ ∨ w.heap.size ≤ k_)) (.slice A0_0 l0_0.length c0_0) l0_0 from Kd.V_mono hs0_0 (fun k_ hk=>.inl hk))
 have HB:=am (Below.refl w.heap.size w)
 have H : ((spec_MapPort.f k l0_0 a1_0 a1_1).bind fun t177=>(if t177 > 0 then (some (l0_0,t177)) else (if (l0_0.length : Int) = 6 then (some (l0_0,0)) else ((some (([] : List (S55)) : List (S55))).bind fun y178=>(if y178.length + l0_0.length < 8796093022208 then ((some (y178 ++ l0_0 : List (S55))).bind fun y181=>((some (([(⟨a1_0,a1_1⟩ : S55)] : List (S55)) : List (S55))).bind fun y184=>(if y181.length + y184.length < 8796093022208 then ((some (y181 ++ y184 : List (S55))).bind fun y187=>(some (y187,wrap64 ((wrap64 (500 + (y187.length : Int))) - 1)))) else (none)))) else (none)))))) = some (r1,r2):=h
 clear h
 obtain ⟨t177,A3,H⟩:=bse H
 try dsimp only at H
 by_cases c4 : t177 > 0
 ·rw [if_pos c4] at H
  have c4b0 : decide (0 < t177) = true:=decide_eq_true c4
  clear c4
  simp only [Option.some.injEq,Prod.mk.injEq] at H
  obtain ⟨rfl,rfl⟩:=H
  go_enter Tryz.func112,Tryz.ntmps112
  go_wp2_with (first | ((with_reducible refine gD 2 rfl ?_);refine box_event rfl (N:=2) rfl (cs:=#[.slice A0_0 l0_0.length c0_0]) (t:=29) hr_ ?_;intro gb174 hg w5 hbox hb;replace HO0_0:=am (Kd.V_below (Kd.V_elderB (by (with_reducible repeat (first | apply Kd.V_alloc | apply Kd.V_drewN | apply Kd.V_drew));exact HO0_0.out) gb174 (Nat.le_of_eq hg.symm)) hb);have BK174:=am hbox;have GW174:=gwE HB hg;have GE174:=gwE HB hg;replace HB:=hbS HB hb;clear hb hbox hg) | ((with_reducible refine gD 3 rfl ?_);refine box_event rfl (N:=3) rfl (cs:=#[.int .i64 a1_0,.int .i64 a1_1]) (t:=55) hr_ ?_;intro gb175 hg w6 hbox hb;replace HO0_0:=am (Kd.V_below (Kd.V_elderB (by (with_reducible repeat (first | apply Kd.V_alloc | apply Kd.V_drewN | apply Kd.V_drew));exact HO0_0.out) gb175 (Nat.le_of_eq hg.symm)) hb);have BK175:=am hbox;have GW175:=gwE HB hg;have GE175:=gwE HB hg;replace HB:=hbS HB hb;have NB174_175:=neL BK174 hg;have NB175_174:=neG BK174 hg;replace BK174:=bkB BK174 hb;clear hb hbox hg) | ((with_reducible refine gD 4 rfl ?_);refine box_event rfl (N:=4) rfl (cs:=#[.slice none 0 0]) (t:=29) hr_ ?_;intro gb176 hg w7 hbox hb;replace HO0_0:=am (Kd.V_below (Kd.V_elderB (by (with_reducible repeat (first | apply Kd.V_alloc | apply Kd.V_drewN | apply Kd.V_drew));exact HO0_0.out) gb176 (Nat.le_of_eq hg.symm)) hb);have BK176:=am hbox;have GW176:=gwE HB hg;have GE176:=gwE HB hg;replace HB:=hbS HB hb;have NB174_176:=neL BK174 hg;have NB176_174:=neG BK174 hg;replace BK174:=bkB BK174 hb;have NB175_176:=neL BK175 hg;have NB176_175:=neG BK175 hg;replace BK175:=bkB BK175 hb;clear hb hbox hg;have:=NB174_175.out;have:=NB175_174.out;have:=NB174_176.out;have:=NB176_174.out;have:=bcell BK174 0;have:=bfz BK174 0;have:=NB175_176.out;have:=NB176_175.out;have:=bcell BK175 0;have:=bcell BK175 1;have:=bfz BK175 0;have:=bfz BK175 1) | ((with_reducible refine gC 128 rfl ?_);refine gL (some 9) Tryz.func128 #[.agg #[.slice A0_0 l0_0.length c0_0],.agg #[.int .i64 a1_0,.int .i64 a1_1]] ?_;(with_reducible refine (spec_MapPort.calls k _ _ l0_0 a1_0 a1_1 t177 _ ?side1 ?side2 A3.out).mono ?_);(case side1=>repeat (first | exact (Kd.V_reads' HO0_0.out).2.2 | (with_reducible refine Kd.C_alloc ?_ _) | (with_reducible refine Kd.C_drewN ?_ _) | (with_reducible refine Kd.C_drew ?_)));(case side2=>exact (Kd.V_reads' HO0_0.out).2.1);rintro e w13 ⟨rfl,hb⟩;refine ⟨_,rfl,?_⟩;replace HO0_0:=am (Kd.V_below (by (with_reducible repeat (first | apply Kd.V_alloc | apply Kd.V_drewN | apply Kd.V_drew));exact HO0_0.out) hb);replace BK174:=bkB BK174 hb;replace BK175:=bkB BK175 hb;replace BK176:=bkB BK176 hb;replace HB:=hbS HB hb;(try clear hb);have:=bcell BK174 0;have:=bfz BK174 0;have:=bcell BK176 0;have:=bfz BK176 0))
  refine bodyPost_ret (results_ct rfl _ _ gb176 29 #[.slice A0_0 l0_0.length c0_0] (0,0) _ rfl (by (with_reducible repeat refine bu ?_);refine blk_put (cs:=#[.slice none 0 0]) ?_ 0 _ rfl;(with_reducible repeat refine bu ?_);exact BK176.out) Tryz.underlying29 rfl (by kernel_rfl)) rfl ?_
  exact ⟨_,fi_,by (with_reducible repeat (first | apply Kd.V_alloc | apply Kd.V_drewN | apply Kd.V_drew));exact Kd.V_mono (Kd.V_far (p:=⟨gb176,0,none⟩) (Kd.V_mono HO0_0.out (fun k_ hk=>(⟨hk,hk.2⟩ : _ ∧ k_ ≠ gb176))) (fun _ hk=>hk.2) (.slice A0_0 l0_0.length c0_0)) (fun _ hk=>hk.1.1.1.1),m2_⟩
 ·rw [if_neg c4] at H
  have c4b0 : decide (0 < t177) = false:=decide_eq_false c4
  clear c4
  by_cases c16 : (l0_0.length : Int) = 6
  ·rw [if_pos c16] at H
   have c16b0 : ((l0_0.length : Int) == 6) = true:=beq_iff_eq.mpr c16
   have c16b1 : ((l0_0.length : Int) != 6) = false:=bne_eq_false_iff_eq.mpr c16
   clear c16
   simp only [Option.some.injEq,Prod.mk.injEq] at H
   obtain ⟨rfl,rfl⟩:=H
   go_enter Tryz.func112,Tryz.ntmps112
   go_wp2_with (first | ((with_reducible refine gD 2 rfl ?_);refine box_event rfl (N:=2) rfl (cs:=#[.slice A0_0 l0_0.length c0_0]) (t:=29) hr_ ?_;intro gb174 hg w17 hbox hb;replace HO0_0:=am (Kd.V_below (Kd.V_elderB (by (with_reducible repeat (first | apply Kd.V_alloc | apply Kd.V_drewN | apply Kd.V_drew));exact HO0_0.out) gb174 (Nat.le_of_eq hg.symm)) hb);have BK174:=am hbox;have GW174:=gwE HB hg;have GE174:=gwE HB hg;replace HB:=hbS HB hb;clear hb hbox hg) | ((with_reducible refine gD 3 rfl ?_);refine box_event rfl (N:=3) rfl (cs:=#[.int .i64 a1_0,.int .i64 a1_1]) (t:=55) hr_ ?_;intro gb175 hg w18 hbox hb;replace HO0_0:=am (Kd.V_below (Kd.V_elderB (by (with_reducible repeat (first | apply Kd.V_alloc | apply Kd.V_drewN | apply Kd.V_drew));exact HO0_0.out) gb175 (Nat.le_of_eq hg.symm)) hb);have BK175:=am hbox;have GW175:=gwE HB hg;have GE175:=gwE HB hg;replace HB:=hbS HB hb;have NB174_175:=neL BK174 hg;have NB175_174:=neG BK174 hg;replace BK174:=bkB BK174 hb;clear hb hbox hg) | ((with_reducible refine gD 4 rfl ?_);refine box_event rfl (N:=4) rfl (cs:=#[.slice none 0 0]) (t:=29) hr_ ?_;intro gb176 hg w19 hbox hb;replace HO0_0:=am (Kd.V_below (Kd.V_elderB (by (with_reducible repeat (first | apply Kd.V_alloc | apply Kd.V_drewN | apply Kd.V_drew));exact HO0_0.out) gb176 (Nat.le_of_eq hg.symm)) hb);have BK176:=am hbox;have GW176:=gwE HB hg;have GE176:=gwE HB hg;replace HB:=hbS HB hb;have NB174_176:=neL BK174 hg;have NB176_174:=neG BK174 hg;replace BK174:=bkB BK174 hb;have NB175_176:=neL BK175 hg;have NB176_175:=neG BK175 hg;replace BK175:=bkB BK175 hb;clear hb hbox hg;have:=NB174_175.out;have:=NB175_174.out;have:=NB174_176.out;have:=NB176_174.out;have:=bcell BK174 0;have:=bfz BK174 0;have:=NB175_176.out;have:=NB176_175.out;have:=bcell BK175 0;have:=bcell BK175 1;have:=bfz BK175 0;have:=bfz BK175 1) | ((with_reducible refine gC 128 rfl ?_);refine gL (some 9) Tryz.func128 #[.agg #[.slice A0_0 l0_0.length c0_0],.agg #[.int .i64 a1_0,.int .i64 a1_1]] ?_;(with_reducible refine (spec_MapPort.calls k _ _ l0_0 a1_0 a1_1 t177 _ ?side1 ?side2 A3.out).mono ?_);(case side1=>repeat (first | exact (Kd.V_reads' HO0_0.out).2.2 | (with_reducible refine Kd.C_alloc ?_ _) | (with_reducible refine Kd.C_drewN ?_ _) | (with_reducible refine Kd.C_drew ?_)));(case side2=>exact (Kd.V_reads' HO0_0.out).2.1);rintro e w25 ⟨rfl,hb⟩;refine ⟨_,rfl,?_⟩;replace HO0_0:=am (Kd.V_below (by (with_reducible repeat (first | apply Kd.V_alloc | apply Kd.V_drewN | apply Kd.V_drew));exact HO0_0.out) hb);replace BK174:=bkB BK174 hb;replace BK175:=bkB BK175 hb;replace BK176:=bkB BK176 hb;replace HB:=hbS HB hb;(try clear hb);have:=bcell BK174 0;have:=bfz BK174 0;have:=bcell BK176 0;have:=bfz BK176 0))
   refine bodyPost_ret (results_ct rfl _ _ gb176 29 #[.slice A0_0 l0_0.length c0_0] (0,0) _ rfl (by (with_reducible repeat refine bu ?_);refine blk_put (cs:=#[.slice none 0 0]) ?_ 0 _ rfl;(with_reducible repeat refine bu ?_);exact BK176.out) Tryz.underlying29 rfl (by kernel_rfl)) rfl ?_
   exact ⟨_,fi_,by (with_reducible repeat (first | apply Kd.V_alloc | apply Kd.V_drewN | apply Kd.V_drew));exact Kd.V_mono (Kd.V_far (p:=⟨gb176,0,none⟩) (Kd.V_mono HO0_0.out (fun k_ hk=>(⟨hk,hk.2⟩ : _ ∧ k_ ≠ gb176))) (fun _ hk=>hk.2) (.slice A0_0 l0_0.length c0_0)) (fun _ hk=>hk.1.1.1.1),m2_⟩
  ·rw [if_neg c16] at H
   have c16b0 : ((l0_0.length : Int) == 6) = false:=beq_eq_false_iff_ne.mpr c16
   have c16b1 : ((l0_0.length : Int) != 6) = true:=bne_iff_ne.mpr c16
   obtain ⟨y178,hy178⟩ : ∃ y_ : List (S55),y_ = (([] : List (S55))):=⟨_,rfl⟩
   replace H : (if y178.length + l0_0.length < 8796093022208 then ((some (y178 ++ l0_0 : List (S55))).bind fun y181=>((some (([(⟨a1_0,a1_1⟩ : S55)] : List (S55)) : List (S55))).bind fun y184=>(if y181.length + y184.length < 8796093022208 then ((some (y181 ++ y184 : List (S55))).bind fun y187=>(some (y187,wrap64 ((wrap64 (500 + (y187.length : Int))) - 1)))) else (none)))) else (none)) = some (r1,r2):=by first | (rw [hy178];with_reducible exact H) | (have H2_:=(Option.bind_some _ _).symm.trans H;rw [hy178];with_reducible exact H2_) | (have H2_:=(Option.bind_some _ _).symm.trans H;with_reducible exact H2_) | with_reducible exact H | (rw [hy178];exact H) | exact H
   have Ny178:=am hy178
   clear hy178
   by_cases c28 : y178.length + l0_0.length < 8796093022208
   ·rw [if_pos c28] at H
    have LMc28:=am c28
    clear c28
    obtain ⟨y181,hy181⟩ : ∃ y_ : List (S55),y_ = (y178 ++ l0_0):=⟨_,rfl⟩
    replace H : ((some (([(⟨a1_0,a1_1⟩ : S55)] : List (S55)) : List (S55))).bind fun y184=>(if y181.length + y184.length < 8796093022208 then ((some (y181 ++ y184 : List (S55))).bind fun y187=>(some (y187,wrap64 ((wrap64 (500 + (y187.length : Int))) - 1)))) else (none))) = some (r1,r2):=by first | (rw [hy181];with_reducible exact H) | (have H2_:=(Option.bind_some _ _).symm.trans H;rw [hy181];with_reducible exact H2_) | (have H2_:=(Option.bind_some _ _).symm.trans H;with_reducible exact H2_) | with_reducible exact H | (rw [hy181];exact H) | exact H
    have Ny181:=am hy181
    clear hy181
    obtain ⟨y184,hy184⟩ : ∃ y_ : List (S55),y_ = (([(⟨a1_0,a1_1⟩ : S55)] : List (S55))):=⟨_,rfl⟩
    replace H : (if y181.length + y184.length < 8796093022208 then ((some (y181 ++ y184 : List (S55))).bind fun y187=>(some (y187,wrap64 ((wrap64 (500 + (y187.length : Int))) - 1)))) else (none)) = some (r1,r2):=by first | (rw [hy184];with_reducible exact H) | (have H2_:=(Option.bind_some _ _).symm.trans H;rw [hy184];with_reducible exact H2_) | (have H2_:=(Option.bind_some _ _).symm.trans H;with_reducible exact H2_) | with_reducible exact H | (rw [hy184];exact H) | exact H
    have Ny184:=am hy184
    clear hy184
    by_cases c29 : y181.length + y184.length < 8796093022208
    ·rw [if_pos c29] at H
     have LMc29:=am c29
     clear c29
     obtain ⟨y187,hy187⟩ : ∃ y_ : List (S55),y_ = (y181 ++ y184):=⟨_,rfl⟩
     replace H : (some (y187,wrap64 ((wrap64 (500 + (y187.length : Int))) - 1))) = some (r1,r2):=by first | (rw [hy187];with_reducible exact H) | (have H2_:=(Option.bind_some _ _).symm.trans H;rw [hy187];with_reducible exact H2_) | (have H2_:=(Option.bind_some _ _).symm.trans H;with_reducible exact H2_) | with_reducible exact H | (rw [hy187];exact H) | exact H
     have Ny187:=am hy187
     clear hy187
     simp only [Option.some.injEq,Prod.mk.injEq] at H
     obtain ⟨rfl,rfl⟩:=H
     go_enter Tryz.func112,Tryz.ntmps112
     try go_wp2_with (first | ((with_reducible refine gD 2 rfl ?_);refine box_event rfl (N:=2) rfl (cs:=#[.slice A0_0 l0_0.length c0_0]) (t:=29) hr_ ?_;intro gb174 hg w30 hbox hb;replace HO0_0:=am (Kd.V_below (Kd.V_elderB (by (with_reducible repeat (first | apply Kd.V_alloc | apply Kd.V_drewN | apply Kd.V_drew));exact HO0_0.out) gb174 (Nat.le_of_eq hg.symm)) hb);have BK174:=am hbox;have GW174:=gwE HB hg;have GE174:=gwE HB hg;replace HB:=hbS HB hb;clear hb hbox hg) | ((with_reducible refine gD 3 rfl ?_);refine box_event rfl (N:=3) rfl (cs:=#[.int .i64 a1_0,.int .i64 a1_1]) (t:=55) hr_ ?_;intro gb175 hg w31 hbox hb;replace HO0_0:=am (Kd.V_below (Kd.V_elderB (by (with_reducible repeat (first | apply Kd.V_alloc | apply Kd.V_drewN | apply Kd.V_drew));exact HO0_0.out) gb175 (Nat.le_of_eq hg.symm)) hb);have BK175:=am hbox;have GW175:=gwE HB hg;have GE175:=gwE HB hg;replace HB:=hbS HB hb;have NB174_175:=neL BK174 hg;have NB175_174:=neG BK174 hg;replace BK174:=bkB BK174 hb;clear hb hbox hg) | ((with_reducible refine gD 4 rfl ?_);refine box_event rfl (N:=4) rfl (cs:=#[.slice none 0 0]) (t:=29) hr_ ?_;intro gb176 hg w32 hbox hb;replace HO0_0:=am (Kd.V_below (Kd.V_elderB (by (with_reducible repeat (first | apply Kd.V_alloc | apply Kd.V_drewN | apply Kd.V_drew));exact HO0_0.out) gb176 (Nat.le_of_eq hg.symm)) hb);have BK176:=am hbox;have GW176:=gwE HB hg;have GE176:=gwE HB hg;replace HB:=hbS HB hb;have NB174_176:=neL BK174 hg;have NB176_174:=neG BK174 hg;replace BK174:=bkB BK174 hb;have NB175_176:=neL BK175 hg;have NB176_175:=neG BK175 hg;replace BK175:=bkB BK175 hb;clear hb hbox hg;have:=NB174_175.out;have:=NB175_174.out;have:=NB174_176.out;have:=NB176_174.out;have:=bcell BK174 0;have:=bfz BK174 0;have:=NB175_176.out;have:=NB176_175.out;have:=bcell BK175 0;have:=bcell BK175 1;have:=bfz BK175 0;have:=bfz BK175 1) | ((with_reducible refine gC 128 rfl ?_);refine gL (some 9) Tryz.func128 #[.agg #[.slice A0_0 l0_0.length c0_0],.agg #[.int .i64 a1_0,.int .i64 a1_1]] ?_;(with_reducible refine (spec_MapPort.calls k _ _ l0_0 a1_0 a1_1 t177 _ ?side1 ?side2 A3.out).mono ?_);(case side1=>repeat (first | exact (Kd.V_reads' HO0_0.out).2.2 | (with_reducible refine Kd.C_alloc ?_ _) | (with_reducible refine Kd.C_drewN ?_ _) | (with_reducible refine Kd.C_drew ?_)));(case side2=>exact (Kd.V_reads' HO0_0.out).2.1);rintro e w38 ⟨rfl,hb⟩;refine ⟨_,rfl,?_⟩;replace HO0_0:=am (Kd.V_below (by (with_reducible repeat (first | apply Kd.V_alloc | apply Kd.V_drewN | apply Kd.V_drew));exact HO0_0.out) hb);replace BK174:=bkB BK174 hb;replace BK175:=bkB BK175 hb;replace BK176:=bkB BK176 hb;replace HB:=hbS HB hb;(try clear hb);have:=bcell BK174 0;have:=bfz BK174 0))
     replace HO0_0:=am (Kd.V_drew HO0_0.out)
     replace BK174:=am (blk_drew BK174.out)
     replace BK175:=am (blk_drew BK175.out)
     replace BK176:=am (blk_drew BK176.out)
     replace HB:=am (below_drew1 HB.out)
     refine start_ (n:=9) (S:=fun w'=>w'.cell? ⟨gb174,0,none⟩ = some (.slice A0_0 l0_0.length c0_0) ∧ w'.cell? ⟨gb175,0,none⟩ = some (.int .i64 a1_0) ∧ w'.cell? ⟨gb175,1,none⟩ = some (.int .i64 a1_1)) (ds:=[8]) #[false,false,false,false,false,false,false,false,false] (by kernel_rfl) rfl rfl ⟨bcell BK174 0,bcell BK175 0,bcell BK175 1⟩ (fun hHeld=>?_);refine with_tabW spec_l3PutV.tab6 spec_l3PutV.bits6 (fun HT_ HW_=>?_)
     generalize w38.drew = w40 at HO0_0 BK174 BK175 BK176 HB hHeld ⊢
     refine pu_ 1 (some 20) (bm 9 2) ?_
     refine tk_ 2 (some 21) (bm 9 6) rfl (.inl ⟨rfl,m7_⟩) ?_
     refine tk_ 4 (some 23) (bm 9 22) rfl (.inl ⟨rfl,m7_⟩) ?_
     refine join_ (σ:=Value × Value × Value) 3 #[true,true,true,true,true,true,false,false,false] (fun s_=>[(19,s_.1),(22,s_.2.1),(24,s_.2.2)]) (fun s_ w'=>(w'.cell? ⟨gb174,0,none⟩ = some (.slice A0_0 l0_0.length c0_0) ∧ w'.cell? ⟨gb175,0,none⟩ = some (.int .i64 a1_0) ∧ w'.cell? ⟨gb175,1,none⟩ = some (.int .i64 a1_1)) ∧ (Kd.V k55 55 w' w.heap.size (fun k_=>(P0_0_ k_ ∨ w.heap.size ≤ k_) ∧ some k_ ≠ (s_.2.1 : Value).ownBlock ∧ some k_ ≠ (s_.2.2 : Value).ownBlock ∧ k_ ≠ gb174 ∧ k_ ≠ gb175 ∧ k_ ≠ gb176) (.slice A0_0 l0_0.length c0_0) l0_0) ∧ (Kd.R k55 55 w' w.heap.size (fun k_=>(w.heap.size ≤ k_) ∧ some k_ ≠ (s_.2.2 : Value).ownBlock ∧ k_ ≠ gb175) s_.2.1 y181) ∧ (Kd.R k55 55 w' w.heap.size (fun k_=>(w.heap.size ≤ k_) ∧ some k_ ≠ (s_.2.1 : Value).ownBlock ∧ k_ ≠ gb175) s_.2.2 y184) ∧ (w'.heap[gb174]? = some (.cells #[.slice A0_0 l0_0.length c0_0] 29 (0,0))) ∧ (w'.heap[gb175]? = some (.cells #[.int .i64 a1_0,.int .i64 a1_1] 55 (0,0))) ∧ (w'.heap[gb176]? = some (.cells #[.slice none 0 0] 29 (0,0))) ∧ (Below w.heap.size w w')) ?_ ?_
     rotate_left
     ·intro hCont
      refine two_ (i:=0) (j:=5) (Ni:=some 19) (Nj:=some 24) #[true,true,true,false,true,false,false,false,false] #[false,true,true,false,true,true,false,false,false] rfl rfl rfl rfl (two_of HT_.out (by kernel_rfl)) (by decide) (by decide) (fun K hK=>?_) (fun K hK=>?_)
      ·skip
       refine Kd.R_lit_step k55 _ 55 rfl (N:=19) rfl (xs:=([] : List (S55))) (inner:=[]) (ok:=fun _=>True) (okp:=fun _=>True) hr_ ?hp (fun _ hk=>hk) trivial (Below.refl _ _) (Nat.le_refl _) (by simp) ?_;(case hp=>exact (Reps.none _ _))
       intro v179 w41 ho42 hb hg_ hnew_
       clear hg_ hnew_
       (first | rw [← Ny178.out] at ho42 | (simp only [Int.reduceToNat] at ho42;rw [← Ny178.out] at ho42))
       replace HO0_0:=am (Kd.V_elder' (by (with_reducible repeat (first | apply Kd.V_alloc | apply Kd.V_drewN | apply Kd.V_drew));exact HO0_0.out) (Kd.R_base ho42) hb)
       have HO180:=am (Kd.R_lower (Kd.R_newB (Kd.R_newM (M:=fun k_=>(w.heap.size ≤ k_)) ho42 (below_size (bl HB)) (fun k_ h_=>h_)) (g:=gb175) (o:=.cells #[.int .i64 a1_0,.int .i64 a1_1] 55 (0,0)) (bk BK175)) (below_size (bl HB)))
       replace BK174:=bkB BK174 hb
       replace BK175:=bkB BK175 hb
       replace BK176:=bkB BK176 hb
       replace HB:=hbS HB hb
       clear hb ho42
       refine hK.out _ _ ⟨bcell BK174 0,bcell BK175 0,bcell BK175 1⟩ (fun hHeld=>?_)
       clear hK K
       refine nm_ ?_
       refine two_ (i:=3) (j:=5) (Ni:=some 22) (Nj:=some 24) #[true,true,true,true,true,false,false,false,false] #[true,true,true,false,true,true,false,false,false] rfl rfl rfl rfl (two_of HT_.out (by kernel_rfl)) (by decide) (by decide) (fun K hK=>?_) (fun K hK=>?_)
       ·skip
        refine Kd.R_append_rows_step k55 (w0:=w) w.heap.size (by rfl) (.tmp 19) (.tmp 21) 27 55 (.agg #[(.int .i64 0),(.int .i64 0)]) 16 rfl Tryz.underlying27 info55 rfl (by decide) (by omega) v179 y178 l0_0 _ _ _ (fun k_=>(w.heap.size ≤ k_) ∧ k_ ≠ gb175) (fun _=>False) rfl rfl ?aO ?aR (fun _ _ h=>h) (fun _ h=>h.elim) ?aF ?aB ?aS ?aL ?_
        (case aR=>repeat (first | exact (Kd.V_reads' HO0_0.out).2.2 | (with_reducible refine Kd.C_alloc ?_ _) | (with_reducible refine Kd.C_drewN ?_ _) | (with_reducible refine Kd.C_drew ?_)))
        (case aB=>exact (bl HB))
        (case aF=>exact (fun k_ hk=>⟨(Nat.le_trans (below_size (bl HB)) hk),Kd.freshB (g:=gb175) (o:=.cells #[.int .i64 a1_0,.int .i64 a1_1] 55 (0,0)) (bk BK175) k_ hk⟩))
        (case aO=>exact (by (with_reducible repeat apply ru);exact Kd.R_mono HO180.out ok_))
        (case aS=>exact (below_size (bl HB)))
        (case aL=>have:=LMc28.out;omega)
        intro v182 w43 ho hb hg hat
        rw [← Ny181.out] at ho
        replace HO0_0:=am (Kd.V_afterv (ok:=(fun k_=>(P0_0_ k_ ∨ w.heap.size ≤ k_) ∧ k_ ≠ gb174 ∧ k_ ≠ gb175 ∧ k_ ≠ gb176)) (by (with_reducible repeat (first | apply Kd.V_alloc | apply Kd.V_drewN | apply Kd.V_drew));exact Kd.V_mono HO0_0.out ok_) hg hat)
        replace BK174:=am (blk_grown (g:=gb174) (o:=.cells #[.slice A0_0 l0_0.length c0_0] 29 (0,0)) (bk BK174) hg (Kd.R_ne HO180.out BK174.out (by decide)))
        replace BK175:=am (blk_grown (g:=gb175) (o:=.cells #[.int .i64 a1_0,.int .i64 a1_1] 55 (0,0)) (bk BK175) hg (Kd.R_away HO180.out (fun _ hk=>hk.2)))
        replace BK176:=am (blk_grown (g:=gb176) (o:=.cells #[.slice none 0 0] 29 (0,0)) (bk BK176) hg (Kd.R_ne HO180.out BK176.out (by decide)))
        replace HB:=am hb
        have HO183:=am (ho)
        clear HO180
        clear ho hb hg hat
        refine hK.out _ _ ⟨bcell BK174 0,bcell BK175 0,bcell BK175 1⟩ (fun hHeld=>?_)
        clear hK K
        refine nm_ ?_
        refine on_ 5 (some 24) (bm 9 63) (fun K hK=>?_)
        refine Kd.R_lit_step k55 _ 55 rfl (N:=24) rfl (xs:=([(⟨a1_0,a1_1⟩ : S55)] : List (S55))) (inner:=[.int .i64 a1_0,.int .i64 a1_1]) (ok:=fun _=>True) (okp:=fun _=>True) hr_ ?hp (fun _ hk=>hk) trivial (Below.refl _ _) (Nat.le_refl _) (by simp) ?_;(case hp=>exact (Reps.c2 (show Kd.M k55 _ _ _ (⟨a1_0,a1_1⟩ : S55) [.int .i64 a1_0,.int .i64 a1_1] from (k55_mkM _ _ _ (⟨a1_0,a1_1⟩ : S55) )) (Reps.none _ _)))
        intro v185 w44 ho45 hb hg_ hnew_
        clear hg_ hnew_
        (first | rw [← Ny184.out] at ho45 | (simp only [Int.reduceToNat] at ho45;rw [← Ny184.out] at ho45))
        replace HO0_0:=am (Kd.V_elder' (by (with_reducible repeat (first | apply Kd.V_alloc | apply Kd.V_drewN | apply Kd.V_drew));exact HO0_0.out) (Kd.R_base ho45) hb)
        have HO186:=am (Kd.R_lower (Kd.R_newB (Kd.R_new' (Kd.R_newM (M:=fun k_=>(w.heap.size ≤ k_)) ho45 (below_size (bl HB)) (fun k_ h_=>h_)) (Kd.R_lt (rs HO183))) (g:=gb175) (o:=.cells #[.int .i64 a1_0,.int .i64 a1_1] 55 (0,0)) (bk BK175)) (below_size (bl HB)))
        replace HO183:=am (Kd.R_elder' (rs HO183) (Kd.R_base ho45) hb)
        replace BK174:=bkB BK174 hb
        replace BK175:=bkB BK175 hb
        replace BK176:=bkB BK176 hb
        replace HB:=hbS HB hb
        clear hb ho45
        refine hK.out _ _ ⟨bcell BK174 0,bcell BK175 0,bcell BK175 1⟩ (fun hHeld=>?_)
        clear hK K
        refine nm_ ?_
        exact norm_ (by simp only [putAll,Act.put,List.setIfInBounds_toArray,List.set_cons_zero,List.set_cons_succ]) (hCont (v179,v182,v185) _ ⟨hHeld,(by (with_reducible repeat (first | apply Kd.V_alloc | apply Kd.V_drewN | apply Kd.V_drew));exact Kd.V_mono HO0_0.out ok_),(by (with_reducible repeat apply ru);exact Kd.R_mono HO183.out ok_),(by (with_reducible repeat apply ru);exact Kd.R_mono HO186.out ok_),(bk BK174),(bk BK175),(bk BK176),(bl HB)⟩)
       ·skip
        refine Kd.R_lit_step k55 _ 55 rfl (N:=24) rfl (xs:=([(⟨a1_0,a1_1⟩ : S55)] : List (S55))) (inner:=[.int .i64 a1_0,.int .i64 a1_1]) (ok:=fun _=>True) (okp:=fun _=>True) hr_ ?hp (fun _ hk=>hk) trivial (Below.refl _ _) (Nat.le_refl _) (by simp) ?_;(case hp=>exact (Reps.c2 (show Kd.M k55 _ _ _ (⟨a1_0,a1_1⟩ : S55) [.int .i64 a1_0,.int .i64 a1_1] from (k55_mkM _ _ _ (⟨a1_0,a1_1⟩ : S55) )) (Reps.none _ _)))
        intro v185 w43 ho44 hb hg_ hnew_
        clear hg_ hnew_
        (first | rw [← Ny184.out] at ho44 | (simp only [Int.reduceToNat] at ho44;rw [← Ny184.out] at ho44))
        replace HO0_0:=am (Kd.V_elder' (by (with_reducible repeat (first | apply Kd.V_alloc | apply Kd.V_drewN | apply Kd.V_drew));exact HO0_0.out) (Kd.R_base ho44) hb)
        have HO186:=am (Kd.R_lower (Kd.R_newB (Kd.R_new' (Kd.R_newM (M:=fun k_=>(w.heap.size ≤ k_)) ho44 (below_size (bl HB)) (fun k_ h_=>h_)) (Kd.R_lt (rs HO180))) (g:=gb175) (o:=.cells #[.int .i64 a1_0,.int .i64 a1_1] 55 (0,0)) (bk BK175)) (below_size (bl HB)))
        replace HO180:=am (Kd.R_elder' (rs HO180) (Kd.R_base ho44) hb)
        replace BK174:=bkB BK174 hb
        replace BK175:=bkB BK175 hb
        replace BK176:=bkB BK176 hb
        replace HB:=hbS HB hb
        clear hb ho44
        refine hK.out _ _ ⟨bcell BK174 0,bcell BK175 0,bcell BK175 1⟩ (fun hHeld=>?_)
        clear hK K
        refine nm_ ?_
        refine on_ 3 (some 22) (bm 9 63) (fun K hK=>?_)
        refine Kd.R_append_rows_step k55 (w0:=w) w.heap.size (by rfl) (.tmp 19) (.tmp 21) 27 55 (.agg #[(.int .i64 0),(.int .i64 0)]) 16 rfl Tryz.underlying27 info55 rfl (by decide) (by omega) v179 y178 l0_0 _ _ _ (fun k_=>(w.heap.size ≤ k_) ∧ some k_ ≠ (v185 : Value).ownBlock ∧ k_ ≠ gb175) (fun _=>False) rfl rfl ?aO ?aR (fun _ _ h=>h) (fun _ h=>h.elim) ?aF ?aB ?aS ?aL ?_
        (case aR=>repeat (first | exact (Kd.V_reads' HO0_0.out).2.2 | (with_reducible refine Kd.C_alloc ?_ _) | (with_reducible refine Kd.C_drewN ?_ _) | (with_reducible refine Kd.C_drew ?_)))
        (case aB=>exact (bl HB))
        (case aF=>exact (fun k_ hk=>⟨(Nat.le_trans (below_size (bl HB)) hk),Kd.fresh' (Kd.R_lt (rs HO186)) k_ hk,Kd.freshB (g:=gb175) (o:=.cells #[.int .i64 a1_0,.int .i64 a1_1] 55 (0,0)) (bk BK175) k_ hk⟩))
        (case aO=>exact (by (with_reducible repeat apply ru);exact Kd.R_mono HO180.out ok_))
        (case aS=>exact (below_size (bl HB)))
        (case aL=>have:=LMc28.out;omega)
        intro v182 w45 ho hb hg hat
        rw [← Ny181.out] at ho
        replace HO0_0:=am (Kd.V_afterv (ok:=(fun k_=>(P0_0_ k_ ∨ w.heap.size ≤ k_) ∧ some k_ ≠ (v185 : Value).ownBlock ∧ k_ ≠ gb174 ∧ k_ ≠ gb175 ∧ k_ ≠ gb176)) (by (with_reducible repeat (first | apply Kd.V_alloc | apply Kd.V_drewN | apply Kd.V_drew));exact Kd.V_mono HO0_0.out ok_) hg hat)
        replace BK174:=am (blk_grown (g:=gb174) (o:=.cells #[.slice A0_0 l0_0.length c0_0] 29 (0,0)) (bk BK174) hg (Kd.R_ne HO180.out BK174.out (by decide)))
        replace BK175:=am (blk_grown (g:=gb175) (o:=.cells #[.int .i64 a1_0,.int .i64 a1_1] 55 (0,0)) (bk BK175) hg (Kd.R_away HO180.out (fun _ hk=>hk.1.2)))
        replace BK176:=am (blk_grown (g:=gb176) (o:=.cells #[.slice none 0 0] 29 (0,0)) (bk BK176) hg (Kd.R_ne HO180.out BK176.out (by decide)))
        replace HO186:=am (Kd.R_after (ok:=(fun k_=>(w.heap.size ≤ k_) ∧ k_ ≠ gb175)) (by (with_reducible repeat apply ru);exact Kd.R_mono HO186.out ok_) hg hat)
        replace HB:=am hb
        have HO183:=am (ho)
        clear HO180
        clear ho hb hg hat
        refine hK.out _ _ ⟨bcell BK174 0,bcell BK175 0,bcell BK175 1⟩ (fun hHeld=>?_)
        clear hK K
        refine nm_ ?_
        exact norm_ (by simp only [putAll,Act.put,List.setIfInBounds_toArray,List.set_cons_zero,List.set_cons_succ]) (hCont (v179,v182,v185) _ ⟨hHeld,(by (with_reducible repeat (first | apply Kd.V_alloc | apply Kd.V_drewN | apply Kd.V_drew));exact Kd.V_mono HO0_0.out ok_),(rs HO183),(by (with_reducible repeat apply ru);exact Kd.R_mono HO186.out ok_),(bk BK174),(bk BK175),(bk BK176),(bl HB)⟩)
      ·skip
       refine Kd.R_lit_step k55 _ 55 rfl (N:=24) rfl (xs:=([(⟨a1_0,a1_1⟩ : S55)] : List (S55))) (inner:=[.int .i64 a1_0,.int .i64 a1_1]) (ok:=fun _=>True) (okp:=fun _=>True) hr_ ?hp (fun _ hk=>hk) trivial (Below.refl _ _) (Nat.le_refl _) (by simp) ?_;(case hp=>exact (Reps.c2 (show Kd.M k55 _ _ _ (⟨a1_0,a1_1⟩ : S55) [.int .i64 a1_0,.int .i64 a1_1] from (k55_mkM _ _ _ (⟨a1_0,a1_1⟩ : S55) )) (Reps.none _ _)))
       intro v185 w41 ho42 hb hg_ hnew_
       clear hg_ hnew_
       (first | rw [← Ny184.out] at ho42 | (simp only [Int.reduceToNat] at ho42;rw [← Ny184.out] at ho42))
       replace HO0_0:=am (Kd.V_elder' (by (with_reducible repeat (first | apply Kd.V_alloc | apply Kd.V_drewN | apply Kd.V_drew));exact HO0_0.out) (Kd.R_base ho42) hb)
       have HO186:=am (Kd.R_lower (Kd.R_newB (Kd.R_newM (M:=fun k_=>(w.heap.size ≤ k_)) ho42 (below_size (bl HB)) (fun k_ h_=>h_)) (g:=gb175) (o:=.cells #[.int .i64 a1_0,.int .i64 a1_1] 55 (0,0)) (bk BK175)) (below_size (bl HB)))
       replace BK174:=bkB BK174 hb
       replace BK175:=bkB BK175 hb
       replace BK176:=bkB BK176 hb
       replace HB:=hbS HB hb
       clear hb ho42
       refine hK.out _ _ ⟨bcell BK174 0,bcell BK175 0,bcell BK175 1⟩ (fun hHeld=>?_)
       clear hK K
       refine nm_ ?_
       refine on_ 0 (some 19) (bm 9 55) (fun K hK=>?_)
       refine Kd.R_lit_step k55 _ 55 rfl (N:=19) rfl (xs:=([] : List (S55))) (inner:=[]) (ok:=fun _=>True) (okp:=fun _=>True) hr_ ?hp (fun _ hk=>hk) trivial (Below.refl _ _) (Nat.le_refl _) (by simp) ?_;(case hp=>exact (Reps.none _ _))
       intro v179 w43 ho44 hb hg_ hnew_
       clear hg_ hnew_
       (first | rw [← Ny178.out] at ho44 | (simp only [Int.reduceToNat] at ho44;rw [← Ny178.out] at ho44))
       replace HO0_0:=am (Kd.V_elder' (by (with_reducible repeat (first | apply Kd.V_alloc | apply Kd.V_drewN | apply Kd.V_drew));exact HO0_0.out) (Kd.R_base ho44) hb)
       have HO180:=am (Kd.R_lower (Kd.R_newB (Kd.R_new' (Kd.R_newM (M:=fun k_=>(w.heap.size ≤ k_)) ho44 (below_size (bl HB)) (fun k_ h_=>h_)) (Kd.R_lt (rs HO186))) (g:=gb175) (o:=.cells #[.int .i64 a1_0,.int .i64 a1_1] 55 (0,0)) (bk BK175)) (below_size (bl HB)))
       replace HO186:=am (Kd.R_elder' (rs HO186) (Kd.R_base ho44) hb)
       replace BK174:=bkB BK174 hb
       replace BK175:=bkB BK175 hb
       replace BK176:=bkB BK176 hb
       replace HB:=hbS HB hb
       clear hb ho44
       refine hK.out _ _ ⟨bcell BK174 0,bcell BK175 0,bcell BK175 1⟩ (fun hHeld=>?_)
       clear hK K
       refine nm_ ?_
       refine on_ 3 (some 22) (bm 9 63) (fun K hK=>?_)
       refine Kd.R_append_rows_step k55 (w0:=w) w.heap.size (by rfl) (.tmp 19) (.tmp 21) 27 55 (.agg #[(.int .i64 0),(.int .i64 0)]) 16 rfl Tryz.underlying27 info55 rfl (by decide) (by omega) v179 y178 l0_0 _ _ _ (fun k_=>(w.heap.size ≤ k_) ∧ some k_ ≠ (v185 : Value).ownBlock ∧ k_ ≠ gb175) (fun _=>False) rfl rfl ?aO ?aR (fun _ _ h=>h) (fun _ h=>h.elim) ?aF ?aB ?aS ?aL ?_
       (case aR=>repeat (first | exact (Kd.V_reads' HO0_0.out).2.2 | (with_reducible refine Kd.C_alloc ?_ _) | (with_reducible refine Kd.C_drewN ?_ _) | (with_reducible refine Kd.C_drew ?_)))
       (case aB=>exact (bl HB))
       (case aF=>exact (fun k_ hk=>⟨(Nat.le_trans (below_size (bl HB)) hk),Kd.fresh' (Kd.R_lt (rs HO186)) k_ hk,Kd.freshB (g:=gb175) (o:=.cells #[.int .i64 a1_0,.int .i64 a1_1] 55 (0,0)) (bk BK175) k_ hk⟩))
       (case aO=>exact (by (with_reducible repeat apply ru);exact Kd.R_mono HO180.out ok_))
       (case aS=>exact (below_size (bl HB)))
       (case aL=>have:=LMc28.out;omega)
       intro v182 w45 ho hb hg hat
       rw [← Ny181.out] at ho
       replace HO0_0:=am (Kd.V_afterv (ok:=(fun k_=>(P0_0_ k_ ∨ w.heap.size ≤ k_) ∧ some k_ ≠ (v185 : Value).ownBlock ∧ k_ ≠ gb174 ∧ k_ ≠ gb175 ∧ k_ ≠ gb176)) (by (with_reducible repeat (first | apply Kd.V_alloc | apply Kd.V_drewN | apply Kd.V_drew));exact Kd.V_mono HO0_0.out ok_) hg hat)
       replace BK174:=am (blk_grown (g:=gb174) (o:=.cells #[.slice A0_0 l0_0.length c0_0] 29 (0,0)) (bk BK174) hg (Kd.R_ne HO180.out BK174.out (by decide)))
       replace BK175:=am (blk_grown (g:=gb175) (o:=.cells #[.int .i64 a1_0,.int .i64 a1_1] 55 (0,0)) (bk BK175) hg (Kd.R_away HO180.out (fun _ hk=>hk.2)))
       replace BK176:=am (blk_grown (g:=gb176) (o:=.cells #[.slice none 0 0] 29 (0,0)) (bk BK176) hg (Kd.R_ne HO180.out BK176.out (by decide)))
       replace HO186:=am (Kd.R_after (ok:=(fun k_=>(w.heap.size ≤ k_) ∧ k_ ≠ gb175)) (by (with_reducible repeat apply ru);exact Kd.R_mono HO186.out ok_) hg hat)
       replace HB:=am hb
       have HO183:=am (ho)
       clear HO180
       clear ho hb hg hat
       refine hK.out _ _ ⟨bcell BK174 0,bcell BK175 0,bcell BK175 1⟩ (fun hHeld=>?_)
       clear hK K
       refine nm_ ?_
       exact norm_ (by simp only [putAll,Act.put,List.setIfInBounds_toArray,List.set_cons_zero,List.set_cons_succ]) (hCont (v179,v182,v185) _ ⟨hHeld,(by (with_reducible repeat (first | apply Kd.V_alloc | apply Kd.V_drewN | apply Kd.V_drew));exact Kd.V_mono HO0_0.out ok_),(rs HO183),(by (with_reducible repeat apply ru);exact Kd.R_mono HO186.out ok_),(bk BK174),(bk BK175),(bk BK176),(bl HB)⟩)
     rintro ⟨v179,v182,v185⟩ w46 ⟨hS_,h0_,h1_,h2_,h3_,h4_,h5_,h6_⟩
     have n0_ : Aside0 (Kd.V k55 55 w46 w.heap.size (fun k_=>(P0_0_ k_ ∨ w.heap.size ≤ k_) ∧ some k_ ≠ (v182 : Value).ownBlock ∧ some k_ ≠ (v185 : Value).ownBlock ∧ k_ ≠ gb174 ∧ k_ ≠ gb175 ∧ k_ ≠ gb176) (.slice A0_0 l0_0.length c0_0) l0_0):=⟨h0_⟩
     have n1_ : Aside0 (Kd.R k55 55 w46 w.heap.size (fun k_=>(w.heap.size ≤ k_) ∧ some k_ ≠ (v185 : Value).ownBlock ∧ k_ ≠ gb175) v182 y181):=⟨h1_⟩
     have n2_ : Aside0 (Kd.R k55 55 w46 w.heap.size (fun k_=>(w.heap.size ≤ k_) ∧ some k_ ≠ (v182 : Value).ownBlock ∧ k_ ≠ gb175) v185 y184):=⟨h2_⟩
     have n3_ : Aside0 (w46.heap[gb174]? = some (.cells #[.slice A0_0 l0_0.length c0_0] 29 (0,0))):=⟨h3_⟩
     have n4_ : Aside0 (w46.heap[gb175]? = some (.cells #[.int .i64 a1_0,.int .i64 a1_1] 55 (0,0))):=⟨h4_⟩
     have n5_ : Aside0 (w46.heap[gb176]? = some (.cells #[.slice none 0 0] 29 (0,0))):=⟨h5_⟩
     have n6_ : Aside0 (Below w.heap.size w w46):=⟨h6_⟩
     clear HO0_0
     clear BK174
     clear BK175
     clear BK176
     clear HB
     clear h0_ h1_ h2_ h3_ h4_ h5_ h6_
     have HO0_0:=n0_
     have HO183:=n1_
     have HO186:=n2_
     have BK174:=n3_
     have BK175:=n4_
     have BK176:=n5_
     have HB:=n6_
     clear n0_ n1_ n2_ n3_ n4_ n5_ n6_
     have hHeld : w46.cell? ⟨gb174,0,none⟩ = some (.slice A0_0 l0_0.length c0_0) ∧ w46.cell? ⟨gb175,0,none⟩ = some (.int .i64 a1_0) ∧ w46.cell? ⟨gb175,1,none⟩ = some (.int .i64 a1_1):=hS_
     obtain ⟨Ao48,co48,eo48⟩:=Kd.R_slice HO186.out
     (first | subst eo48 | (injection eo48 with f1_ f2_ f3_;have f4_:=f1_.symm;have f5_:=f3_.symm;clear f1_ f2_ f3_;subst f4_;subst f5_))
     refine norm_ (a':=?_) ?_ ?_
     rotate_left
     ·simp only [putAll,Act.put,List.setIfInBounds_toArray,List.set_cons_zero,List.set_cons_succ]
      rfl
     refine on_ 6 (some 25) (bm 9 127) (fun K hK=>?_)
     refine Kd.R_append_rows_step k55 (w0:=w) w.heap.size (by rfl) (.tmp 22) (.tmp 24) 27 55 (.agg #[(.int .i64 0),(.int .i64 0)]) 16 rfl Tryz.underlying27 info55 rfl (by decide) (by omega) v182 y181 y184 _ _ _ (fun k_=>(w.heap.size ≤ k_) ∧ some k_ ≠ (.slice Ao48 y184.length co48 : Value).ownBlock ∧ k_ ≠ gb175) (fun _=>False) rfl rfl ?aO ?aR (fun _ _ h=>h) (fun _ h=>h.elim) ?aF ?aB ?aS ?aL ?_
     (case aR=>exact rcx HO186)
     (case aB=>exact (bl HB))
     (case aF=>exact (fun k_ hk=>⟨(Nat.le_trans (below_size (bl HB)) hk),Kd.fresh' (Kd.R_lt (rs HO186)) k_ hk,Kd.freshB (g:=gb175) (o:=.cells #[.int .i64 a1_0,.int .i64 a1_1] 55 (0,0)) (bk BK175) k_ hk⟩))
     (case aO=>exact (rs HO183))
     (case aS=>exact (below_size (bl HB)))
     (case aL=>have:=LMc29.out;omega)
     intro v188 w47 ho hb hg hat
     rw [← Ny187.out] at ho
     replace HO0_0:=am (Kd.V_afterv (ok:=(fun k_=>(P0_0_ k_ ∨ w.heap.size ≤ k_) ∧ some k_ ≠ (.slice Ao48 y184.length co48 : Value).ownBlock ∧ k_ ≠ gb174 ∧ k_ ≠ gb175 ∧ k_ ≠ gb176)) (by (with_reducible repeat (first | apply Kd.V_alloc | apply Kd.V_drewN | apply Kd.V_drew));exact Kd.V_mono HO0_0.out ok_) hg hat)
     replace BK174:=am (blk_grown (g:=gb174) (o:=.cells #[.slice A0_0 l0_0.length c0_0] 29 (0,0)) (bk BK174) hg (Kd.R_ne HO183.out BK174.out (by decide)))
     replace BK175:=am (blk_grown (g:=gb175) (o:=.cells #[.int .i64 a1_0,.int .i64 a1_1] 55 (0,0)) (bk BK175) hg (Kd.R_away HO183.out (fun _ hk=>hk.2.2)))
     replace BK176:=am (blk_grown (g:=gb176) (o:=.cells #[.slice none 0 0] 29 (0,0)) (bk BK176) hg (Kd.R_ne HO183.out BK176.out (by decide)))
     replace HO186:=am (Kd.R_after (ok:=(fun k_=>(w.heap.size ≤ k_) ∧ k_ ≠ gb175)) (by (with_reducible repeat apply ru);exact Kd.R_mono HO186.out ok_) hg hat)
     replace HB:=am hb
     have HO189:=am (ho)
     clear HO183
     clear ho hb hg hat
     obtain ⟨Ao49,co49,eo49⟩:=Kd.R_slice HO189.out
     (first | subst eo49 | (injection eo49 with f1_ f2_ f3_;have f4_:=f1_.symm;have f5_:=f3_.symm;clear f1_ f2_ f3_;subst f4_;subst f5_))
     refine hK.out _ _ ⟨bcell BK174 0,bcell BK175 0,bcell BK175 1⟩ (fun hHeld=>?_)
     clear hK K
     refine nm_ ?_
     refine pu_ 7 (some 26) (bm 9 255) ?_
     refine last_ (i:=8) (N:=none) #[true,true,true,true,true,true,true,true,true] rfl rfl (one_of HT_.out (by kernel_rfl)) (by decide) (fun K hK=>?_)
     have : w47.cell? ⟨gb174,0,none⟩ = some (.slice A0_0 l0_0.length c0_0):=bcell BK174 0
     have:=bfz BK174 0
     have:=NB175_174.out
     have:=NB176_174.out
     have:=NB174_175.out
     have:=NB174_176.out
     refine skip_ (w1:=?_) (by rfl) rfl ?_ ?_
     rotate_left
     ·go_simp
      rfl
     refine hK.out _ _ ?_
     clear hK K
     refine done_ (done_of HT_.out (by kernel_rfl)) ?_
     try go_wp2
     have n0_ : Aside0 (Kd.V k55 55 (w47.setCell ⟨gb174,0,none⟩ (.slice Ao49 y187.length co49)) w.heap.size (fun k_=>(P0_0_ k_ ∨ w.heap.size ≤ k_) ∧ some k_ ≠ (.slice Ao48 y184.length co48 : Value).ownBlock ∧ some k_ ≠ (.slice Ao49 y187.length co49 : Value).ownBlock ∧ k_ ≠ gb174 ∧ k_ ≠ gb175 ∧ k_ ≠ gb176) (.slice A0_0 l0_0.length c0_0) l0_0):=⟨by (with_reducible repeat (first | apply Kd.V_alloc | apply Kd.V_drewN | apply Kd.V_drew));exact Kd.V_mono (Kd.V_far (p:=⟨gb174,0,none⟩) (Kd.V_mono HO0_0.out (fun k_ hk=>(⟨hk,hk.1.2.2.1⟩ : _ ∧ k_ ≠ gb174))) (fun _ hk=>hk.2) (.slice Ao49 y187.length co49)) ok_⟩
     have n1_ : Aside0 (Kd.R k55 55 (w47.setCell ⟨gb174,0,none⟩ (.slice Ao49 y187.length co49)) w.heap.size (fun k_=>(w.heap.size ≤ k_) ∧ some k_ ≠ (.slice Ao49 y187.length co49 : Value).ownBlock ∧ k_ ≠ gb175) (.slice Ao48 y184.length co48) y184):=⟨by (with_reducible repeat apply ru);exact Kd.R_mono (Kd.R_far (p:=⟨gb174,0,none⟩) (Kd.R_types HO186.out BK174.out (by decide)) (fun _ hk=>hk.2) (.slice Ao49 y187.length co49)) ok_⟩
     have n2_ : Aside0 (Kd.R k55 55 (w47.setCell ⟨gb174,0,none⟩ (.slice Ao49 y187.length co49)) w.heap.size (fun k_=>(w.heap.size ≤ k_) ∧ some k_ ≠ (.slice Ao48 y184.length co48 : Value).ownBlock ∧ k_ ≠ gb175) (.slice Ao49 y187.length co49) y187):=⟨by (with_reducible repeat apply ru);exact Kd.R_mono (Kd.R_far (p:=⟨gb174,0,none⟩) (Kd.R_types HO189.out BK174.out (by decide)) (fun _ hk=>hk.2) (.slice Ao49 y187.length co49)) ok_⟩
     have n3_ : Aside0 ((w47.setCell ⟨gb174,0,none⟩ (.slice Ao49 y187.length co49)).heap[gb174]? = some (.cells #[.slice Ao49 y187.length co49] 29 (0,0))):=⟨by (with_reducible repeat refine bu ?_);refine blk_put (cs:=#[.slice A0_0 l0_0.length c0_0]) ?_ 0 _ rfl;(with_reducible repeat refine bu ?_);exact BK174.out⟩
     have n4_ : Aside0 ((w47.setCell ⟨gb174,0,none⟩ (.slice Ao49 y187.length co49)).heap[gb175]? = some (.cells #[.int .i64 a1_0,.int .i64 a1_1] 55 (0,0))):=bf_ BK175
     have n5_ : Aside0 ((w47.setCell ⟨gb174,0,none⟩ (.slice Ao49 y187.length co49)).heap[gb176]? = some (.cells #[.slice none 0 0] 29 (0,0))):=bf_ BK176
     have n6_ : Aside0 (Below w.heap.size w (w47.setCell ⟨gb174,0,none⟩ (.slice Ao49 y187.length co49))):=⟨m2_⟩
     (try clear HO0_0)
     (try clear HO186)
     (try clear HO189)
     (try clear BK174)
     (try clear BK175)
     (try clear BK176)
     (try clear HB)
     generalize (w47.setCell ⟨gb174,0,none⟩ (.slice Ao49 y187.length co49)) = w51 at n0_ n1_ n2_ n3_ n4_ n5_ n6_ ⊢
     have HO0_0:=n0_
     have HO186:=n1_
     have HO189:=n2_
     have BK174:=n3_
     have BK175:=n4_
     have BK176:=n5_
     have HB:=n6_
     clear n0_ n1_ n2_ n3_ n4_ n5_ n6_
     replace HO0_0:=am (Kd.V_drew HO0_0.out)
     replace HO186:=am (Kd.R_drew HO186.out)
     replace HO189:=am (Kd.R_drew HO189.out)
     replace BK174:=am (blk_drew BK174.out)
     replace BK175:=am (blk_drew BK175.out)
     replace BK176:=am (blk_drew BK176.out)
     replace HB:=am (below_drew1 HB.out)
     refine start_ (n:=8) (S:=fun w'=>w'.cell? ⟨gb174,0,none⟩ = some (.slice Ao49 y187.length co49)) (ds:=[]) #[false,false,false,false,false,false,false,false] (by kernel_rfl) rfl rfl (bcell BK174 0) (fun hHeld=>?_);refine with_tabW spec_l3PutV.tab7 spec_l3PutV.bits7 (fun HT_ HW_=>?_)
     generalize w51.drew = w52 at HO0_0 HO186 HO189 BK174 BK175 BK176 HB hHeld ⊢
     refine pu_ 1 (some 28) (bm 8 2) ?_
     refine take_ (i:=0) (N:=some 27) (v:=?_) (a':=?_) #[true,true,false,false,false,false,false,false] rfl rfl (take_ofW HT_.out HW_.out (by kernel_rfl)) (fun _ _ _ h=>h) (Or.inl ⟨by rfl,?_⟩) hHeld ?_ ?_
     rotate_left
     ·intro w' s0
      go_simp
      with_reducible rfl
     rotate_left
     ·simp only [Act.put,List.setIfInBounds_toArray,List.set_cons_zero,List.set_cons_succ,i64_w,i32_w]
      rfl
     refine take_ (i:=2) (N:=some 29) (v:=?_) (a':=?_) #[true,true,true,false,false,false,false,false] rfl rfl (take_ofW HT_.out HW_.out (by kernel_rfl)) (fun _ _ _ h=>h) (Or.inl ⟨by rfl,?_⟩) hHeld ?_ ?_
     rotate_left
     ·intro w' s0
      go_simp
      with_reducible rfl
     rotate_left
     ·simp only [Act.put,List.setIfInBounds_toArray,List.set_cons_zero,List.set_cons_succ,i64_w,i32_w]
      rfl
     refine pu_ 3 (some 30) (bm 8 15) ?_
     refine pu_ 4 (some 31) (bm 8 31) ?_
     refine pu_ 5 (some 32) (bm 8 63) ?_
     refine on_ 6 none (bm 8 127) (fun K hK=>?_)
     have : w52.cell? ⟨gb176,0,none⟩ = some (.slice none 0 0):=bcell BK176 0
     have:=bfz BK176 0
     have:=NB174_176.out
     have:=NB175_176.out
     have:=NB176_174.out
     have:=NB176_175.out
     refine skip_ (w1:=?_) (by rfl) rfl ?_ ?_
     rotate_left
     ·go_simp
      rfl
     refine hK.out _ _ (((cell_far (p:=⟨gb176,_,none⟩) NB174_176.out _).trans (hHeld))) (fun hHeld=>?_)
     clear hK K
     refine pu_ 7 (some 5) (bm 8 255) ?_
     refine done_ (done_of HT_.out (by kernel_rfl)) ?_
     try go_wp2
     refine bodyPost_ret (results_ct rfl _ _ gb176 29 #[.slice Ao49 y187.length co49] (0,0) _ rfl (by (with_reducible repeat refine bu ?_);refine blk_put (cs:=#[.slice none 0 0]) ?_ 0 _ rfl;(with_reducible repeat refine bu ?_);exact BK176.out) Tryz.underlying29 rfl (by kernel_rfl)) rfl ?_
     exact ⟨_,fi_,Kd.V_mono (Kd.R_V (by (with_reducible repeat apply ru);exact Kd.R_mono (Kd.R_far (p:=⟨gb176,0,none⟩) (Kd.R_types HO189.out BK176.out (by decide)) (fun _ hk=>hk.2) (.slice Ao49 y187.length co49)) (fun _ hk=>hk.1.1))) (fun k_ hk=>by first | exact ⟨(.inr (hk.1)),hk.2⟩ | exact (.inr (hk))),m2_⟩
    ·rw [if_neg c29] at H
     exact absurd H (by simp)
   ·rw [if_neg c28] at H
    exact absurd H (by simp)
def spec_l3LineV.f (k : Nat) (l0_0 : List (S55)) (a1 : ByteArray) : Option ((List (S55)) × ByteArray):=(spec_LinSays.f k a1).bind fun bt199=>(if bt199.2.2 = true then ((spec_l3PutV.f k l0_0 bt199.1 bt199.2.1).bind fun bt203=>(if bt203.2 = 0 then (some (bt203.1,(⟨#[110,111,110,101]⟩ : ByteArray))) else ((spec_LinPort.f k 50 bt203.2).bind fun t208=>(some (bt203.1,t208))))) else (some (l0_0,a1)))
set_option maxHeartbeats 8000000 in
set_option maxRecDepth 100000 in
theorem spec_l3LineV.calls (k : Nat) (P0_0_ : Nat → Prop) (A0_0 : Option Addr) (c0_0 : Nat) (l0_0 : List (S55)) (a1 : ByteArray) (r1 : List (S55)) (r2 : ByteArray) (w : World) (hs0_0 : Kd.V k55 55 w w.heap.size (fun k_=>P0_0_ k_) (.slice A0_0 l0_0.length c0_0) l0_0) (h : spec_l3LineV.f k l0_0 a1 = some (r1,r2)) :
  Calls Tryz.prog 90 #[.agg #[.slice A0_0 l0_0.length c0_0],.string a1] w fun e w'=>∃ v0_ : Value,e = .returned (.tuple #[.agg #[v0_],.string r2]) ∧ Kd.V k55 55 w' w.heap.size (fun k_=>(P0_0_ k_ ∨ w.heap.size ≤ k_)) v0_ r1 ∧ Below w.heap.size w w':=by
 have hu29:=Tryz.underlying29
 have hu55:=Tryz.underlying55
 have HO0_0:=am (show Kd.V k55 55 w w.heap.size (fun k_=>(P0_0_ k_ ∨ w.heap.size ≤ k_)) (.slice A0_0 l0_0.length c0_0) l0_0 from Kd.V_mono hs0_0 (fun k_ hk=>.inl hk))
 have HB:=am (Below.refl w.heap.size w)
 have H : ((spec_LinSays.f k a1).bind fun bt199=>(if bt199.2.2 = true then ((spec_l3PutV.f k l0_0 bt199.1 bt199.2.1).bind fun bt203=>(if bt203.2 = 0 then (some (bt203.1,(⟨#[110,111,110,101]⟩ : ByteArray))) else ((spec_LinPort.f k 50 bt203.2).bind fun t208=>(some (bt203.1,t208))))) else (some (l0_0,a1)))) = some (r1,r2):=h
 clear h
 obtain ⟨⟨t199,t200,t201⟩,A3,H⟩:=bse H
 try dsimp only at H
 by_cases c4 : t201 = true
 ·subst c4
  have H1 : ((spec_l3PutV.f k l0_0 t199 t200).bind fun bt203=>(if bt203.2 = 0 then (some (bt203.1,(⟨#[110,111,110,101]⟩ : ByteArray))) else ((spec_LinPort.f k 50 bt203.2).bind fun t208=>(some (bt203.1,t208))))) = some (r1,r2):=by rw [if_pos rfl] at H;exact H
  clear H
  have H:=H1
  clear H1
  obtain ⟨⟨t203,t206⟩,A5,H⟩:=bse H
  try dsimp only at H
  by_cases c6 : t206 = 0
  ·rw [if_pos c6] at H
   have c6b0 : (t206 == 0) = true:=beq_iff_eq.mpr c6
   have c6b1 : (t206 != 0) = false:=bne_eq_false_iff_eq.mpr c6
   clear c6
   simp only [Option.some.injEq,Prod.mk.injEq] at H
   obtain ⟨rfl,rfl⟩:=H
   go_enter Tryz.func90,Tryz.ntmps90
   go_wp2_with (first | ((with_reducible refine gD 2 rfl ?_);refine box_event rfl (N:=2) rfl (cs:=#[.slice A0_0 l0_0.length c0_0]) (t:=29) hr_ ?_;intro gb197 hg w7 hbox hb;replace HO0_0:=am (Kd.V_below (Kd.V_elderB (by (with_reducible repeat (first | apply Kd.V_alloc | apply Kd.V_drewN | apply Kd.V_drew));exact HO0_0.out) gb197 (Nat.le_of_eq hg.symm)) hb);have BK197:=am hbox;have GW197:=gwE HB hg;have GE197:=gwE HB hg;replace HB:=hbS HB hb;clear hb hbox hg) | ((with_reducible refine gD 4 rfl ?_);refine box_event rfl (N:=4) rfl (cs:=#[.slice none 0 0]) (t:=29) hr_ ?_;intro gb198 hg w8 hbox hb;replace HO0_0:=am (Kd.V_below (Kd.V_elderB (by (with_reducible repeat (first | apply Kd.V_alloc | apply Kd.V_drewN | apply Kd.V_drew));exact HO0_0.out) gb198 (Nat.le_of_eq hg.symm)) hb);have BK198:=am hbox;have GW198:=gwE HB hg;have GE198:=gwE HB hg;replace HB:=hbS HB hb;have NB197_198:=neL BK197 hg;have NB198_197:=neG BK197 hg;replace BK197:=bkB BK197 hb;clear hb hbox hg) | ((with_reducible refine gC 111 rfl ?_);refine gL (some 12) Tryz.func111 #[.string a1] ?_;(with_reducible refine (spec_LinSays.calls k a1 t199 t200 true _ A3.out).mono ?_);rintro e w9 ⟨rfl,hb⟩;refine ⟨_,rfl,?_⟩;replace HO0_0:=am (Kd.V_below (by (with_reducible repeat (first | apply Kd.V_alloc | apply Kd.V_drewN | apply Kd.V_drew));exact HO0_0.out) hb);replace BK197:=bkB BK197 hb;replace BK198:=bkB BK198 hb;replace HB:=hbS HB hb;(try clear hb)) | ((with_reducible refine gD 6 rfl ?_);refine box_event rfl (N:=6) rfl (cs:=#[.int .i64 0,.int .i64 0]) (t:=55) hr_ ?_;intro gb202 hg w10 hbox hb;replace HO0_0:=am (Kd.V_below (Kd.V_elderB (by (with_reducible repeat (first | apply Kd.V_alloc | apply Kd.V_drewN | apply Kd.V_drew));exact HO0_0.out) gb202 (Nat.le_of_eq hg.symm)) hb);have BK202:=am hbox;have GW202:=gwE HB hg;have GE202:=gwE HB hg;replace HB:=hbS HB hb;have NB197_202:=neL BK197 hg;have NB202_197:=neG BK197 hg;replace BK197:=bkB BK197 hb;have NB198_202:=neL BK198 hg;have NB202_198:=neG BK198 hg;replace BK198:=bkB BK198 hb;clear hb hbox hg;have:=NB202_197.out;have:=NB197_202.out;have:=NB202_198.out;have:=NB198_202.out;have:=bcell BK202 0;have:=bcell BK202 1;have:=bfz BK202 0;have:=bfz BK202 1) | ((with_reducible refine gate_store (t:=55) (p:=6) rfl ?_);refine store_event (t:=55) (p:=6) (v:=?vo_w14) (w1:=((w10.setCell ⟨gb202,0,none⟩ (.int .i64 t199)).setCell ⟨gb202,1,none⟩ (.int .i64 t200))) ?hg ?ho ?hn ?hr ?_;(case ho=>rfl);(case hg=>rfl);(case hn=>rfl);(case hr=>first | (go_simp;done) | (go_simp;rfl));intro w14 hw;have n0_ : Aside0 (Kd.V k55 55 w14 w.heap.size (fun k_=>(P0_0_ k_ ∨ w.heap.size ≤ k_) ∧ k_ ≠ gb197 ∧ k_ ≠ gb198 ∧ k_ ≠ gb202) (.slice A0_0 l0_0.length c0_0) l0_0):=⟨(by rw [hw];exact (by (with_reducible repeat (first | apply Kd.V_alloc | apply Kd.V_drewN | apply Kd.V_drew));exact Kd.V_mono (Kd.V_far (p:=⟨gb202,1,none⟩) (Kd.V_far (p:=⟨gb202,0,none⟩) (Kd.V_mono HO0_0.out (fun k_ hk=>(⟨hk,hk.2⟩ : _ ∧ k_ ≠ gb202))) (fun _ hk=>hk.2) (.int .i64 t199)) (fun _ hk=>hk.2) (.int .i64 t200)) ok_))⟩;have n1_ : Aside0 (w14.heap[gb197]? = some (.cells #[.slice A0_0 l0_0.length c0_0] 29 (0,0))):=⟨(by rw [hw];exact (by (with_reducible repeat refine bu ?_);refine blk_far ?_ NB197_202.out _;(with_reducible repeat refine bu ?_);refine blk_far ?_ NB197_202.out _;(with_reducible repeat refine bu ?_);exact BK197.out))⟩;have n2_ : Aside0 (w14.heap[gb198]? = some (.cells #[.slice none 0 0] 29 (0,0))):=⟨(by rw [hw];exact (by (with_reducible repeat refine bu ?_);refine blk_far ?_ NB198_202.out _;(with_reducible repeat refine bu ?_);refine blk_far ?_ NB198_202.out _;(with_reducible repeat refine bu ?_);exact BK198.out))⟩;have n3_ : Aside0 (w14.heap[gb202]? = some (.cells #[.int .i64 t199,.int .i64 t200] 55 (0,0))):=⟨(by rw [hw];exact (by (with_reducible repeat refine bu ?_);refine blk_put (cs:=#[.int .i64 t199,.int .i64 0]) ?_ 1 _ rfl;(with_reducible repeat refine bu ?_);refine blk_put (cs:=#[.int .i64 0,.int .i64 0]) ?_ 0 _ rfl;(with_reducible repeat refine bu ?_);exact BK202.out))⟩;have n4_ : Aside0 (Below w.heap.size w w14):=⟨(by rw [hw];exact (bl HB))⟩;clear hw;clear HO0_0;clear BK197;clear BK198;clear BK202;clear HB;have HO0_0:=n0_;have BK197:=n1_;have BK198:=n2_;have BK202:=n3_;have HB:=n4_;clear n0_ n1_ n2_ n3_ n4_;have:=NB197_198.out;have:=NB198_197.out;have:=bcell BK197 0;have:=bfz BK197 0;have:=bcell BK202 0;have:=bcell BK202 1;have:=bfz BK202 0;have:=bfz BK202 1) | ((with_reducible refine gC 112 rfl ?_);refine gL (some 22) Tryz.func112 #[.agg #[.slice A0_0 l0_0.length c0_0],.agg #[.int .i64 t199,.int .i64 t200]] ?_;(with_reducible refine (spec_l3PutV.calls k (fun k_=>((P0_0_ k_ ∨ w.heap.size ≤ k_) ∧ (k_ ≠ gb197 ∧ (k_ ≠ gb198 ∧ k_ ≠ gb202)))) _ _ l0_0 t199 t200 t203 t206 _ HO0_0.out A5.out).mono ?_);rintro e w18 ⟨v204,rfl,ho0,hb⟩;refine ⟨_,rfl,?_⟩;replace HO0_0:=am (Kd.V_below (by (with_reducible repeat (first | apply Kd.V_alloc | apply Kd.V_drewN | apply Kd.V_drew));exact HO0_0.out) hb);have HO205:=am (Kd.V_lower (Kd.V_mono (ok':=fun k_=>(P0_0_ k_ ∨ w.heap.size ≤ k_) ∧ k_ ≠ gb197 ∧ k_ ≠ gb198 ∧ k_ ≠ gb202) ho0 (fun k_ hk_=>⟨Or.elim hk_ (fun hs_=>hs_.1) (fun hn_=>(.inr (Nat.le_trans (below_size (bl HB)) hn_))),Or.elim hk_ (fun hs_=>hs_.2.1) (fun hn_=>(Kd.freshB (g:=gb197) (o:=.cells #[.slice A0_0 l0_0.length c0_0] 29 (0,0)) (bk BK197) k_ hn_)),Or.elim hk_ (fun hs_=>hs_.2.2.1) (fun hn_=>(Kd.freshB (g:=gb198) (o:=.cells #[.slice none 0 0] 29 (0,0)) (bk BK198) k_ hn_)),Or.elim hk_ (fun hs_=>hs_.2.2.2) (fun hn_=>(Kd.freshB (g:=gb202) (o:=.cells #[.int .i64 t199,.int .i64 t200] 55 (0,0)) (bk BK202) k_ hn_))⟩)) (below_size (bl HB)));replace BK197:=bkB BK197 hb;replace BK198:=bkB BK198 hb;replace BK202:=bkB BK202 hb;replace HB:=hbS HB hb;(try clear hb);(try clear ho0)) | ((with_reducible refine gD 8 rfl ?_);refine box_event rfl (N:=8) rfl (cs:=#[.slice none 0 0]) (t:=29) hr_ ?_;intro gb207 hg w19 hbox hb;replace HO0_0:=am (Kd.V_below (Kd.V_elderB (by (with_reducible repeat (first | apply Kd.V_alloc | apply Kd.V_drewN | apply Kd.V_drew));exact HO0_0.out) gb207 (Nat.le_of_eq hg.symm)) hb);replace HO205:=am (Kd.V_below (Kd.V_elderB (by (with_reducible repeat (first | apply Kd.V_alloc | apply Kd.V_drewN | apply Kd.V_drew));exact HO205.out) gb207 (Nat.le_of_eq hg.symm)) hb);have BK207:=am hbox;have GW207:=gwE HB hg;have GE207:=gwE HB hg;replace HB:=hbS HB hb;have NB197_207:=neL BK197 hg;have NB207_197:=neG BK197 hg;replace BK197:=bkB BK197 hb;have NB198_207:=neL BK198 hg;have NB207_198:=neG BK198 hg;replace BK198:=bkB BK198 hb;have NB202_207:=neL BK202 hg;have NB207_202:=neG BK202 hg;replace BK202:=bkB BK202 hb;clear hb hbox hg;obtain ⟨Ao20,co20,eo20⟩:=Kd.V_slice HO205.out;subst eo20;have:=NB207_197.out;have:=NB197_207.out;have:=NB207_198.out;have:=NB198_207.out;have:=NB207_202.out;have:=NB202_207.out;have:=bcell BK207 0;have:=bfz BK207 0;have:=bcell BK198 0;have:=bfz BK198 0))
   refine bodyPost_ret (results_ct rfl _ _ gb198 29 #[.slice Ao20 t203.length co20] (0,0) _ rfl (by (with_reducible repeat refine bu ?_);refine blk_put (cs:=#[.slice none 0 0]) ?_ 0 _ rfl;(with_reducible repeat refine bu ?_);refine blk_far ?_ NB198_207.out _;(with_reducible repeat refine bu ?_);exact BK198.out) Tryz.underlying29 rfl (by kernel_rfl)) rfl ?_
   exact ⟨_,fi_,by (with_reducible repeat (first | apply Kd.V_alloc | apply Kd.V_drewN | apply Kd.V_drew));exact Kd.V_mono (Kd.V_far (p:=⟨gb198,0,none⟩) (Kd.V_far (p:=⟨gb207,0,none⟩) (Kd.V_mono (Kd.V_mono HO205.out (fun k_ hk=>(⟨hk,hk.2⟩ : _ ∧ k_ ≠ gb207))) (fun k_ hk=>(⟨hk,hk.1.1.2.2.1⟩ : _ ∧ k_ ≠ gb198))) (fun _ hk=>hk.1.2) (.slice Ao20 t203.length co20)) (fun _ hk=>hk.2) (.slice Ao20 t203.length co20)) (fun _ hk=>hk.1.1.1.1),m2_⟩
  ·rw [if_neg c6] at H
   have c6b0 : (t206 == 0) = false:=beq_eq_false_iff_ne.mpr c6
   have c6b1 : (t206 != 0) = true:=bne_iff_ne.mpr c6
   obtain ⟨t208,A26,H⟩:=bse H
   try dsimp only at H
   simp only [Option.some.injEq,Prod.mk.injEq] at H
   obtain ⟨rfl,rfl⟩:=H
   go_enter Tryz.func90,Tryz.ntmps90
   try go_wp2_with (first | ((with_reducible refine gD 2 rfl ?_);refine box_event rfl (N:=2) rfl (cs:=#[.slice A0_0 l0_0.length c0_0]) (t:=29) hr_ ?_;intro gb197 hg w27 hbox hb;replace HO0_0:=am (Kd.V_below (Kd.V_elderB (by (with_reducible repeat (first | apply Kd.V_alloc | apply Kd.V_drewN | apply Kd.V_drew));exact HO0_0.out) gb197 (Nat.le_of_eq hg.symm)) hb);have BK197:=am hbox;have GW197:=gwE HB hg;have GE197:=gwE HB hg;replace HB:=hbS HB hb;clear hb hbox hg) | ((with_reducible refine gD 4 rfl ?_);refine box_event rfl (N:=4) rfl (cs:=#[.slice none 0 0]) (t:=29) hr_ ?_;intro gb198 hg w28 hbox hb;replace HO0_0:=am (Kd.V_below (Kd.V_elderB (by (with_reducible repeat (first | apply Kd.V_alloc | apply Kd.V_drewN | apply Kd.V_drew));exact HO0_0.out) gb198 (Nat.le_of_eq hg.symm)) hb);have BK198:=am hbox;have GW198:=gwE HB hg;have GE198:=gwE HB hg;replace HB:=hbS HB hb;have NB197_198:=neL BK197 hg;have NB198_197:=neG BK197 hg;replace BK197:=bkB BK197 hb;clear hb hbox hg) | ((with_reducible refine gC 111 rfl ?_);refine gL (some 12) Tryz.func111 #[.string a1] ?_;(with_reducible refine (spec_LinSays.calls k a1 t199 t200 true _ A3.out).mono ?_);rintro e w29 ⟨rfl,hb⟩;refine ⟨_,rfl,?_⟩;replace HO0_0:=am (Kd.V_below (by (with_reducible repeat (first | apply Kd.V_alloc | apply Kd.V_drewN | apply Kd.V_drew));exact HO0_0.out) hb);replace BK197:=bkB BK197 hb;replace BK198:=bkB BK198 hb;replace HB:=hbS HB hb;(try clear hb)) | ((with_reducible refine gD 6 rfl ?_);refine box_event rfl (N:=6) rfl (cs:=#[.int .i64 0,.int .i64 0]) (t:=55) hr_ ?_;intro gb202 hg w30 hbox hb;replace HO0_0:=am (Kd.V_below (Kd.V_elderB (by (with_reducible repeat (first | apply Kd.V_alloc | apply Kd.V_drewN | apply Kd.V_drew));exact HO0_0.out) gb202 (Nat.le_of_eq hg.symm)) hb);have BK202:=am hbox;have GW202:=gwE HB hg;have GE202:=gwE HB hg;replace HB:=hbS HB hb;have NB197_202:=neL BK197 hg;have NB202_197:=neG BK197 hg;replace BK197:=bkB BK197 hb;have NB198_202:=neL BK198 hg;have NB202_198:=neG BK198 hg;replace BK198:=bkB BK198 hb;clear hb hbox hg;have:=NB202_197.out;have:=NB197_202.out;have:=NB202_198.out;have:=NB198_202.out;have:=bcell BK202 0;have:=bcell BK202 1;have:=bfz BK202 0;have:=bfz BK202 1) | ((with_reducible refine gate_store (t:=55) (p:=6) rfl ?_);refine store_event (t:=55) (p:=6) (v:=?vo_w34) (w1:=((w30.setCell ⟨gb202,0,none⟩ (.int .i64 t199)).setCell ⟨gb202,1,none⟩ (.int .i64 t200))) ?hg ?ho ?hn ?hr ?_;(case ho=>rfl);(case hg=>rfl);(case hn=>rfl);(case hr=>first | (go_simp;done) | (go_simp;rfl));intro w34 hw;have n0_ : Aside0 (Kd.V k55 55 w34 w.heap.size (fun k_=>(P0_0_ k_ ∨ w.heap.size ≤ k_) ∧ k_ ≠ gb197 ∧ k_ ≠ gb198 ∧ k_ ≠ gb202) (.slice A0_0 l0_0.length c0_0) l0_0):=⟨(by rw [hw];exact (by (with_reducible repeat (first | apply Kd.V_alloc | apply Kd.V_drewN | apply Kd.V_drew));exact Kd.V_mono (Kd.V_far (p:=⟨gb202,1,none⟩) (Kd.V_far (p:=⟨gb202,0,none⟩) (Kd.V_mono HO0_0.out (fun k_ hk=>(⟨hk,hk.2⟩ : _ ∧ k_ ≠ gb202))) (fun _ hk=>hk.2) (.int .i64 t199)) (fun _ hk=>hk.2) (.int .i64 t200)) ok_))⟩;have n1_ : Aside0 (w34.heap[gb197]? = some (.cells #[.slice A0_0 l0_0.length c0_0] 29 (0,0))):=⟨(by rw [hw];exact (by (with_reducible repeat refine bu ?_);refine blk_far ?_ NB197_202.out _;(with_reducible repeat refine bu ?_);refine blk_far ?_ NB197_202.out _;(with_reducible repeat refine bu ?_);exact BK197.out))⟩;have n2_ : Aside0 (w34.heap[gb198]? = some (.cells #[.slice none 0 0] 29 (0,0))):=⟨(by rw [hw];exact (by (with_reducible repeat refine bu ?_);refine blk_far ?_ NB198_202.out _;(with_reducible repeat refine bu ?_);refine blk_far ?_ NB198_202.out _;(with_reducible repeat refine bu ?_);exact BK198.out))⟩;have n3_ : Aside0 (w34.heap[gb202]? = some (.cells #[.int .i64 t199,.int .i64 t200] 55 (0,0))):=⟨(by rw [hw];exact (by (with_reducible repeat refine bu ?_);refine blk_put (cs:=#[.int .i64 t199,.int .i64 0]) ?_ 1 _ rfl;(with_reducible repeat refine bu ?_);refine blk_put (cs:=#[.int .i64 0,.int .i64 0]) ?_ 0 _ rfl;(with_reducible repeat refine bu ?_);exact BK202.out))⟩;have n4_ : Aside0 (Below w.heap.size w w34):=⟨(by rw [hw];exact (bl HB))⟩;clear hw;clear HO0_0;clear BK197;clear BK198;clear BK202;clear HB;have HO0_0:=n0_;have BK197:=n1_;have BK198:=n2_;have BK202:=n3_;have HB:=n4_;clear n0_ n1_ n2_ n3_ n4_;have:=NB197_198.out;have:=NB198_197.out;have:=bcell BK197 0;have:=bfz BK197 0;have:=bcell BK202 0;have:=bcell BK202 1;have:=bfz BK202 0;have:=bfz BK202 1) | ((with_reducible refine gC 112 rfl ?_);refine gL (some 22) Tryz.func112 #[.agg #[.slice A0_0 l0_0.length c0_0],.agg #[.int .i64 t199,.int .i64 t200]] ?_;(with_reducible refine (spec_l3PutV.calls k (fun k_=>((P0_0_ k_ ∨ w.heap.size ≤ k_) ∧ (k_ ≠ gb197 ∧ (k_ ≠ gb198 ∧ k_ ≠ gb202)))) _ _ l0_0 t199 t200 t203 t206 _ HO0_0.out A5.out).mono ?_);rintro e w38 ⟨v204,rfl,ho0,hb⟩;refine ⟨_,rfl,?_⟩;replace HO0_0:=am (Kd.V_below (by (with_reducible repeat (first | apply Kd.V_alloc | apply Kd.V_drewN | apply Kd.V_drew));exact HO0_0.out) hb);have HO205:=am (Kd.V_lower (Kd.V_mono (ok':=fun k_=>(P0_0_ k_ ∨ w.heap.size ≤ k_) ∧ k_ ≠ gb197 ∧ k_ ≠ gb198 ∧ k_ ≠ gb202) ho0 (fun k_ hk_=>⟨Or.elim hk_ (fun hs_=>hs_.1) (fun hn_=>(.inr (Nat.le_trans (below_size (bl HB)) hn_))),Or.elim hk_ (fun hs_=>hs_.2.1) (fun hn_=>(Kd.freshB (g:=gb197) (o:=.cells #[.slice A0_0 l0_0.length c0_0] 29 (0,0)) (bk BK197) k_ hn_)),Or.elim hk_ (fun hs_=>hs_.2.2.1) (fun hn_=>(Kd.freshB (g:=gb198) (o:=.cells #[.slice none 0 0] 29 (0,0)) (bk BK198) k_ hn_)),Or.elim hk_ (fun hs_=>hs_.2.2.2) (fun hn_=>(Kd.freshB (g:=gb202) (o:=.cells #[.int .i64 t199,.int .i64 t200] 55 (0,0)) (bk BK202) k_ hn_))⟩)) (below_size (bl HB)));replace BK197:=bkB BK197 hb;replace BK198:=bkB BK198 hb;replace BK202:=bkB BK202 hb;replace HB:=hbS HB hb;(try clear hb);(try clear ho0)) | ((with_reducible refine gD 8 rfl ?_);refine box_event rfl (N:=8) rfl (cs:=#[.slice none 0 0]) (t:=29) hr_ ?_;intro gb207 hg w39 hbox hb;replace HO0_0:=am (Kd.V_below (Kd.V_elderB (by (with_reducible repeat (first | apply Kd.V_alloc | apply Kd.V_drewN | apply Kd.V_drew));exact HO0_0.out) gb207 (Nat.le_of_eq hg.symm)) hb);replace HO205:=am (Kd.V_below (Kd.V_elderB (by (with_reducible repeat (first | apply Kd.V_alloc | apply Kd.V_drewN | apply Kd.V_drew));exact HO205.out) gb207 (Nat.le_of_eq hg.symm)) hb);have BK207:=am hbox;have GW207:=gwE HB hg;have GE207:=gwE HB hg;replace HB:=hbS HB hb;have NB197_207:=neL BK197 hg;have NB207_197:=neG BK197 hg;replace BK197:=bkB BK197 hb;have NB198_207:=neL BK198 hg;have NB207_198:=neG BK198 hg;replace BK198:=bkB BK198 hb;have NB202_207:=neL BK202 hg;have NB207_202:=neG BK202 hg;replace BK202:=bkB BK202 hb;clear hb hbox hg;obtain ⟨Ao40,co40,eo40⟩:=Kd.V_slice HO205.out;subst eo40;have:=NB207_197.out;have:=NB197_207.out;have:=NB207_198.out;have:=NB198_207.out;have:=NB207_202.out;have:=NB202_207.out;have:=bcell BK207 0;have:=bfz BK207 0))
   have n0_ : Aside0 (Kd.V k55 55 (w39.setCell ⟨gb207,0,none⟩ (.slice Ao40 t203.length co40)) w.heap.size (fun k_=>(P0_0_ k_ ∨ w.heap.size ≤ k_) ∧ k_ ≠ gb197 ∧ k_ ≠ gb198 ∧ k_ ≠ gb202 ∧ k_ ≠ gb207) (.slice A0_0 l0_0.length c0_0) l0_0):=⟨by (with_reducible repeat (first | apply Kd.V_alloc | apply Kd.V_drewN | apply Kd.V_drew));exact Kd.V_mono (Kd.V_far (p:=⟨gb207,0,none⟩) (Kd.V_mono HO0_0.out (fun k_ hk=>(⟨hk,hk.2⟩ : _ ∧ k_ ≠ gb207))) (fun _ hk=>hk.2) (.slice Ao40 t203.length co40)) ok_⟩
   have n1_ : Aside0 (Kd.V k55 55 (w39.setCell ⟨gb207,0,none⟩ (.slice Ao40 t203.length co40)) w.heap.size (fun k_=>(P0_0_ k_ ∨ w.heap.size ≤ k_) ∧ k_ ≠ gb197 ∧ k_ ≠ gb198 ∧ k_ ≠ gb202 ∧ k_ ≠ gb207) (.slice Ao40 t203.length co40) t203):=⟨by (with_reducible repeat (first | apply Kd.V_alloc | apply Kd.V_drewN | apply Kd.V_drew));exact Kd.V_mono (Kd.V_far (p:=⟨gb207,0,none⟩) (Kd.V_mono HO205.out (fun k_ hk=>(⟨hk,hk.2⟩ : _ ∧ k_ ≠ gb207))) (fun _ hk=>hk.2) (.slice Ao40 t203.length co40)) ok_⟩
   have n2_ : Aside0 ((w39.setCell ⟨gb207,0,none⟩ (.slice Ao40 t203.length co40)).heap[gb197]? = some (.cells #[.slice A0_0 l0_0.length c0_0] 29 (0,0))):=bf_ BK197
   have n3_ : Aside0 ((w39.setCell ⟨gb207,0,none⟩ (.slice Ao40 t203.length co40)).heap[gb198]? = some (.cells #[.slice none 0 0] 29 (0,0))):=bf_ BK198
   have n4_ : Aside0 ((w39.setCell ⟨gb207,0,none⟩ (.slice Ao40 t203.length co40)).heap[gb202]? = some (.cells #[.int .i64 t199,.int .i64 t200] 55 (0,0))):=bf_ BK202
   have n5_ : Aside0 ((w39.setCell ⟨gb207,0,none⟩ (.slice Ao40 t203.length co40)).heap[gb207]? = some (.cells #[.slice Ao40 t203.length co40] 29 (0,0))):=⟨by (with_reducible repeat refine bu ?_);refine blk_put (cs:=#[.slice none 0 0]) ?_ 0 _ rfl;(with_reducible repeat refine bu ?_);exact BK207.out⟩
   have n6_ : Aside0 (Below w.heap.size w (w39.setCell ⟨gb207,0,none⟩ (.slice Ao40 t203.length co40))):=⟨m2_⟩
   (try clear HO0_0)
   (try clear HO205)
   (try clear BK197)
   (try clear BK198)
   (try clear BK202)
   (try clear BK207)
   (try clear HB)
   generalize (w39.setCell ⟨gb207,0,none⟩ (.slice Ao40 t203.length co40)) = w45 at n0_ n1_ n2_ n3_ n4_ n5_ n6_ ⊢
   have HO0_0:=n0_
   have HO205:=n1_
   have BK197:=n2_
   have BK198:=n3_
   have BK202:=n4_
   have BK207:=n5_
   have HB:=n6_
   clear n0_ n1_ n2_ n3_ n4_ n5_ n6_
   replace HO0_0:=am (Kd.V_drew HO0_0.out)
   replace HO205:=am (Kd.V_drew HO205.out)
   replace BK197:=am (blk_drew BK197.out)
   replace BK198:=am (blk_drew BK198.out)
   replace BK202:=am (blk_drew BK202.out)
   replace BK207:=am (blk_drew BK207.out)
   replace HB:=am (below_drew1 HB.out)
   refine start_ (n:=6) (S:=fun w'=>w'.cell? ⟨gb207,0,none⟩ = some (.slice Ao40 t203.length co40)) (ds:=[]) #[false,false,false,false,false,false] (by kernel_rfl) rfl rfl (bcell BK207 0) (fun hHeld=>?_)
   generalize w45.drew = w46 at HO0_0 HO205 BK197 BK198 BK202 BK207 HB hHeld ⊢
   refine pu_ 1 (some 29) (bm 6 2) ?_
   refine pu_ 2 (some 30) (bm 6 6) ?_
   refine take_ (i:=0) (N:=some 28) (v:=?_) (a':=?_) #[true,true,true,false,false,false] rfl rfl (by kernel_rfl) (fun _ _ _ h=>h) (Or.inl ⟨by rfl,?_⟩) hHeld ?_ ?_
   rotate_left
   ·intro w' s0
    go_simp
    with_reducible rfl
   rotate_left
   ·simp only [Act.put,List.setIfInBounds_toArray,List.set_cons_zero,List.set_cons_succ,i64_w,i32_w]
    rfl
   refine one_ (i:=3) (N:=some 31) #[true,true,true,true,false,false] rfl rfl (by kernel_rfl) (by decide) (fun K hK=>?_)
   refine gR Tryz.func113 #[.agg #[.int .i64 50,.int .i64 t206]] ?_
   with_reducible refine (spec_LinPort.calls k 50 t206 t208 _ A26.out).mono ?_
   rintro e w47 ⟨rfl,hb⟩
   refine ⟨_,rfl,?_⟩
   replace HO0_0:=am (Kd.V_below (by (with_reducible repeat (first | apply Kd.V_alloc | apply Kd.V_drewN | apply Kd.V_drew));exact HO0_0.out) hb)
   replace HO205:=am (Kd.V_below (by (with_reducible repeat (first | apply Kd.V_alloc | apply Kd.V_drewN | apply Kd.V_drew));exact HO205.out) hb)
   replace BK197:=bkB BK197 hb
   replace BK198:=bkB BK198 hb
   replace BK202:=bkB BK202 hb
   replace BK207:=bkB BK207 hb
   replace HB:=hbS HB hb
   (try clear hb)
   (try clear hb2)
   (try clear hk)
   (try clear hi)
   refine hK.out _ _ (bcell BK207 0) (fun hHeld=>?_)
   clear hK K
   refine nm_ ?_
   refine one_ (i:=4) (N:=none) #[true,true,true,true,true,false] rfl rfl (by kernel_rfl) (by decide) (fun K hK=>?_)
   have : w47.cell? ⟨gb198,0,none⟩ = some (.slice none 0 0):=bcell BK198 0
   have:=bfz BK198 0
   have:=NB197_198.out
   have:=NB202_198.out
   have:=NB207_198.out
   have:=NB198_197.out
   have:=NB198_202.out
   have:=NB198_207.out
   refine skip_ (w1:=?_) (by rfl) rfl ?_ ?_
   rotate_left
   ·go_simp
    rfl
   refine hK.out _ _ (((cell_far (p:=⟨gb198,_,none⟩) NB207_198.out _).trans (hHeld))) (fun hHeld=>?_)
   clear hK K
   refine pu_ 5 (some 5) (bm 6 63) ?_
   refine done_ (by kernel_rfl) ?_
   try go_wp2
   refine bodyPost_ret (results_ct rfl _ _ gb198 29 #[.slice Ao40 t203.length co40] (0,0) _ rfl (by (with_reducible repeat refine bu ?_);refine blk_put (cs:=#[.slice none 0 0]) ?_ 0 _ rfl;(with_reducible repeat refine bu ?_);exact BK198.out) Tryz.underlying29 rfl (by kernel_rfl)) rfl ?_
   exact ⟨_,fi_,by (with_reducible repeat (first | apply Kd.V_alloc | apply Kd.V_drewN | apply Kd.V_drew));exact Kd.V_mono (Kd.V_far (p:=⟨gb198,0,none⟩) (Kd.V_mono HO205.out (fun k_ hk=>(⟨hk,hk.2.2.1⟩ : _ ∧ k_ ≠ gb198))) (fun _ hk=>hk.2) (.slice Ao40 t203.length co40)) (fun _ hk=>hk.1.1),m2_⟩
 ·replace c4:=Bool.eq_false_iff.mpr c4
  subst c4
  have H1 : (some (l0_0,a1)) = some (r1,r2):=by rw [if_neg (show ¬ (false = true) by decide)] at H;exact H
  clear H
  have H:=H1
  clear H1
  simp only [Option.some.injEq,Prod.mk.injEq] at H
  obtain ⟨rfl,rfl⟩:=H
  go_enter Tryz.func90,Tryz.ntmps90
  go_wp2_with (first | ((with_reducible refine gD 2 rfl ?_);refine box_event rfl (N:=2) rfl (cs:=#[.slice A0_0 l0_0.length c0_0]) (t:=29) hr_ ?_;intro gb197 hg w49 hbox hb;replace HO0_0:=am (Kd.V_below (Kd.V_elderB (by (with_reducible repeat (first | apply Kd.V_alloc | apply Kd.V_drewN | apply Kd.V_drew));exact HO0_0.out) gb197 (Nat.le_of_eq hg.symm)) hb);have BK197:=am hbox;have GW197:=gwE HB hg;have GE197:=gwE HB hg;replace HB:=hbS HB hb;clear hb hbox hg) | ((with_reducible refine gD 4 rfl ?_);refine box_event rfl (N:=4) rfl (cs:=#[.slice none 0 0]) (t:=29) hr_ ?_;intro gb198 hg w50 hbox hb;replace HO0_0:=am (Kd.V_below (Kd.V_elderB (by (with_reducible repeat (first | apply Kd.V_alloc | apply Kd.V_drewN | apply Kd.V_drew));exact HO0_0.out) gb198 (Nat.le_of_eq hg.symm)) hb);have BK198:=am hbox;have GW198:=gwE HB hg;have GE198:=gwE HB hg;replace HB:=hbS HB hb;have NB197_198:=neL BK197 hg;have NB198_197:=neG BK197 hg;replace BK197:=bkB BK197 hb;clear hb hbox hg) | ((with_reducible refine gC 111 rfl ?_);refine gL (some 12) Tryz.func111 #[.string a1] ?_;(with_reducible refine (spec_LinSays.calls k a1 t199 t200 false _ A3.out).mono ?_);rintro e w51 ⟨rfl,hb⟩;refine ⟨_,rfl,?_⟩;replace HO0_0:=am (Kd.V_below (by (with_reducible repeat (first | apply Kd.V_alloc | apply Kd.V_drewN | apply Kd.V_drew));exact HO0_0.out) hb);replace BK197:=bkB BK197 hb;replace BK198:=bkB BK198 hb;replace HB:=hbS HB hb;(try clear hb)) | ((with_reducible refine gD 6 rfl ?_);refine box_event rfl (N:=6) rfl (cs:=#[.int .i64 0,.int .i64 0]) (t:=55) hr_ ?_;intro gb202 hg w52 hbox hb;replace HO0_0:=am (Kd.V_below (Kd.V_elderB (by (with_reducible repeat (first | apply Kd.V_alloc | apply Kd.V_drewN | apply Kd.V_drew));exact HO0_0.out) gb202 (Nat.le_of_eq hg.symm)) hb);have BK202:=am hbox;have GW202:=gwE HB hg;have GE202:=gwE HB hg;replace HB:=hbS HB hb;have NB197_202:=neL BK197 hg;have NB202_197:=neG BK197 hg;replace BK197:=bkB BK197 hb;have NB198_202:=neL BK198 hg;have NB202_198:=neG BK198 hg;replace BK198:=bkB BK198 hb;clear hb hbox hg;have:=NB202_197.out;have:=NB197_202.out;have:=NB202_198.out;have:=NB198_202.out;have:=bcell BK202 0;have:=bcell BK202 1;have:=bfz BK202 0;have:=bfz BK202 1;have:=NB197_198.out;have:=NB198_197.out;have:=bcell BK197 0;have:=bfz BK197 0;have:=bcell BK198 0;have:=bfz BK198 0))
  refine bodyPost_ret (results_ct rfl _ _ gb198 29 #[.slice A0_0 l0_0.length c0_0] (0,0) _ rfl (by (with_reducible repeat refine bu ?_);refine blk_put (cs:=#[.slice none 0 0]) ?_ 0 _ rfl;(with_reducible repeat refine bu ?_);refine blk_far ?_ NB198_202.out _;(with_reducible repeat refine bu ?_);refine blk_far ?_ NB198_202.out _;(with_reducible repeat refine bu ?_);exact BK198.out) Tryz.underlying29 rfl (by kernel_rfl)) rfl ?_
  exact ⟨_,fi_,by (with_reducible repeat (first | apply Kd.V_alloc | apply Kd.V_drewN | apply Kd.V_drew));exact Kd.V_mono (Kd.V_far (p:=⟨gb198,0,none⟩) (Kd.V_far (p:=⟨gb202,1,none⟩) (Kd.V_far (p:=⟨gb202,0,none⟩) (Kd.V_mono (Kd.V_mono HO0_0.out (fun k_ hk=>(⟨hk,hk.2⟩ : _ ∧ k_ ≠ gb202))) (fun k_ hk=>(⟨hk,hk.1.1.2⟩ : _ ∧ k_ ≠ gb198))) (fun _ hk=>hk.1.2) (.int .i64 t199)) (fun _ hk=>hk.1.2) (.int .i64 t200)) (fun _ hk=>hk.2) (.slice A0_0 l0_0.length c0_0)) (fun _ hk=>hk.1.1.1.1.1),m2_⟩
def spec_l3StreamV.l0 : Nat → List ByteArray → ByteArray → Int → List (S55) → Option ((List (S55)) × ByteArray)
 | 0,_,_,_,_=>none
 | k + 1,x6,x8,x9,x210000=>if x9 < (x6.length : Int) then (if 0 ≤ x9 then ((spec_l3LineV.f k x210000 (rdOf ByteArray.empty x6 x9)).bind fun bt216=>(if x8.size + bt216.2.size ≤ 9223372036854775807 then (if (x8 ++ bt216.2).size + 1 ≤ 9223372036854775807 then (spec_l3StreamV.l0 k x6 ((x8 ++ bt216.2) ++ (⟨#[59]⟩ : ByteArray)) (wrap64 (x9 + 1)) bt216.1) else (none)) else (none))) else (none)) else (some (x210000,x8))
def spec_l3StreamV.f (k : Nat) (l0_0 : List (S55)) (a1 : ByteArray) : Option ((List (S55)) × ByteArray):=(spec_StrLines.f k a1).bind fun bt211=>(spec_l3StreamV.l0 k bt211.1 (⟨#[]⟩ : ByteArray) 0 l0_0)
def spec_l3StreamV.T6 : Bool × List (List Nat × List Nat):=(true,[([],[]),([],[]),([],[]),([1,2],[1,2]),([3],[3]),([0,4],[0,4]),([5],[5]),([6],[6]),([6],[6]),([],[]),([9,7,5,0,1,2,3,4,5,6,7,9],[7,9]),([8,10,0,1,2,3,4,5,6,7,8,9,10],[8])])
def spec_l3StreamV.B6 : List Nat:=[0,0,0,6,14,31,63,127,127,0,767,2047]
theorem spec_l3StreamV.tab6 : rtab .any (opsOf Tryz.f67 6) = spec_l3StreamV.T6:=by kernel_rfl
theorem spec_l3StreamV.bits6 : waitsOk spec_l3StreamV.T6.2 spec_l3StreamV.B6 = true:=by kernel_rfl
set_option maxHeartbeats 8000000 in
set_option maxRecDepth 100000 in
theorem spec_l3StreamV.calls (k : Nat) (P0_0_ : Nat → Prop) (A0_0 : Option Addr) (c0_0 : Nat) (l0_0 : List (S55)) (a1 : ByteArray) (r1 : List (S55)) (r2 : ByteArray) (w : World) (hs0_0 : Kd.V k55 55 w w.heap.size (fun k_=>P0_0_ k_) (.slice A0_0 l0_0.length c0_0) l0_0) (h : spec_l3StreamV.f k l0_0 a1 = some (r1,r2)) :
  Calls Tryz.prog 67 #[.agg #[.slice A0_0 l0_0.length c0_0],.string a1] w fun e w'=>∃ v0_ : Value,e = .returned (.tuple #[.agg #[v0_],.string r2]) ∧ Kd.V k55 55 w' w.heap.size (fun k_=>(P0_0_ k_ ∨ w.heap.size ≤ k_)) v0_ r1 ∧ Below w.heap.size w w':=by
 have hu29:=Tryz.underlying29
 have HO0_0:=am (show Kd.V k55 55 w w.heap.size (fun k_=>(P0_0_ k_ ∨ w.heap.size ≤ k_)) (.slice A0_0 l0_0.length c0_0) l0_0 from Kd.V_mono hs0_0 (fun k_ hk=>.inl hk))
 have HB:=am (Below.refl w.heap.size w)
 have H : ((spec_StrLines.f k a1).bind fun bt211=>(spec_l3StreamV.l0 k bt211.1 (⟨#[]⟩ : ByteArray) 0 l0_0)) = some (r1,r2):=h
 clear h
 obtain ⟨⟨t211,t212⟩,A3,H⟩:=bse H
 try dsimp only at H
 have H':=am H
 clear H
 go_enter Tryz.func67,Tryz.ntmps67
 go_wp2_with (first | ((with_reducible refine gD 2 rfl ?_);refine box_event rfl (N:=2) rfl (cs:=#[.slice A0_0 l0_0.length c0_0]) (t:=29) hr_ ?_;intro gb209 hg w4 hbox hb;replace HO0_0:=am (Kd.V_below (Kd.V_elderB (by (with_reducible repeat (first | apply Kd.V_alloc | apply Kd.V_drewN | apply Kd.V_drew));exact HO0_0.out) gb209 (Nat.le_of_eq hg.symm)) hb);have BK209:=am hbox;have GW209:=gwE HB hg;have GE209:=gwE HB hg;replace HB:=hbS HB hb;clear hb hbox hg) | ((with_reducible refine gD 4 rfl ?_);refine box_event rfl (N:=4) rfl (cs:=#[.slice none 0 0]) (t:=29) hr_ ?_;intro gb210 hg w5 hbox hb;replace HO0_0:=am (Kd.V_below (Kd.V_elderB (by (with_reducible repeat (first | apply Kd.V_alloc | apply Kd.V_drewN | apply Kd.V_drew));exact HO0_0.out) gb210 (Nat.le_of_eq hg.symm)) hb);have BK210:=am hbox;have GW210:=gwE HB hg;have GE210:=gwE HB hg;replace HB:=hbS HB hb;have NB209_210:=neL BK209 hg;have NB210_209:=neG BK209 hg;replace BK209:=bkB BK209 hb;clear hb hbox hg) | ((with_reducible refine gC 48 rfl ?_);refine gL (some 14) Tryz.func48 #[.string a1] ?_;(with_reducible refine (spec_StrLines.calls k a1 t211 t212 _ A3.out).mono ?_);rintro e w6 ⟨v213,rfl,ho0,hb⟩;refine ⟨_,rfl,?_⟩;replace HO0_0:=am (Kd.V_elder' (by (with_reducible repeat (first | apply Kd.V_alloc | apply Kd.V_drewN | apply Kd.V_drew));exact HO0_0.out) (Kd.R_base ho0) hb);have HO214:=am (Kd.R_lower (Kd.R_newM (M:=fun k_=>(w.heap.size ≤ k_)) ho0 (below_size (bl HB)) (fun k_ h_=>h_)) (below_size (bl HB)));replace BK209:=bkB BK209 hb;replace BK210:=bkB BK210 hb;replace HB:=hbS HB hb;(try clear hb);(try clear ho0)))
 go_loopg [8,9] k (fun kq v8 v9 w'=>∃ (x8_1 : ByteArray) (x9_1 : Int) (x210000_1 : List (S55)) (u210000 : Value),v8 = .string x8_1 ∧ v9 = .int .i64 x9_1 ∧ Aside0 (spec_l3StreamV.l0 kq t211 x8_1 x9_1 x210000_1 = some (r1,r2)) ∧ Aside0 (kq ≤ k) ∧ Aside0 (Kd.R Kd.string 9 w' w.heap.size (fun k_=>(w.heap.size ≤ k_)) v213 t211) ∧ Aside0 (Kd.V k55 55 w' w.heap.size (fun k_=>(P0_0_ k_ ∨ w.heap.size ≤ k_) ∧ some k_ ≠ (v213 : Value).ownBlock ∧ k_ ≠ gb209 ∧ k_ ≠ gb210) u210000 x210000_1) ∧ Aside0 (w'.heap[gb209]? = some (.cells #[u210000] 29 (0,0))) ∧ Aside0 (w'.heap[gb210]? = some (.cells #[(.slice none 0 0)] 29 (0,0))) ∧ Aside0 (Below w.heap.size w w'))
 case atStart=>exact ⟨((⟨#[]⟩ : ByteArray)),(0),(l0_0),(.slice A0_0 l0_0.length c0_0),rs_,rs_,H',⟨Nat.le_refl _⟩,⟨by (with_reducible repeat apply ru);exact Kd.R_mono HO214.out (fun _ hk=>hk.1)⟩,⟨by (with_reducible repeat (first | apply Kd.V_alloc | apply Kd.V_drewN | apply Kd.V_drew));exact Kd.V_mono HO0_0.out ok_⟩,⟨bk BK209⟩,⟨bk BK210⟩,⟨m2_⟩⟩
 case round=>
  clear H'
  try clear p2
  try clear c4
  try clear c6
  obtain ⟨x8_1,x9_1,x210000_1,u210000,rfl,rfl,HA,HK1,HO_6,HO_210000,BK209,BK210,HB⟩:=hrel
  cases gk with
  | zero=>exact absurd HA.out (by simp [spec_l3StreamV.l0])
  | succ k1=>
   have H:=HA.out
   clear HA
   simp only [spec_l3StreamV.l0] at H
   by_cases c7 : x9_1 < (t211.length : Int)
   ·rw [if_pos c7] at H
    have c7b0 : decide (x9_1 < (t211.length : Int)) = true:=decide_eq_true c7
    clear c7
    by_cases c8 : 0 ≤ x9_1
    ·rw [if_pos c8] at H
     have c8b0 : decide (0 ≤ x9_1) = true:=decide_eq_true c8
     clear c8
     obtain ⟨⟨t216,t219⟩,A9,H⟩:=bse H
     try dsimp only at H
     by_cases c10 : x8_1.size + t219.size ≤ 9223372036854775807
     ·rw [if_pos c10] at H
      have c10b0:=eq_true c10
      have c10b1 : decide (x8_1.size + t219.size ≤ 9223372036854775807) = true:=decide_eq_true c10
      try have c10b2 : (9223372036854775807 < x8_1.size + t219.size) = False:=eq_false (Nat.not_lt.2 c10)
      by_cases c11 : (x8_1 ++ t219).size + 1 ≤ 9223372036854775807
      ·rw [if_pos c11] at H
       have c11b0:=eq_true c11
       have c11b1 : decide ((x8_1 ++ t219).size + 1 ≤ 9223372036854775807) = true:=decide_eq_true c11
       try have c11b2 : (9223372036854775807 < (x8_1 ++ t219).size + 1) = False:=eq_false (Nat.not_lt.2 c11)
       try have c11b3 : (9223372036854775807 < x8_1.size + t219.size + 1) = False:=(by have z_:=c11b2;simp only [ByteArray.size_append] at z_;exact z_)
       have H':=am H
       clear H
       obtain ⟨Ao12,co12,eo12⟩:=Kd.R_slice HO_6.out
       subst eo12
       obtain ⟨Ao13,co13,eo13⟩:=Kd.V_slice HO_210000.out
       subst eo13
       try go_wp2
       replace HO_6:=am (Kd.R_drew HO_6.out)
       replace HO_210000:=am (Kd.V_drew HO_210000.out)
       replace BK209:=am (blk_drew BK209.out)
       replace BK210:=am (blk_drew BK210.out)
       replace HB:=am (below_drew1 HB.out)
       have p215 : 0 ≤ (x9_1 : Int):=of_decide_eq_true da_
       have q215 : x9_1 < (t211.length : Int):=of_decide_eq_true da_
       obtain ⟨ad215,e215,hx215_0⟩:=Kd.at_string (Kd.R_reads' HO_6.out).2.2 x9_1 p215 q215
       cases e215
       replace p215:=eq_true p215
       replace q215:=eq_true q215
       refine start_ (n:=12) (S:=fun w'=>w'.cell? ⟨gb209,0,none⟩ = some (.slice Ao13 x210000_1.length co13) ∧ w'.cell? (ad215.add (x9_1).toNat) = some (.string (rdOf ByteArray.empty t211 x9_1))) (ds:=[]) #[false,false,false,false,false,false,false,false,false,false,false,false] (by kernel_rfl) rfl rfl ⟨bcell BK209 0,hx215_0⟩ (fun hHeld=>?_);refine with_tabW spec_l3StreamV.tab6 spec_l3StreamV.bits6 (fun HT_ HW_=>?_)
       generalize wr.drew = w14 at HO_6 HO_210000 BK209 BK210 HB hx215_0 hHeld ⊢
       refine pu_ 1 (some 25) (bm 12 2) ?_
       refine pu_ 2 (some 26) (bm 12 6) ?_
       refine pu_ 3 (some 27) (bm 12 14) ?_
       refine tk_ 0 (some 24) (bm 12 15) rfl (.inl ⟨rfl,m4_⟩) ?_
       refine tk_ 4 (some 28) (bm 12 31) rfl (.inl ⟨rfl,m4_⟩) ?_
       refine join_ (σ:=Value × Nat) 2 #[true,true,true,true,true,true,true,true,true,true,false,false] (fun s_=>[(29,.tuple #[.agg #[s_.1],.string t219]),(10,.pointer (some ⟨s_.2,0,none⟩)),(23,.tuple #[.agg #[s_.1],.string t219]),(30,.agg #[s_.1]),(31,.string t219)]) (fun s_ w'=>(w'.cell? ⟨gb209,0,none⟩ = some (.slice Ao13 x210000_1.length co13) ∧ w'.cell? (ad215.add (x9_1).toNat) = some (.string (rdOf ByteArray.empty t211 x9_1))) ∧ (Kd.V k55 55 w' w.heap.size (fun k_=>(P0_0_ k_ ∨ w.heap.size ≤ k_) ∧ some k_ ≠ (.slice (some ad215) t211.length co12 : Value).ownBlock ∧ k_ ≠ gb209 ∧ k_ ≠ gb210 ∧ k_ ≠ s_.2) s_.1 t216) ∧ (Kd.V k55 55 w' w.heap.size (fun k_=>(P0_0_ k_ ∨ w.heap.size ≤ k_) ∧ some k_ ≠ (.slice (some ad215) t211.length co12 : Value).ownBlock ∧ k_ ≠ gb209 ∧ k_ ≠ gb210 ∧ k_ ≠ s_.2) (.slice Ao13 x210000_1.length co13) x210000_1) ∧ (Kd.R Kd.string 9 w' w.heap.size (fun k_=>(w.heap.size ≤ k_)) (.slice (some ad215) t211.length co12) t211) ∧ (w'.heap[gb209]? = some (.cells #[.slice Ao13 x210000_1.length co13] 29 (0,0))) ∧ (w'.heap[gb210]? = some (.cells #[.slice none 0 0] 29 (0,0))) ∧ (w'.heap[s_.2]? = some (.cells #[.slice none 0 0] 29 (0,0))) ∧ (w.heap.size ≤ s_.2) ∧ (w.heap.size ≤ s_.2) ∧ (gb209 ≠ s_.2) ∧ (s_.2 ≠ gb209) ∧ (gb210 ≠ s_.2) ∧ (s_.2 ≠ gb210) ∧ (Below w.heap.size w w')) ?_ ?_
       rotate_left
       ·intro hCont
        refine two_ (i:=5) (j:=9) (Ni:=some 29) (Nj:=some 10) #[true,true,true,true,true,true,false,false,false,false,false,false] #[true,true,true,true,true,false,false,false,false,true,false,false] rfl rfl rfl rfl (two_of HT_.out (by kernel_rfl)) (by decide) (by decide) (fun K hK=>?_) (fun K hK=>?_)
        ·skip
         refine gR Tryz.func90 #[.agg #[.slice Ao13 x210000_1.length co13],.string (rdOf ByteArray.empty t211 x9_1)] ?_
         with_reducible refine (spec_l3LineV.calls k1 (fun k_=>((P0_0_ k_ ∨ w.heap.size ≤ k_) ∧ (some k_ ≠ (.slice (some ad215) t211.length co12 : Value).ownBlock ∧ (k_ ≠ gb209 ∧ k_ ≠ gb210)))) _ _ x210000_1 (rdOf ByteArray.empty t211 x9_1) t216 t219 _ ?side1 A9.out).mono ?_
         (case side1=>exact HO_210000.out)
         rintro e w15 ⟨v217,rfl,ho0,hb⟩
         have HS1_:=bch hb (hHeld.2)
         refine ⟨_,rfl,?_⟩
         replace HO_210000:=am (Kd.V_below (by (with_reducible repeat (first | apply Kd.V_alloc | apply Kd.V_drewN | apply Kd.V_drew));exact HO_210000.out) hb)
         have HO218:=am (Kd.V_lower (Kd.V_mono (ok':=fun k_=>(P0_0_ k_ ∨ w.heap.size ≤ k_) ∧ some k_ ≠ (.slice (some ad215) t211.length co12 : Value).ownBlock ∧ k_ ≠ gb209 ∧ k_ ≠ gb210) ho0 (fun k_ hk_=>⟨Or.elim hk_ (fun hs_=>hs_.1) (fun hn_=>(.inr (Nat.le_trans (below_size (bl HB)) hn_))),Or.elim hk_ (fun hs_=>hs_.2.1) (fun hn_=>(Kd.fresh' (Kd.R_lt (rs HO_6)) k_ hn_)),Or.elim hk_ (fun hs_=>hs_.2.2.1) (fun hn_=>(Kd.freshB (g:=gb209) (o:=.cells #[.slice Ao13 x210000_1.length co13] 29 (0,0)) (bk BK209) k_ hn_)),Or.elim hk_ (fun hs_=>hs_.2.2.2) (fun hn_=>(Kd.freshB (g:=gb210) (o:=.cells #[.slice none 0 0] 29 (0,0)) (bk BK210) k_ hn_))⟩)) (below_size (bl HB)))
         replace HO_6:=am (Kd.R_below (rs HO_6) hb)
         replace BK209:=bkB BK209 hb
         replace BK210:=bkB BK210 hb
         replace HB:=hbS HB hb
         (try clear hb)
         (try clear hb2)
         (try clear hk)
         (try clear hi)
         (try clear ho0)
         refine hK.out _ _ ⟨bcell BK209 0,HS1_⟩ (fun hHeld=>?_)
         clear hK K
         refine nm_ ?_
         refine pu_ 6 (some 23) (bm 12 127) ?_
         refine pu_ 7 (some 30) (bm 12 255) ?_
         refine pu_ 8 (some 31) (bm 12 511) ?_
         refine on_ 9 (some 10) (bm 12 1023) (fun K hK=>?_)
         refine box_step rfl (N:=10) rfl (cs:=#[.slice none 0 0]) (t:=29) hr_ ?_
         intro gb220 hg w16 hbox hb
         have HS1_:=bch hb (hHeld.2)
         replace HO_6:=am (Kd.R_below (rs HO_6) hb)
         replace HO_210000:=am (Kd.V_below (Kd.V_elderB (by (with_reducible repeat (first | apply Kd.V_alloc | apply Kd.V_drewN | apply Kd.V_drew));exact HO_210000.out) gb220 (Nat.le_of_eq hg.symm)) hb)
         replace HO218:=am (Kd.V_below (Kd.V_elderB (by (with_reducible repeat (first | apply Kd.V_alloc | apply Kd.V_drewN | apply Kd.V_drew));exact HO218.out) gb220 (Nat.le_of_eq hg.symm)) hb)
         have BK220:=am hbox
         have GW220:=gwE HB hg
         have GE220:=gwE HB hg
         replace HB:=hbS HB hb
         have NB209_220:=neL BK209 hg
         have NB220_209:=neG BK209 hg
         replace BK209:=bkB BK209 hb
         have NB210_220:=neL BK210 hg
         have NB220_210:=neG BK210 hg
         replace BK210:=bkB BK210 hb
         clear hb hbox hg
         refine hK.out _ _ ⟨bcell BK209 0,HS1_⟩ (fun hHeld=>?_)
         clear hK K
         refine nm_ ?_
         exact norm_ (by simp only [putAll,Act.put,List.setIfInBounds_toArray,List.set_cons_zero,List.set_cons_succ]) (hCont (v217,gb220) _ ⟨hHeld,(by (with_reducible repeat (first | apply Kd.V_alloc | apply Kd.V_drewN | apply Kd.V_drew));exact Kd.V_mono HO218.out ok_),(by (with_reducible repeat (first | apply Kd.V_alloc | apply Kd.V_drewN | apply Kd.V_drew));exact Kd.V_mono HO_210000.out ok_),(rs HO_6),(bk BK209),(bk BK210),(bk BK220),GW220.out,GE220.out,NB209_220.out,NB220_209.out,NB210_220.out,NB220_210.out,(bl HB)⟩)
        ·skip
         refine box_step rfl (N:=10) rfl (cs:=#[.slice none 0 0]) (t:=29) hr_ ?_
         intro gb220 hg w15 hbox hb
         have HS1_:=bch hb (hHeld.2)
         replace HO_6:=am (Kd.R_below (rs HO_6) hb)
         replace HO_210000:=am (Kd.V_below (Kd.V_elderB (by (with_reducible repeat (first | apply Kd.V_alloc | apply Kd.V_drewN | apply Kd.V_drew));exact HO_210000.out) gb220 (Nat.le_of_eq hg.symm)) hb)
         have BK220:=am hbox
         have GW220:=gwE HB hg
         have GE220:=gwE HB hg
         replace HB:=hbS HB hb
         have NB209_220:=neL BK209 hg
         have NB220_209:=neG BK209 hg
         replace BK209:=bkB BK209 hb
         have NB210_220:=neL BK210 hg
         have NB220_210:=neG BK210 hg
         replace BK210:=bkB BK210 hb
         clear hb hbox hg
         refine hK.out _ _ ⟨bcell BK209 0,HS1_⟩ (fun hHeld=>?_)
         clear hK K
         refine nm_ ?_
         refine on_ 5 (some 29) (bm 12 575) (fun K hK=>?_)
         refine gR Tryz.func90 #[.agg #[.slice Ao13 x210000_1.length co13],.string (rdOf ByteArray.empty t211 x9_1)] ?_
         with_reducible refine (spec_l3LineV.calls k1 (fun k_=>(((P0_0_ k_ ∨ w.heap.size ≤ k_) ∧ (some k_ ≠ (.slice (some ad215) t211.length co12 : Value).ownBlock ∧ (k_ ≠ gb209 ∧ k_ ≠ gb210))) ∧ k_ ≠ gb220)) _ _ x210000_1 (rdOf ByteArray.empty t211 x9_1) t216 t219 _ ?side1 A9.out).mono ?_
         (case side1=>exact HO_210000.out)
         rintro e w16 ⟨v217,rfl,ho0,hb⟩
         have HS1_:=bch hb (hHeld.2)
         refine ⟨_,rfl,?_⟩
         replace HO_210000:=am (Kd.V_below (by (with_reducible repeat (first | apply Kd.V_alloc | apply Kd.V_drewN | apply Kd.V_drew));exact HO_210000.out) hb)
         have HO218:=am (Kd.V_lower (Kd.V_mono (ok':=fun k_=>(P0_0_ k_ ∨ w.heap.size ≤ k_) ∧ some k_ ≠ (.slice (some ad215) t211.length co12 : Value).ownBlock ∧ k_ ≠ gb209 ∧ k_ ≠ gb210 ∧ k_ ≠ gb220) ho0 (fun k_ hk_=>⟨Or.elim hk_ (fun hs_=>hs_.1.1) (fun hn_=>(.inr (Nat.le_trans (below_size (bl HB)) hn_))),Or.elim hk_ (fun hs_=>hs_.1.2.1) (fun hn_=>(Kd.fresh' (Kd.R_lt (rs HO_6)) k_ hn_)),Or.elim hk_ (fun hs_=>hs_.1.2.2.1) (fun hn_=>(Kd.freshB (g:=gb209) (o:=.cells #[.slice Ao13 x210000_1.length co13] 29 (0,0)) (bk BK209) k_ hn_)),Or.elim hk_ (fun hs_=>hs_.1.2.2.2) (fun hn_=>(Kd.freshB (g:=gb210) (o:=.cells #[.slice none 0 0] 29 (0,0)) (bk BK210) k_ hn_)),Or.elim hk_ (fun hs_=>hs_.2) (fun hn_=>(Kd.freshB (g:=gb220) (o:=.cells #[.slice none 0 0] 29 (0,0)) (bk BK220) k_ hn_))⟩)) (below_size (bl HB)))
         replace HO_6:=am (Kd.R_below (rs HO_6) hb)
         replace BK209:=bkB BK209 hb
         replace BK210:=bkB BK210 hb
         replace BK220:=bkB BK220 hb
         replace HB:=hbS HB hb
         (try clear hb)
         (try clear hb2)
         (try clear hk)
         (try clear hi)
         (try clear ho0)
         refine hK.out _ _ ⟨bcell BK209 0,HS1_⟩ (fun hHeld=>?_)
         clear hK K
         refine nm_ ?_
         refine pu_ 6 (some 23) (bm 12 639) ?_
         refine pu_ 7 (some 30) (bm 12 767) ?_
         refine pu_ 8 (some 31) (bm 12 1023) ?_
         exact norm_ (by simp only [putAll,Act.put,List.setIfInBounds_toArray,List.set_cons_zero,List.set_cons_succ]) (hCont (v217,gb220) _ ⟨hHeld,(by (with_reducible repeat (first | apply Kd.V_alloc | apply Kd.V_drewN | apply Kd.V_drew));exact HO218.out),(by (with_reducible repeat (first | apply Kd.V_alloc | apply Kd.V_drewN | apply Kd.V_drew));exact Kd.V_mono HO_210000.out ok_),(rs HO_6),(bk BK209),(bk BK210),(bk BK220),GW220.out,GE220.out,NB209_220.out,NB220_209.out,NB210_220.out,NB220_210.out,(bl HB)⟩)
       rintro ⟨v217,gb220⟩ w17 ⟨hS_,h0_,h1_,h2_,h3_,h4_,h5_,h6_,h7_,h8_,h9_,h10_,h11_,h12_⟩
       have n0_ : Aside0 (Kd.V k55 55 w17 w.heap.size (fun k_=>(P0_0_ k_ ∨ w.heap.size ≤ k_) ∧ some k_ ≠ (.slice (some ad215) t211.length co12 : Value).ownBlock ∧ k_ ≠ gb209 ∧ k_ ≠ gb210 ∧ k_ ≠ gb220) v217 t216):=⟨h0_⟩
       have n1_ : Aside0 (Kd.V k55 55 w17 w.heap.size (fun k_=>(P0_0_ k_ ∨ w.heap.size ≤ k_) ∧ some k_ ≠ (.slice (some ad215) t211.length co12 : Value).ownBlock ∧ k_ ≠ gb209 ∧ k_ ≠ gb210 ∧ k_ ≠ gb220) (.slice Ao13 x210000_1.length co13) x210000_1):=⟨h1_⟩
       have n2_ : Aside0 (Kd.R Kd.string 9 w17 w.heap.size (fun k_=>(w.heap.size ≤ k_)) (.slice (some ad215) t211.length co12) t211):=⟨h2_⟩
       have n3_ : Aside0 (w17.heap[gb209]? = some (.cells #[.slice Ao13 x210000_1.length co13] 29 (0,0))):=⟨h3_⟩
       have n4_ : Aside0 (w17.heap[gb210]? = some (.cells #[.slice none 0 0] 29 (0,0))):=⟨h4_⟩
       have n5_ : Aside0 (w17.heap[gb220]? = some (.cells #[.slice none 0 0] 29 (0,0))):=⟨h5_⟩
       have n6_ : Aside0 (w.heap.size ≤ gb220):=⟨h6_⟩
       have n7_ : Aside0 (w.heap.size ≤ gb220):=⟨h7_⟩
       have n8_ : Aside0 (gb209 ≠ gb220):=⟨h8_⟩
       have n9_ : Aside0 (gb220 ≠ gb209):=⟨h9_⟩
       have n10_ : Aside0 (gb210 ≠ gb220):=⟨h10_⟩
       have n11_ : Aside0 (gb220 ≠ gb210):=⟨h11_⟩
       have n12_ : Aside0 (Below w.heap.size w w17):=⟨h12_⟩
       clear HO_6
       clear HO_210000
       clear BK209
       clear BK210
       clear HB
       clear h0_ h1_ h2_ h3_ h4_ h5_ h6_ h7_ h8_ h9_ h10_ h11_ h12_
       have HO218:=n0_
       have HO_210000:=n1_
       have HO_6:=n2_
       have BK209:=n3_
       have BK210:=n4_
       have BK220:=n5_
       have GW220:=n6_
       have GE220:=n7_
       have NB209_220:=n8_
       have NB220_209:=n9_
       have NB210_220:=n10_
       have NB220_210:=n11_
       have HB:=n12_
       clear n0_ n1_ n2_ n3_ n4_ n5_ n6_ n7_ n8_ n9_ n10_ n11_ n12_
       have hHeld : w17.cell? ⟨gb209,0,none⟩ = some (.slice Ao13 x210000_1.length co13) ∧ w17.cell? (ad215.add (x9_1).toNat) = some (.string (rdOf ByteArray.empty t211 x9_1)):=hS_
       obtain ⟨Ao18,co18,eo18⟩:=Kd.V_slice HO218.out
       (first | subst eo18 | (injection eo18 with f1_ f2_ f3_;have f4_:=f1_.symm;have f5_:=f3_.symm;clear f1_ f2_ f3_;subst f4_;subst f5_))
       refine norm_ (a':=?_) ?_ ?_
       rotate_left
       ·simp only [putAll,Act.put,List.setIfInBounds_toArray,List.set_cons_zero,List.set_cons_succ]
        rfl
       refine on_ 10 none (bm 12 2047) (fun K hK=>?_)
       have : w17.cell? ⟨gb220,0,none⟩ = some (.slice none 0 0):=bcell BK220 0
       have:=bfz BK220 0
       have:=NB209_220.out
       have:=NB210_220.out
       have:=NB220_209.out
       have:=NB220_210.out
       refine skip_ (w1:=?_) (by rfl) rfl ?_ ?_
       rotate_left
       ·go_simp
        rfl
       refine hK.out _ _ ⟨((cell_far (p:=⟨gb220,_,none⟩) NB209_220.out _).trans (hHeld.1)),((cell_far (p:=⟨gb220,_,none⟩) (by first | exact Kd.own_blk (Kd.R_ne HO_6.out BK220.out (by decide)) | (rw [add_block];exact Kd.own_blk (Kd.R_ne HO_6.out BK220.out (by decide))) | (show (Addr.add _ _).block ≠ _;rw [add_block];exact Kd.own_blk (Kd.R_ne HO_6.out BK220.out (by decide))) | (dsimp only;exact Kd.own_blk (Kd.R_ne HO_6.out BK220.out (by decide)))) _).trans (hHeld.2))⟩ (fun hHeld=>?_)
       clear hK K
       refine pu_ 11 (some 11) (bm 12 4095) ?_
       refine done_ (done_of HT_.out (by kernel_rfl)) ?_
       have:=NB220_209.out
       have:=NB209_220.out
       have:=NB220_210.out
       have:=NB210_220.out
       have:=bcell BK220 0
       have:=bfz BK220 0
       have:=NB209_210.out
       have:=NB210_209.out
       have:=bcell BK209 0
       have:=bfz BK209 0
       try go_wp2
       go_roundg k1
       case measure=>have:=HK1.out;omega
       case rel=>exact ⟨((x8_1 ++ t219) ++ (⟨#[59]⟩ : ByteArray)),(wrap64 (x9_1 + 1)),(t216),(.slice Ao18 t216.length co18),rs_,rs_,H',⟨by have:=HK1.out;omega⟩,⟨by (with_reducible repeat apply ru);exact Kd.R_mono (Kd.R_far (p:=⟨gb209,0,none⟩) (Kd.R_far (p:=⟨gb220,0,none⟩) (Kd.R_types (Kd.R_types HO_6.out BK220.out (by decide)) BK209.out (by decide)) (fun _ hk=>hk.1.2) (.slice Ao18 t216.length co18)) (fun _ hk=>hk.2) (.slice Ao18 t216.length co18)) (fun _ hk=>hk.1.1)⟩,⟨by (with_reducible repeat (first | apply Kd.V_alloc | apply Kd.V_drewN | apply Kd.V_drew));exact Kd.V_mono (Kd.V_far (p:=⟨gb209,0,none⟩) (Kd.V_far (p:=⟨gb220,0,none⟩) (Kd.V_mono (Kd.V_mono HO218.out (fun k_ hk=>(⟨hk,hk.2.2.2.2⟩ : _ ∧ k_ ≠ gb220))) (fun k_ hk=>(⟨hk,hk.1.2.2.1⟩ : _ ∧ k_ ≠ gb209))) (fun _ hk=>hk.1.2) (.slice Ao18 t216.length co18)) (fun _ hk=>hk.2) (.slice Ao18 t216.length co18)) ok_⟩,⟨by (with_reducible repeat refine bu ?_);refine blk_put (cs:=#[.slice Ao13 x210000_1.length co13]) ?_ 0 _ rfl;(with_reducible repeat refine bu ?_);refine blk_far ?_ NB209_220.out _;(with_reducible repeat refine bu ?_);exact BK209.out⟩,bf_ BK210,⟨m2_⟩⟩
      ·rw [if_neg c11] at H
       exact absurd H (by simp)
     ·rw [if_neg c10] at H
      exact absurd H (by simp)
    ·rw [if_neg c8] at H
     exact absurd H (by simp)
   ·rw [if_neg c7] at H
    have c7b0 : decide (x9_1 < (t211.length : Int)) = false:=decide_eq_false c7
    clear c7
    simp only [Option.some.injEq,Prod.mk.injEq] at H
    obtain ⟨rfl,rfl⟩:=H
    obtain ⟨Ao25,co25,eo25⟩:=Kd.R_slice HO_6.out
    subst eo25
    have:=NB209_210.out
    have:=NB210_209.out
    have:=bcell BK209 0
    have:=bfz BK209 0
    obtain ⟨Ao28,co28,eo28⟩:=Kd.V_slice HO_210000.out
    subst eo28
    have:=bcell BK210 0
    have:=bfz BK210 0
    go_wp2
    refine bodyPost_ret (results_ct rfl _ _ gb210 29 #[.slice Ao28 x210000_1.length co28] (0,0) _ rfl (by (with_reducible repeat refine bu ?_);refine blk_put (cs:=#[.slice none 0 0]) ?_ 0 _ rfl;(with_reducible repeat refine bu ?_);exact BK210.out) Tryz.underlying29 rfl (by kernel_rfl)) rfl ?_
    exact ⟨_,fi_,by (with_reducible repeat (first | apply Kd.V_alloc | apply Kd.V_drewN | apply Kd.V_drew));exact Kd.V_mono (Kd.V_far (p:=⟨gb210,0,none⟩) (Kd.V_mono HO_210000.out (fun k_ hk=>(⟨hk,hk.2.2.2⟩ : _ ∧ k_ ≠ gb210))) (fun _ hk=>hk.2) (.slice Ao28 x210000_1.length co28)) (fun _ hk=>hk.1.1),m2_⟩
def spec_l4Pairs.l0 : Nat → List ByteArray → List ByteArray → List (S50) → Int → Int → Int → Option ((List (S50)))
 | 0,_,_,_,_,_,_=>none
 | k + 1,x0,x1,x5,x6,x7,x8=>if x8 < (x0.length : Int) then (if x8 < (x1.length : Int) then (if 0 ≤ x8 then (if x5.length < 3518437208883 then (spec_l4Pairs.l0 k x0 x1 (x5 ++ [(⟨x6,wrap64 ((wrap64 (x6 + ((rdOf ByteArray.empty x0 x8).size : Int))) + 1),x7,wrap64 ((wrap64 (x7 + ((rdOf ByteArray.empty x1 x8).size : Int))) + 1),((rdOf ByteArray.empty x1 x8).toList == (rdOf ByteArray.empty x0 x8).toList)⟩ : S50)]) (wrap64 ((wrap64 (x6 + ((rdOf ByteArray.empty x0 x8).size : Int))) + 1)) (wrap64 ((wrap64 (x7 + ((rdOf ByteArray.empty x1 x8).size : Int))) + 1)) (wrap64 (x8 + 1))) else (none)) else (none)) else (some x5)) else (some x5)
def spec_l4Pairs.f (k : Nat) (l0 : List ByteArray) (l1 : List ByteArray) : Option ((List (S50))):=spec_l4Pairs.l0 k l0 l1 (([] : List (S50))) 0 0 0
def spec_l4Pairs.T8 : Bool × List (List Nat × List Nat):=(true,[([],[]),([],[]),([],[]),([],[]),([],[]),([3,4],[3,4]),([5],[5]),([6],[6]),([2,7],[2,7]),([8],[8]),([],[]),([],[]),([],[]),([12],[12]),([11,13],[11,13]),([14],[14]),([],[]),([],[]),([],[]),([17,18],[17,18]),([19],[19]),([16,20],[16,20]),([1,9,10,15,21],[1,9,10,15,21]),([22],[22]),([0,23],[0,23]),([24,24,0,1,2,3,4,5,6,7,8,9,10,11,12,13,14,15,16,17,18,19,20,21,22,23,24],[0,24])])
def spec_l4Pairs.B8 : List Nat:=[0,0,0,0,0,24,56,120,252,508,0,0,0,4096,14336,30720,0,0,0,393216,917504,2031616,4194302,8388606,16777215,33554431]
theorem spec_l4Pairs.tab8 : rtab .any (opsOf Tryz.f91 8) = spec_l4Pairs.T8:=by kernel_rfl
theorem spec_l4Pairs.bits8 : waitsOk spec_l4Pairs.T8.2 spec_l4Pairs.B8 = true:=by kernel_rfl
set_option maxHeartbeats 8000000 in
set_option maxRecDepth 100000 in
theorem spec_l4Pairs.calls (k : Nat) (A0 : Option Addr) (c0 : Nat) (l0 : List ByteArray) (A1 : Option Addr) (c1 : Nat) (l1 : List ByteArray) (r : List (S50)) (w : World) (hr0 : Kd.C Kd.string w A0 l0.length l0) (hc0 : l0.length ≤ c0) (hr1 : Kd.C Kd.string w A1 l1.length l1) (hc1 : l1.length ≤ c1) (h : spec_l4Pairs.f k l0 l1 = some r) :
  Calls Tryz.prog 91 #[.slice A0 l0.length c0,.slice A1 l1.length c1] w fun e w'=>∃ v0_ : Value,e = .returned (v0_) ∧ Kd.R k50 50 w' w.heap.size (fun _=>True) v0_ r ∧ Below w.heap.size w w':=by
 have hu50:=Tryz.underlying50
 have HR0:=am hr0
 have HC0:=am hc0
 clear hr0 hc0
 have HR1:=am hr1
 have HC1:=am hc1
 clear hr1 hc1
 have HB:=am (Below.refl w.heap.size w)
 have H : (spec_l4Pairs.l0 k l0 l1 (([] : List (S50))) 0 0 0) = some r:=h
 clear h
 obtain ⟨y221,hy221⟩ : ∃ y_ : List (S50),y_ = (([] : List (S50))):=⟨_,rfl⟩
 replace H : (spec_l4Pairs.l0 k l0 l1 y221 0 0 0) = some r:=by first | (rw [hy221];with_reducible exact H) | (have H2_:=(Option.bind_some _ _).symm.trans H;rw [hy221];with_reducible exact H2_) | (have H2_:=(Option.bind_some _ _).symm.trans H;with_reducible exact H2_) | with_reducible exact H | (rw [hy221];exact H) | exact H
 have Ny221:=am hy221
 clear hy221
 have H':=am H
 clear H
 go_enter Tryz.func91,Tryz.ntmps91
 go_wp2_with (first | ((with_reducible refine gD 10 rfl ?_);refine Kd.R_lit k50 _ 50 rfl (N:=10) rfl (xs:=([] : List (S50))) (inner:=[]) (ok:=fun _=>True) (okp:=fun _=>True) hr_ ?hp (fun _ hk=>hk) trivial (Below.refl _ _) (Nat.le_refl _) (by simp) ?_;(case hp=>exact (Reps.none _ _));intro v222 w3 ho4 hb hg_ hnew_;clear hg_ hnew_;(first | rw [← Ny221.out] at ho4 | (simp only [Int.reduceToNat] at ho4;rw [← Ny221.out] at ho4));have HO223:=am (Kd.R_lower ho4 (below_size (bl HB)));replace HB:=hbS HB hb;clear hb ho4))
 go_loopg [5,6,7,8] k (fun kq v5 v6 v7 v8 w'=>∃ (x5_1 : List (S50)) (x6_1 : Int) (x7_1 : Int) (x8_1 : Int),v6 = .int .i64 x6_1 ∧ v7 = .int .i64 x7_1 ∧ v8 = .int .i64 x8_1 ∧ Aside0 (spec_l4Pairs.l0 kq l0 l1 x5_1 x6_1 x7_1 x8_1 = some r) ∧ Aside0 (kq ≤ k) ∧ Aside0 (Kd.R k50 50 w' w.heap.size (fun _=>True) v5 x5_1) ∧ Aside0 (Below w.heap.size w w'))
 case atStart=>exact ⟨(y221),(0),(0),(0),rs_,rs_,rs_,H',⟨Nat.le_refl _⟩,⟨by (with_reducible repeat apply ru);exact HO223.out⟩,⟨m0_⟩⟩
 case round=>
  clear H'
  try clear c1
  try clear p2
  obtain ⟨x5_1,x6_1,x7_1,x8_1,rfl,rfl,rfl,HA,HK1,HO_5,HB⟩:=hrel
  cases gk with
  | zero=>exact absurd HA.out (by simp [spec_l4Pairs.l0])
  | succ k1=>
   have H:=HA.out
   clear HA
   simp only [spec_l4Pairs.l0] at H
   by_cases c5 : x8_1 < (l0.length : Int)
   ·rw [if_pos c5] at H
    have c5b0 : decide (x8_1 < (l0.length : Int)) = true:=decide_eq_true c5
    clear c5
    by_cases c6 : x8_1 < (l1.length : Int)
    ·rw [if_pos c6] at H
     have c6b0 : decide (x8_1 < (l1.length : Int)) = true:=decide_eq_true c6
     clear c6
     by_cases c7 : 0 ≤ x8_1
     ·rw [if_pos c7] at H
      have c7b0 : decide (0 ≤ x8_1) = true:=decide_eq_true c7
      clear c7
      by_cases c8 : x5_1.length < 3518437208883
      ·rw [if_pos c8] at H
       have LMc8:=am c8
       clear c8
       obtain ⟨y227,hy227⟩ : ∃ y_ : List (S50),y_ = (x5_1 ++ [(⟨x6_1,wrap64 ((wrap64 (x6_1 + ((rdOf ByteArray.empty l0 x8_1).size : Int))) + 1),x7_1,wrap64 ((wrap64 (x7_1 + ((rdOf ByteArray.empty l1 x8_1).size : Int))) + 1),((rdOf ByteArray.empty l1 x8_1).toList == (rdOf ByteArray.empty l0 x8_1).toList)⟩ : S50)]):=⟨_,rfl⟩
       replace H : (spec_l4Pairs.l0 k1 l0 l1 y227 (wrap64 ((wrap64 (x6_1 + ((rdOf ByteArray.empty l0 x8_1).size : Int))) + 1)) (wrap64 ((wrap64 (x7_1 + ((rdOf ByteArray.empty l1 x8_1).size : Int))) + 1)) (wrap64 (x8_1 + 1))) = some r:=by first | (rw [hy227];with_reducible exact H) | (have H2_:=(Option.bind_some _ _).symm.trans H;rw [hy227];with_reducible exact H2_) | (have H2_:=(Option.bind_some _ _).symm.trans H;with_reducible exact H2_) | with_reducible exact H | (rw [hy227];exact H) | exact H
       have Ny227:=am hy227
       clear hy227
       have H':=am H
       clear H
       have p224 : 0 ≤ (x8_1 : Int):=of_decide_eq_true da_
       have q224 : x8_1 < (l1.length : Int):=of_decide_eq_true da_
       obtain ⟨ad224,e224,hx224_0⟩:=Kd.at_string HR1.out x8_1 p224 q224
       cases e224
       replace hx224_0:=bcl HB hx224_0
       replace p224:=eq_true p224
       replace q224:=eq_true q224
       try go_wp2
       replace HO_5:=am (Kd.R_drew HO_5.out)
       replace HB:=am (below_drew1 HB.out)
       have p225 : 0 ≤ (x8_1 : Int):=of_decide_eq_true da_
       have q225 : x8_1 < (l0.length : Int):=of_decide_eq_true da_
       obtain ⟨ad225,e225,hx225_0⟩:=Kd.at_string HR0.out x8_1 p225 q225
       have hw225_0:=hx225_0
       cases e225
       replace hx225_0:=bcl HB hx225_0
       replace p225:=eq_true p225
       replace q225:=eq_true q225
       have p226 : 0 ≤ (x8_1 : Int):=of_decide_eq_true da_
       have q226 : x8_1 < (l0.length : Int):=of_decide_eq_true da_
       obtain ⟨ad226,e226,hx226_0⟩:=Kd.at_string HR0.out x8_1 p226 q226
       have hw226_0:=hx226_0
       obtain rfl : ad225 = ad226:=(by injection e226)
       replace hx226_0:=bcl HB hx226_0
       replace p226:=eq_true p226
       replace q226:=eq_true q226
       refine start_ (n:=26) (S:=fun w'=>w'.cell? (ad225.add (x8_1).toNat) = some (.string (rdOf ByteArray.empty l0 x8_1)) ∧ w'.cell? (ad225.add (x8_1).toNat) = some (.string (rdOf ByteArray.empty l0 x8_1))) (ds:=[]) #[false,false,false,false,false,false,false,false,false,false,false,false,false,false,false,false,false,false,false,false,false,false,false,false,false,false] (by kernel_rfl) rfl rfl ⟨(bcl HB hw225_0),(bcl HB hw226_0)⟩ (fun hHeld=>?_);refine with_tabW spec_l4Pairs.tab8 spec_l4Pairs.bits8 (fun HT_ HW_=>?_)
       generalize wr.drew = w9 at HO_5 HB hx225_0 hx226_0 hHeld ⊢
       refine pu_ 0 (some 27) (bm 26 1) ?_
       refine pu_ 1 (some 28) (bm 26 3) ?_
       refine pu_ 2 (some 29) (bm 26 7) ?_
       refine pu_ 3 (some 30) (bm 26 15) ?_
       refine pu_ 4 (some 31) (bm 26 31) ?_
       refine pu_ 5 (some 32) (bm 26 63) ?_
       refine pu_ 10 (some 37) (bm 26 1087) ?_
       refine pu_ 11 (some 38) (bm 26 3135) ?_
       refine pu_ 12 (some 39) (bm 26 7231) ?_
       refine pu_ 13 (some 40) (bm 26 15423) ?_
       refine pu_ 14 (some 41) (bm 26 31807) ?_
       refine pu_ 15 (some 42) (bm 26 64575) ?_
       refine pu_ 16 (some 43) (bm 26 130111) ?_
       refine pu_ 17 (some 44) (bm 26 261183) ?_
       refine pu_ 18 (some 45) (bm 26 523327) ?_
       refine pu_ 19 (some 46) (bm 26 1047615) ?_
       refine tk_ 6 (some 33) (bm 26 1047679) rfl (.inl ⟨rfl,m4_⟩) ?_
       refine pu_ 7 (some 34) (bm 26 1047807) ?_
       refine pu_ 8 (some 35) (bm 26 1048063) ?_
       refine pu_ 9 (some 36) (bm 26 1048575) ?_
       refine tk_ 20 (some 47) (bm 26 2097151) rfl (.inl ⟨rfl,m4_⟩) ?_
       refine pu_ 21 (some 48) (bm 26 4194303) ?_
       refine pu_ 22 (some 49) (bm 26 8388607) ?_
       refine on_ 23 (some 50) (bm 26 16777215) (fun K hK=>?_)
       refine value_ (w1:=?_) (v:=?_) (by rfl) rfl ?_ ?_
       rotate_left 2
       ·go_simp
        constructor
        ·rfl
        ·rfl
       refine hK.out _ _ ⟨(World.cell?_alloc_lt _ _ _ (World.block_lt_of_cell? _ _ ((bcl HB hw225_0)))).trans ((bcl HB hw225_0)),(World.cell?_alloc_lt _ _ _ (World.block_lt_of_cell? _ _ ((bcl HB hw226_0)))).trans ((bcl HB hw226_0))⟩ (fun hHeld=>?_)
       clear hK K
       refine nm_ ?_
       refine on_ 24 (some 51) (bm 26 33554431) (fun K hK=>?_)
       refine Kd.R_append_step k50 (w0:=w) w.heap.size (by rfl) (.tmp 27) (.tmp 50) 33 50 (.agg #[(.int .i64 0),(.int .i64 0),(.int .i64 0),(.int .i64 0),(.bool false)]) 40 rfl Tryz.underlying33 info50 rfl (by decide) (by omega) u5 x5_1 (⟨x6_1,wrap64 ((wrap64 (x6_1 + ((rdOf ByteArray.empty l0 x8_1).size : Int))) + 1),x7_1,wrap64 ((wrap64 (x7_1 + ((rdOf ByteArray.empty l1 x8_1).size : Int))) + 1),((rdOf ByteArray.empty l1 x8_1).toList == (rdOf ByteArray.empty l0 x8_1).toList)⟩ : S50) [.int .i64 x6_1,.int .i64 (wrap64 ((wrap64 (x6_1 + ((rdOf ByteArray.empty l0 x8_1).size : Int))) + 1)),.int .i64 x7_1,.int .i64 (wrap64 ((wrap64 (x7_1 + ((rdOf ByteArray.empty l1 x8_1).size : Int))) + 1)),.bool ((rdOf ByteArray.empty l1 x8_1).toList == (rdOf ByteArray.empty l0 x8_1).toList)] (fun _=>True) (fun _=>False) rfl rfl ?aP (fun _ hk=>hk.elim) ?aF ?aO ?aB ?aS ?aL ?_
       (case aP=>exact k50_mkM _ _ _ (⟨x6_1,wrap64 ((wrap64 (x6_1 + ((rdOf ByteArray.empty l0 x8_1).size : Int))) + 1),x7_1,wrap64 ((wrap64 (x7_1 + ((rdOf ByteArray.empty l1 x8_1).size : Int))) + 1),((rdOf ByteArray.empty l1 x8_1).toList == (rdOf ByteArray.empty l0 x8_1).toList)⟩ : S50))
       (case aB=>exact (bl HB))
       (case aF=>exact (fun _ _=>trivial))
       (case aO=>exact (rs HO_5))
       (case aS=>exact (below_size (bl HB)))
       (case aL=>have:=LMc8.out;omega)
       intro v228 w10 ho hb hg hat
       rw [← Ny227.out] at ho
       replace HB:=am hb
       have HO229:=am (ho)
       clear HO_5
       clear ho hb hg hat
       refine hK.out _ _ ⟨(bcl HB hw225_0),(bcl HB hw226_0)⟩ (fun hHeld=>?_)
       clear hK K
       refine nm_ ?_
       refine pu_ 25 (some 5) (bm 26 67108863) ?_
       refine done_ (done_of HT_.out (by kernel_rfl)) ?_
       have p230 : 0 ≤ (x8_1 : Int):=of_decide_eq_true da_
       have q230 : x8_1 < (l0.length : Int):=of_decide_eq_true da_
       obtain ⟨ad230,e230,hx230_0⟩:=Kd.at_string HR0.out x8_1 p230 q230
       obtain rfl : ad225 = ad230:=(by injection e230)
       replace hx230_0:=bcl HB hx230_0
       replace p230:=eq_true p230
       replace q230:=eq_true q230
       try go_wp2
       go_roundg k1
       case measure=>have:=HK1.out;omega
       case rel=>exact ⟨(y227),(wrap64 ((wrap64 (x6_1 + ((rdOf ByteArray.empty l0 x8_1).size : Int))) + 1)),(wrap64 ((wrap64 (x7_1 + ((rdOf ByteArray.empty l1 x8_1).size : Int))) + 1)),(wrap64 (x8_1 + 1)),rs_,rs_,rs_,H',⟨by have:=HK1.out;omega⟩,⟨by (with_reducible repeat apply ru);exact HO229.out⟩,⟨m0_⟩⟩
      ·rw [if_neg c8] at H
       exact absurd H (by simp)
     ·rw [if_neg c7] at H
      exact absurd H (by simp)
    ·rw [if_neg c6] at H
     have c6b0 : decide (x8_1 < (l1.length : Int)) = false:=decide_eq_false c6
     clear c6
     obtain rfl:=Option.some.inj H
     go_wp2
     go_ret
     exact ⟨_,fi_,by (with_reducible repeat apply ru);exact HO_5.out,m0_⟩
   ·rw [if_neg c5] at H
    have c5b0 : decide (x8_1 < (l0.length : Int)) = false:=decide_eq_false c5
    clear c5
    obtain rfl:=Option.some.inj H
    go_wp2
    go_ret
    exact ⟨_,fi_,by (with_reducible repeat apply ru);exact HO_5.out,m0_⟩
def spec_l4Both.f (k : Nat) (a0 : ByteArray) (a1 : ByteArray) : Option ((List (S50))):=(spec_StrLines.f k a0).bind fun bt231=>((spec_StrLines.f k a1).bind fun bt235=>((spec_l4Pairs.f k bt231.1 bt235.1).bind fun t239=>(some t239)))
set_option maxHeartbeats 8000000 in
set_option maxRecDepth 100000 in
theorem spec_l4Both.calls (k : Nat) (a0 : ByteArray) (a1 : ByteArray) (r : List (S50)) (w : World) (h : spec_l4Both.f k a0 a1 = some r) :
  Calls Tryz.prog 68 #[.string a0,.string a1] w fun e w'=>∃ v0_ : Value,e = .returned (v0_) ∧ Kd.R k50 50 w' w.heap.size (fun _=>True) v0_ r ∧ Below w.heap.size w w':=by
 have HB:=am (Below.refl w.heap.size w)
 have H : ((spec_StrLines.f k a0).bind fun bt231=>((spec_StrLines.f k a1).bind fun bt235=>((spec_l4Pairs.f k bt231.1 bt235.1).bind fun t239=>(some t239)))) = some r:=h
 clear h
 obtain ⟨⟨t231,t232⟩,A3,H⟩:=bse H
 try dsimp only at H
 obtain ⟨⟨t235,t236⟩,A4,H⟩:=bse H
 try dsimp only at H
 obtain ⟨t239,A5,H⟩:=bse H
 try dsimp only at H
 obtain rfl:=Option.some.inj H
 go_enter Tryz.func68,Tryz.ntmps68
 go_wp2_with (first | ((with_reducible refine gC 48 rfl ?_);refine gL (some 11) Tryz.func48 #[.string a0] ?_;(with_reducible refine (spec_StrLines.calls k a0 t231 t232 _ A3.out).mono ?_);rintro e w6 ⟨v233,rfl,ho0,hb⟩;refine ⟨_,rfl,?_⟩;have HO234:=am (Kd.R_lower ho0 (below_size (bl HB)));replace HB:=hbS HB hb;(try clear hb);(try clear ho0)) | ((with_reducible refine gC 48 rfl ?_);refine gL (some 16) Tryz.func48 #[.string a1] ?_;(with_reducible refine (spec_StrLines.calls k a1 t235 t236 _ A4.out).mono ?_);rintro e w7 ⟨v237,rfl,ho0,hb⟩;refine ⟨_,rfl,?_⟩;have HO238:=am (Kd.R_lower (Kd.R_new' ho0 (Kd.R_lt (rs HO234))) (below_size (bl HB)));replace HO234:=am (Kd.R_elder' (rs HO234) (Kd.R_base ho0) hb);replace HB:=hbS HB hb;(try clear hb);(try clear ho0);obtain ⟨Ao8,co8,eo8⟩:=Kd.R_slice HO234.out;subst eo8;obtain ⟨Ao9,co9,eo9⟩:=Kd.R_slice HO238.out;subst eo9) | ((with_reducible refine gC 91 rfl ?_);refine gL (some 21) Tryz.func91 #[.slice Ao8 t231.length co8,.slice Ao9 t235.length co9] ?_;(with_reducible refine (spec_l4Pairs.calls k _ _ t231 _ _ t235 t239 _ ?side1 ?side2 ?side3 ?side4 A5.out).mono ?_);(case side1=>exact rcx HO234);(case side2=>exact (Kd.R_reads' HO234.out).2.1);(case side3=>exact rcx HO238);(case side4=>exact (Kd.R_reads' HO238.out).2.1);rintro e w10 ⟨v240,rfl,ho0,hb⟩;refine ⟨_,rfl,?_⟩;replace HO234:=am (Kd.R_below (rs HO234) hb);replace HO238:=am (Kd.R_below (rs HO238) hb);have HO241:=am (Kd.R_lower ho0 (below_size (bl HB)));replace HB:=hbS HB hb;(try clear hb);(try clear ho0)))
 go_ret
 exact ⟨_,fi_,by (with_reducible repeat apply ru);exact HO241.out,m0_⟩
def spec_l4Spans.f (k : Nat) (l0_0 : List (S55)) (a1 : ByteArray) : Option ((List (S50))):=(spec_l3StreamV.f k l0_0 a1).bind fun bt243=>((spec_l4Both.f k a1 bt243.2).bind fun t248=>(some t248))
set_option maxHeartbeats 8000000 in
set_option maxRecDepth 100000 in
theorem spec_l4Spans.calls (k : Nat) (A0_0 : Option Addr) (c0_0 : Nat) (l0_0 : List (S55)) (a1 : ByteArray) (r : List (S50)) (w : World) (hr0_0 : Kd.C k55 w A0_0 l0_0.length l0_0) (hc0_0 : l0_0.length ≤ c0_0) (h : spec_l4Spans.f k l0_0 a1 = some r) :
  Calls Tryz.prog 42 #[.agg #[.slice A0_0 l0_0.length c0_0],.string a1] w fun e w'=>∃ v0_ : Value,e = .returned (v0_) ∧ Kd.R k50 50 w' w.heap.size (fun _=>True) v0_ r ∧ Below w.heap.size w w':=by
 have hu29:=Tryz.underlying29
 have HR0_0:=am hr0_0
 have HC0_0:=am hc0_0
 clear hr0_0 hc0_0
 have HB:=am (Below.refl w.heap.size w)
 have H : ((spec_l3StreamV.f k l0_0 a1).bind fun bt243=>((spec_l4Both.f k a1 bt243.2).bind fun t248=>(some t248))) = some r:=h
 clear h
 obtain ⟨⟨t243,t246⟩,A3,H⟩:=bse H
 try dsimp only at H
 obtain ⟨t248,A4,H⟩:=bse H
 try dsimp only at H
 obtain rfl:=Option.some.inj H
 go_enter Tryz.func42,Tryz.ntmps42
 go_wp2_with (first | ((with_reducible refine gD 2 rfl ?_);refine box_event rfl (N:=2) rfl (cs:=#[.slice A0_0 l0_0.length c0_0]) (t:=29) hr_ ?_;intro gb242 hg w5 hbox hb;have BK242:=am hbox;have GW242:=gwE HB hg;have GE242:=gwE HB hg;replace HB:=hbS HB hb;clear hb hbox hg;have:=bcell BK242 0;have:=bfz BK242 0) | ((with_reducible refine gC 67 rfl ?_);refine gL (some 10) Tryz.func67 #[.agg #[.slice A0_0 l0_0.length c0_0],.string a1] ?_;(with_reducible refine (spec_l3StreamV.calls k (fun k_=>k_ < w.heap.size) _ _ l0_0 a1 t243 t246 _ ?side1 A3.out).mono ?_);(case side1=>exact Kd.V_mk HC0_0.out (Kd.F_below (Kd.C_F k55_heap HR0_0.out) (bl HB)));rintro e w7 ⟨v244,rfl,ho0,hb⟩;refine ⟨_,rfl,?_⟩;have HO245:=am (Kd.V_lower (Kd.V_mono (ok':=fun k_=>k_ ≠ gb242) ho0 (fun k_ hk_=>Or.elim hk_ (fun hs_=>fun e_=>Nat.not_le.2 hs_ (by rw [e_];exact GW242.out)) (fun hn_=>(Kd.freshB (g:=gb242) (o:=.cells #[.slice A0_0 l0_0.length c0_0] 29 (0,0)) (bk BK242) k_ hn_)))) (below_size (bl HB)));replace BK242:=bkB BK242 hb;replace HB:=hbS HB hb;(try clear hb);(try clear ho0)) | ((with_reducible refine gD 5 rfl ?_);refine box_event rfl (N:=5) rfl (cs:=#[.slice none 0 0]) (t:=29) hr_ ?_;intro gb247 hg w8 hbox hb;replace HO245:=am (Kd.V_below (Kd.V_elderB (by (with_reducible repeat (first | apply Kd.V_alloc | apply Kd.V_drewN | apply Kd.V_drew));exact HO245.out) gb247 (Nat.le_of_eq hg.symm)) hb);have BK247:=am hbox;have GW247:=gwE HB hg;have GE247:=gwE HB hg;replace HB:=hbS HB hb;have NB242_247:=neL BK242 hg;have NB247_242:=neG BK242 hg;replace BK242:=bkB BK242 hb;clear hb hbox hg;obtain ⟨Ao9,co9,eo9⟩:=Kd.V_slice HO245.out;subst eo9;have:=NB247_242.out;have:=NB242_247.out;have:=bcell BK247 0;have:=bfz BK247 0) | ((with_reducible refine gC 68 rfl ?_);refine gL (some 15) Tryz.func68 #[.string a1,.string t246] ?_;(with_reducible refine (spec_l4Both.calls k a1 t246 t248 _ A4.out).mono ?_);rintro e w12 ⟨v249,rfl,ho0,hb⟩;refine ⟨_,rfl,?_⟩;replace HO245:=am (Kd.V_elder' (by (with_reducible repeat (first | apply Kd.V_alloc | apply Kd.V_drewN | apply Kd.V_drew));exact (Kd.V_mono (Kd.V_far (p:=⟨gb247,0,none⟩) (Kd.V_mono HO245.out (fun k_ hk=>(⟨hk,hk.2⟩ : _ ∧ k_ ≠ gb247))) (fun _ hk=>hk.2) (.slice Ao9 t243.length co9)) (fun _ h_=>h_.1))) (Kd.R_base ho0) hb);have HO250:=am (Kd.R_lower ho0 (below_size (bl HB)));replace BK242:=am (blk_below (g:=gb242) (o:=.cells #[.slice A0_0 l0_0.length c0_0] 29 (0,0)) (by (with_reducible repeat refine bu ?_);refine blk_far ?_ NB242_247.out _;(with_reducible repeat refine bu ?_);exact BK242.out) hb);replace BK247:=am (blk_below (g:=gb247) (o:=.cells #[.slice Ao9 t243.length co9] 29 (0,0)) (by (with_reducible repeat refine bu ?_);refine blk_put (cs:=#[.slice none 0 0]) ?_ 0 _ rfl;(with_reducible repeat refine bu ?_);exact BK247.out) hb);replace HB:=hbS HB hb;(try clear hb);(try clear hk);(try clear ho0)))
 go_ret
 exact ⟨_,fi_,by (with_reducible repeat apply ru);exact HO250.out,m2_⟩
def spec_PosSpans.f (k : Nat) (l0_0 : List (S55)) (a1 : ByteArray) : Option ((List (S50))):=(spec_MapOk.f k l0_0).bind fun t243=>(if t243 = true then ((spec_StrOk.f k a1).bind fun t244=>(if t244 = true then ((spec_l4Spans.f k l0_0 a1).bind fun t245=>(some t245)) else (some (([] : List (S50)))))) else (some (([] : List (S50)))))
set_option maxHeartbeats 8000000 in
set_option maxRecDepth 100000 in
theorem spec_PosSpans.calls (k : Nat) (A0_0 : Option Addr) (c0_0 : Nat) (l0_0 : List (S55)) (a1 : ByteArray) (r : List (S50)) (w : World) (hr0_0 : Kd.C k55 w A0_0 l0_0.length l0_0) (hc0_0 : l0_0.length ≤ c0_0) (h : spec_PosSpans.f k l0_0 a1 = some r) :
  Calls Tryz.prog 18 #[.agg #[.slice A0_0 l0_0.length c0_0],.string a1] w fun e w'=>∃ v0_ : Value,e = .returned (v0_) ∧ Kd.R k50 50 w' w.heap.size (fun _=>True) v0_ r ∧ Below w.heap.size w w':=by
 have hu29:=Tryz.underlying29
 have HR0_0:=am hr0_0
 have HC0_0:=am hc0_0
 clear hr0_0 hc0_0
 have HB:=am (Below.refl w.heap.size w)
 have H : ((spec_MapOk.f k l0_0).bind fun t243=>(if t243 = true then ((spec_StrOk.f k a1).bind fun t244=>(if t244 = true then ((spec_l4Spans.f k l0_0 a1).bind fun t245=>(some t245)) else (some (([] : List (S50)))))) else (some (([] : List (S50)))))) = some r:=h
 clear h
 obtain ⟨t243,A3,H⟩:=bse H
 try dsimp only at H
 by_cases c4 : t243 = true
 ·subst c4
  have H1 : ((spec_StrOk.f k a1).bind fun t244=>(if t244 = true then ((spec_l4Spans.f k l0_0 a1).bind fun t245=>(some t245)) else (some (([] : List (S50)))))) = some r:=by rw [if_pos rfl] at H;exact H
  clear H
  have H:=H1
  clear H1
  obtain ⟨t244,A5,H⟩:=bse H
  try dsimp only at H
  by_cases c6 : t244 = true
  ·subst c6
   have H1 : ((spec_l4Spans.f k l0_0 a1).bind fun t245=>(some t245)) = some r:=by rw [if_pos rfl] at H;exact H
   clear H
   have H:=H1
   clear H1
   obtain ⟨t245,A7,H⟩:=bse H
   try dsimp only at H
   obtain rfl:=Option.some.inj H
   go_enter Tryz.func18,Tryz.ntmps18
   go_wp2_with (first | ((with_reducible refine gD 2 rfl ?_);refine box_event rfl (N:=2) rfl (cs:=#[.slice A0_0 l0_0.length c0_0]) (t:=29) hr_ ?_;intro gb242 hg w8 hbox hb;have BK242:=am hbox;have GW242:=gwE HB hg;have GE242:=gwE HB hg;replace HB:=hbS HB hb;clear hb hbox hg;have:=bcell BK242 0;have:=bfz BK242 0) | ((with_reducible refine gC 26 rfl ?_);refine gL (some 6) Tryz.func26 #[.agg #[.slice A0_0 l0_0.length c0_0]] ?_;(with_reducible refine (spec_MapOk.calls k _ _ l0_0 true _ ?side1 ?side2 A3.out).mono ?_);(case side1=>exact m3_);(case side2=>exact HC0_0.out);rintro e w10 ⟨rfl,hb⟩;refine ⟨_,rfl,?_⟩;replace BK242:=bkB BK242 hb;replace HB:=hbS HB hb;(try clear hb)) | (go_at_call 27;(with_reducible refine (spec_StrOk.calls k a1 true _ A5.out).mono ?_);rintro e w11 ⟨rfl,hb⟩;replace BK242:=bkB BK242 hb;replace HB:=hbS HB hb;(try clear hb);have:=bcell BK242 0;have:=bfz BK242 0) | ((with_reducible refine gC 42 rfl ?_);refine gL (some 16) Tryz.func42 #[.agg #[.slice A0_0 l0_0.length c0_0],.string a1] ?_;(with_reducible refine (spec_l4Spans.calls k _ _ l0_0 a1 t245 _ ?side1 ?side2 A7.out).mono ?_);(case side1=>exact m3_);(case side2=>exact HC0_0.out);rintro e w13 ⟨v246,rfl,ho0,hb⟩;refine ⟨_,rfl,?_⟩;have HO247:=am (Kd.R_lower ho0 (below_size (bl HB)));replace BK242:=bkB BK242 hb;replace HB:=hbS HB hb;(try clear hb);(try clear ho0)))
   go_ret
   exact ⟨_,fi_,by (with_reducible repeat apply ru);exact HO247.out,m2_⟩
  ·replace c6:=Bool.eq_false_iff.mpr c6
   subst c6
   have H1 : (some (([] : List (S50)))) = some r:=by rw [if_neg (show ¬ (false = true) by decide)] at H;exact H
   clear H
   have H:=H1
   clear H1
   obtain ⟨y248,hy248⟩ : ∃ y_ : List (S50),y_ = (([] : List (S50))):=⟨_,rfl⟩
   replace H : (some y248) = some r:=by first | (rw [hy248];with_reducible exact H) | (have H2_:=(Option.bind_some _ _).symm.trans H;rw [hy248];with_reducible exact H2_) | (have H2_:=(Option.bind_some _ _).symm.trans H;with_reducible exact H2_) | with_reducible exact H | (rw [hy248];exact H) | exact H
   have Ny248:=am hy248
   clear hy248
   obtain rfl:=Option.some.inj H
   go_enter Tryz.func18,Tryz.ntmps18
   go_wp2_with (first | ((with_reducible refine gD 2 rfl ?_);refine box_event rfl (N:=2) rfl (cs:=#[.slice A0_0 l0_0.length c0_0]) (t:=29) hr_ ?_;intro gb242 hg w14 hbox hb;have BK242:=am hbox;have GW242:=gwE HB hg;have GE242:=gwE HB hg;replace HB:=hbS HB hb;clear hb hbox hg;have:=bcell BK242 0;have:=bfz BK242 0) | ((with_reducible refine gC 26 rfl ?_);refine gL (some 6) Tryz.func26 #[.agg #[.slice A0_0 l0_0.length c0_0]] ?_;(with_reducible refine (spec_MapOk.calls k _ _ l0_0 true _ ?side1 ?side2 A3.out).mono ?_);(case side1=>exact m3_);(case side2=>exact HC0_0.out);rintro e w16 ⟨rfl,hb⟩;refine ⟨_,rfl,?_⟩;replace BK242:=bkB BK242 hb;replace HB:=hbS HB hb;(try clear hb)) | (go_at_call 27;(with_reducible refine (spec_StrOk.calls k a1 false _ A5.out).mono ?_);rintro e w17 ⟨rfl,hb⟩;replace BK242:=bkB BK242 hb;replace HB:=hbS HB hb;(try clear hb)) | ((with_reducible refine gD 13 rfl ?_);refine Kd.R_lit k50 _ 50 rfl (N:=13) rfl (xs:=([] : List (S50))) (inner:=[]) (ok:=fun _=>True) (okp:=fun _=>True) hr_ ?hp (fun _ hk=>hk) trivial (Below.refl _ _) (Nat.le_refl _) (by simp) ?_;(case hp=>exact (Reps.none _ _));intro v249 w18 ho19 hb hg_ hnew_;clear hg_ hnew_;(first | rw [← Ny248.out] at ho19 | (simp only [Int.reduceToNat] at ho19;rw [← Ny248.out] at ho19));have HO250:=am (Kd.R_lower ho19 (below_size (bl HB)));replace BK242:=bkB BK242 hb;replace HB:=hbS HB hb;clear hb ho19))
   go_ret
   exact ⟨_,fi_,by (with_reducible repeat apply ru);exact HO250.out,m2_⟩
 ·replace c4:=Bool.eq_false_iff.mpr c4
  subst c4
  have H1 : (some (([] : List (S50)))) = some r:=by rw [if_neg (show ¬ (false = true) by decide)] at H;exact H
  clear H
  have H:=H1
  clear H1
  obtain ⟨y251,hy251⟩ : ∃ y_ : List (S50),y_ = (([] : List (S50))):=⟨_,rfl⟩
  replace H : (some y251) = some r:=by first | (rw [hy251];with_reducible exact H) | (have H2_:=(Option.bind_some _ _).symm.trans H;rw [hy251];with_reducible exact H2_) | (have H2_:=(Option.bind_some _ _).symm.trans H;with_reducible exact H2_) | with_reducible exact H | (rw [hy251];exact H) | exact H
  have Ny251:=am hy251
  clear hy251
  obtain rfl:=Option.some.inj H
  go_enter Tryz.func18,Tryz.ntmps18
  go_wp2_with (first | ((with_reducible refine gD 2 rfl ?_);refine box_event rfl (N:=2) rfl (cs:=#[.slice A0_0 l0_0.length c0_0]) (t:=29) hr_ ?_;intro gb242 hg w20 hbox hb;have BK242:=am hbox;have GW242:=gwE HB hg;have GE242:=gwE HB hg;replace HB:=hbS HB hb;clear hb hbox hg;have:=bcell BK242 0;have:=bfz BK242 0) | ((with_reducible refine gC 26 rfl ?_);refine gL (some 6) Tryz.func26 #[.agg #[.slice A0_0 l0_0.length c0_0]] ?_;(with_reducible refine (spec_MapOk.calls k _ _ l0_0 false _ ?side1 ?side2 A3.out).mono ?_);(case side1=>exact m3_);(case side2=>exact HC0_0.out);rintro e w22 ⟨rfl,hb⟩;refine ⟨_,rfl,?_⟩;replace BK242:=bkB BK242 hb;replace HB:=hbS HB hb;(try clear hb)) | ((with_reducible refine gD 13 rfl ?_);refine Kd.R_lit k50 _ 50 rfl (N:=13) rfl (xs:=([] : List (S50))) (inner:=[]) (ok:=fun _=>True) (okp:=fun _=>True) hr_ ?hp (fun _ hk=>hk) trivial (Below.refl _ _) (Nat.le_refl _) (by simp) ?_;(case hp=>exact (Reps.none _ _));intro v252 w23 ho24 hb hg_ hnew_;clear hg_ hnew_;(first | rw [← Ny251.out] at ho24 | (simp only [Int.reduceToNat] at ho24;rw [← Ny251.out] at ho24));have HO253:=am (Kd.R_lower ho24 (below_size (bl HB)));replace BK242:=bkB BK242 hb;replace HB:=hbS HB hb;clear hb ho24))
  go_ret
  exact ⟨_,fi_,by (with_reducible repeat apply ru);exact HO253.out,m2_⟩
end
def spanL : List ByteArray → List ByteArray → Int → Int → List S50
  | x :: xs, y :: ys, a, b => ⟨a, a + x.size + 1, b, b + y.size + 1, (x.toList == y.toList)⟩ :: spanL xs ys (a + x.size + 1) (b + y.size + 1)
  | [], _, _, _ => []
  | _ :: _, [], _, _ => []
theorem spanL_len : ∀ (xs ys : List ByteArray) (a b : Int), (spanL xs ys a b).length = min xs.length ys.length
  | x :: xs, y :: ys, a, b => by simp only [spanL, List.length_cons, spanL_len xs ys]; omega
  | [], _, _, _ => by simp [spanL]
  | _ :: _, [], _, _ => by simp [spanL]
theorem spanL_stop {xs ys : List ByteArray} {i : Nat} (h : min xs.length ys.length ≤ i) (a b : Int) : spanL (xs.drop i) (ys.drop i) a b = [] := by
  have e := spanL_len (xs.drop i) (ys.drop i) a b
  rw [List.length_drop, List.length_drop] at e
  exact List.length_eq_zero_iff.mp (by omega)
theorem spanL_at {xs ys : List ByteArray} {i : Nat} (hx : i < xs.length) (hy : i < ys.length) (a b : Int) : spanL (xs.drop i) (ys.drop i) a b =
    ⟨a, a + xs[i].size + 1, b, b + ys[i].size + 1, (xs[i].toList == ys[i].toList)⟩ :: spanL (xs.drop (i + 1)) (ys.drop (i + 1)) (a + xs[i].size + 1) (b + ys[i].size + 1) := by
  rw [List.drop_eq_getElem_cons hx, List.drop_eq_getElem_cons hy, spanL]
theorem wrap_add (a : Int) (n : Nat) (h0 : 0 ≤ a) (h1 : a ≤ 5000000000000) (h2 : n ≤ 2000000) : wrap64 ((wrap64 (a + (n : Int))) + 1) = a + (n : Int) + 1 := by
  have e : wrap64 (a + (n : Int)) = a + n := w64 _ (by omega)
  rw [e]; exact w64 _ (by omega)
theorem spansOf_l0 {xs ys : List ByteArray} (hx : ∀ x ∈ xs, x.size ≤ 2000000) (hy : ∀ y ∈ ys, y.size ≤ 2000000) (hl : xs.length ≤ 2000000) :
    ∀ (m i : Nat), min xs.length ys.length - i = m → i ≤ min xs.length ys.length → ∀ (acc : List S50) (a b : Int), acc.length ≤ i → 0 ≤ a → a ≤ 2000001 * i → 0 ≤ b → b ≤ 2000001 * i →
      Ans (fun k => impl_spansOf.l0 k xs ys acc a b ((min xs.length ys.length : Nat) : Int) (i : Int)) (fun r => r = acc ++ spanL (xs.drop i) (ys.drop i) a b) := by
  intro m
  induction m with
  | zero =>
    intro i hm hi acc a b _ _ _ _ _
    refine Ans.succ ?_
    unfold impl_spansOf.l0
    refine Ans.neg (by omega) (Ans.pure ?_)
    rw [spanL_stop (by omega), List.append_nil]
  | succ m ih =>
    intro i hm hi acc a b hacc ha0 ha1 hb0 hb1
    have h1 : i < xs.length := by omega
    have h2 : i < ys.length := by omega
    have hw : wrap64 ((i : Int) + 1) = ((i + 1 : Nat) : Int) := w64 _ (by omega)
    have z1 := hx _ (List.getElem_mem h1)
    have z2 := hy _ (List.getElem_mem h2)
    refine Ans.succ ?_
    unfold impl_spansOf.l0
    refine Ans.pos (by omega) (Ans.pos (by omega) (Ans.pos (by omega) (Ans.pos (by omega) (Ans.pos (by omega) ?_))))
    rw [rdOf_get h1, rdOf_get h2, hw, wrap_add a _ ha0 (by omega) z1, wrap_add b _ hb0 (by omega) z2]
    refine (ih (i + 1) (by omega) (by omega) _ _ _ (by simp; omega) (by omega) (by omega) (by omega) (by omega)).mono ?_
    rintro _ rfl
    rw [spanL_at h1 h2]
    simp
theorem mn_nat (a b : Nat) : mn (a : Int) (b : Int) = ((min a b : Nat) : Int) := by unfold mn; split <;> omega
theorem implSpansOf_a (s far : ByteArray) (hs : s.size ≤ 1048576) (hf : far.size ≤ 1048576) : Ans (fun k => impl_spansOf.f k s far) (fun r => r = spanL (linesB s) (linesB far) 0 0) := by
  unfold impl_spansOf.f
  rw [implStrLines_f (by omega), implStrLines_f (by omega)]
  refine Ans.bsome (Ans.bsome ?_)
  dsimp only
  obtain ⟨z1, z2, _⟩ := linesB_size s
  obtain ⟨z3, z4, _⟩ := linesB_size far
  rw [mn_nat]
  refine Ans.pos (by omega) (Ans.pos (by omega) ?_)
  rw [Nat.zero_mul, List.replicate_zero]
  exact (spansOf_l0 (fun x h => Nat.le_trans (z2 x h) (by omega)) (fun x h => Nat.le_trans (z4 x h) (by omega)) (by omega) _ 0 rfl (Nat.zero_le _) [] 0 0 (Nat.le_refl _) (by omega) (by omega) (by omega) (by omega)).mono (by rintro _ rfl; simp)
theorem beqc (a b : List UInt8) : (a == b) = (b == a) := by
  by_cases h : a = b
  · rw [h]
  · rw [beq_eq_false_iff_ne.mpr h, beq_eq_false_iff_ne.mpr (Ne.symm h)]
theorem l4Pairs_l0 {xs ys : List ByteArray} (hx : ∀ x ∈ xs, x.size ≤ 2000000) (hy : ∀ y ∈ ys, y.size ≤ 2000000) (hl : xs.length ≤ 2000000) :
    ∀ (m i : Nat), min xs.length ys.length - i = m → i ≤ min xs.length ys.length → ∀ (acc : List S50) (a b : Int), acc.length ≤ i → 0 ≤ a → a ≤ 2000001 * i → 0 ≤ b → b ≤ 2000001 * i →
      Ans (fun k => spec_l4Pairs.l0 k xs ys acc a b (i : Int)) (fun r => r = acc ++ spanL (xs.drop i) (ys.drop i) a b) := by
  intro m
  induction m with
  | zero =>
    intro i hm hi acc a b _ _ _ _ _
    refine Ans.succ ?_
    unfold spec_l4Pairs.l0
    refine Ans.ite (fun _ => Ans.neg (by omega) (Ans.pure ?_)) (fun _ => Ans.pure ?_) <;> rw [spanL_stop (by omega), List.append_nil]
  | succ m ih =>
    intro i hm hi acc a b hacc ha0 ha1 hb0 hb1
    have h1 : i < xs.length := by omega
    have h2 : i < ys.length := by omega
    have hw : wrap64 ((i : Int) + 1) = ((i + 1 : Nat) : Int) := w64 _ (by omega)
    have z1 := hx _ (List.getElem_mem h1)
    have z2 := hy _ (List.getElem_mem h2)
    refine Ans.succ ?_
    unfold spec_l4Pairs.l0
    refine Ans.pos (by omega) (Ans.pos (by omega) (Ans.pos (by omega) (Ans.pos (by omega) ?_)))
    rw [rdOf_get h1, rdOf_get h2, hw, wrap_add a _ ha0 (by omega) z1, wrap_add b _ hb0 (by omega) z2]
    refine (ih (i + 1) (by omega) (by omega) _ _ _ (by simp; omega) (by omega) (by omega) (by omega) (by omega)).mono ?_
    rintro _ rfl
    rw [spanL_at h1 h2, show (ys[i].toList == xs[i].toList) = (xs[i].toList == ys[i].toList) from beqc _ _]
    simp
theorem specL4Both_a (s far : ByteArray) (hs : s.size ≤ 1048576) (hf : far.size ≤ 1048576) : Ans (fun k => spec_l4Both.f k s far) (fun r => r = spanL (linesB s) (linesB far) 0 0) := by
  unfold spec_l4Both.f spec_l4Pairs.f
  refine Ans.bind (specStrLines_a s hs) ?_
  rintro _ rfl
  refine Ans.bind (specStrLines_a far hf) ?_
  rintro _ rfl
  dsimp only
  obtain ⟨z1, z2, _⟩ := linesB_size s
  obtain ⟨z3, z4, _⟩ := linesB_size far
  refine Ans.bind (l4Pairs_l0 (fun x h => Nat.le_trans (z2 x h) (by omega)) (fun x h => Nat.le_trans (z4 x h) (by omega)) (by omega) _ 0 rfl (Nat.zero_le _) [] 0 0 (Nat.le_refl _) (by omega) (by omega) (by omega) (by omega)) ?_
  rintro _ rfl
  exact Ans.pure (by simp)
theorem lineV_f : spec_l3LineV.f = spec_l3Line.f := rfl
theorem streamV_l0 : ∀ (k : Nat) (xs : List ByteArray) (o : ByteArray) (i : Int) (l : List S55), spec_l3StreamV.l0 k xs o i l = spec_l3Stream.l0 k xs o i l
  | 0, _, _, _, _ => rfl
  | k + 1, xs, o, i, l => by unfold spec_l3StreamV.l0 spec_l3Stream.l0; simp only [lineV_f, streamV_l0 k]
theorem streamV_f (k : Nat) (l : List S55) (s : ByteArray) : spec_l3StreamV.f k l s = spec_l3Stream.f k l s := by
  unfold spec_l3StreamV.f spec_l3Stream.f
  simp only [streamV_l0]
def posL (l : List S55) (s : ByteArray) : List S50 := if okT l && strOkW s then spanL (linesB s) (farsL l (linesB s)) 0 0 else []
theorem posL_ok {l : List S55} {s : ByteArray} (c : okT l = true) (cs : strOkW s = true) : posL l s = spanL (linesB s) (farsL l (linesB s)) 0 0 := by unfold posL; rw [c, cs]; rfl
theorem stream_join {l : List S55} {s : ByteArray} (c : okT l = true) (cs : strOkW s = true) : linesB (joinS (farsL l (linesB s))) = farsL l (linesB s) ∧ (joinS (farsL l (linesB s))).size ≤ 2040 := by
  obtain ⟨_, hall, _⟩ := strOkW_parts cs
  have h := (fars_ok _ _ c hall).2
  refine ⟨(lines_join _ (fun y hy => linOk_no (h y hy).1)).1, ?_⟩
  have := (rwrStream_facts l s).2
  rw [rwrStream_ok c cs] at this
  exact this
theorem implOfStream_a (l : List S55) (hl : l.length ≤ 2000000) (s : ByteArray) (hs : s.size ≤ 1048576) : Ans (fun k => impl_ofStream.f k l s) (fun r => r = posL l s) := by
  have J : ∀ (b : Bool), Ans (fun k => impl_ofStream.j0 k s true l) (fun r => r = ([] : List S50)) := by
    intro b
    refine Ans.succ ?_
    unfold impl_ofStream.j0
    exact Ans.pos rfl (Ans.pure rfl)
  unfold impl_ofStream.f
  refine Ans.bind (implMapOk_a l hl) ?_
  rintro _ rfl
  cases c : okT l with
  | false => refine Ans.neg (by simp) ((J true).mono ?_); rintro _ rfl; unfold posL; rw [c]; rfl
  | true =>
    refine Ans.pos rfl (Ans.bind (implStrOk_a s hs) ?_)
    rintro _ rfl
    cases c2 : strOkW s with
    | false => refine (J true).mono ?_; rintro _ rfl; unfold posL; rw [c2, Bool.and_false]; rfl
    | true =>
      obtain ⟨e1, e2⟩ := stream_join c c2
      refine Ans.succ ?_
      unfold impl_ofStream.j0
      refine Ans.neg (by simp) ?_
      rw [implStream_f c c2, strW_nil]
      refine Ans.bsome (Ans.bind (implSpansOf_a s (joinS (farsL l (linesB s))) hs (by omega)) ?_)
      rintro _ rfl
      exact Ans.pure (by rw [e1, posL_ok c c2])
theorem specPosSpans_a (l : List S55) (hl : l.length ≤ 2000000) (s : ByteArray) (hs : s.size ≤ 1048576) : Ans (fun k => spec_PosSpans.f k l s) (fun r => r = posL l s) := by
  unfold spec_PosSpans.f
  refine Ans.bind (specMapOk_a l hl) ?_
  rintro _ rfl
  cases c : okT l with
  | false => refine Ans.neg (by simp) (Ans.pure ?_); unfold posL; rw [c]; rfl
  | true =>
    refine Ans.pos rfl (Ans.bind (specStrOk_a s hs) ?_)
    rintro _ rfl
    cases c2 : strOkW s with
    | false => refine Ans.neg (by simp) (Ans.pure ?_); unfold posL; rw [c2, Bool.and_false]; rfl
    | true =>
      obtain ⟨e1, e2⟩ := stream_join c c2
      refine Ans.pos rfl ?_
      unfold spec_l4Spans.f
      simp only [streamV_f]
      refine Ans.bind (Ans.bind (specStream_a c c2) ?_) (R := fun r => r = posL l s) ?_
      · rintro _ rfl
        rw [strW_nil]
        refine Ans.bind (specL4Both_a s (joinS (farsL l (linesB s))) hs (by omega)) ?_
        rintro _ rfl
        exact Ans.pure (by rw [e1, posL_ok c c2])
      · rintro _ rfl
        exact Ans.pure rfl
end Go.Proofs.YtakfmcpjnkagmaaGreatDoor.P
namespace Go.Proofs.YtakfmcpjnkagmaaGreatDoor.P
open Go.Proofs.YtakfmcpjnkagmaaGreatDoorUFnExactPosOut.PrintLast Go.Proofs.YtakfmcpjnkagmaaGreatDoorUFnExactPosOut.PrintMore Go.Proofs.YtakfmcpjnkagmaaGreatDoorUFnExactPosOut.PrintWords Go.RowKit Go.Shelf
set_option linter.unusedVariables false
set_option linter.unusedSimpArgs false
def bsN (p : Nat → Bool) : Nat → Nat → Nat → Nat
  | 0, i, _ => i
  | m + 1, i, j => if i < j then (if p ((i + j) / 2) = true then bsN p m i ((i + j) / 2) else bsN p m ((i + j) / 2 + 1) j) else i
set_option maxHeartbeats 4000000 in
set_option maxRecDepth 1000000 in
theorem search_calls (g : Nat) (cb : Array Value) (n : Nat) (p : Nat → Bool) (w : World) (eg : ∀ args w, (callFunc g args).run Tryz.prog w = .ok (.enter g args) w) (hsz : n < 4611686018427387904)
    (hf : ∀ (w' : World) (i : Nat), Below w.heap.size w w' → i < n → Calls Tryz.prog g (#[.int .i64 i] ++ cb) w' fun e w2 => e = .returned (.bool (p i)) ∧ Below w'.heap.size w' w2) :
    Calls Tryz.prog 63 #[.int .i64 n, .func (.func g) #[] cb] w fun e w' => e = .returned (.int .i64 (bsN p n 0 n : Nat)) ∧ Below w.heap.size w w' := by
  obtain ⟨R, hR⟩ : ∃ R, bsN p n 0 n = R := ⟨_, rfl⟩
  have HF := Aside0.mk hf
  have HR := Aside0.mk hR
  rw [hR]
  clear hf hR
  go_enter Tryz.func63, Tryz.ntmps63
  go_wp2
  go_loopg [5, 6] n (fun kx s5 s6 wr => ∃ (lo hi m : Nat), s5 = .int .i64 lo ∧ s6 = .int .i64 hi ∧ lo ≤ hi ∧ hi ≤ n ∧ hi - lo ≤ kx ∧ Aside0 (hi - lo ≤ m ∧ bsN p m lo hi = R) ∧ Aside0 (Below w.heap.size w wr))
  case atStart => exact ⟨0, n, n, rfl, rfl, Nat.zero_le _, Nat.le_refl _, by omega, ⟨⟨by omega, HR.out⟩⟩, ⟨Below.refl _ _⟩⟩
  case round =>
    obtain ⟨lo, hi, m, rfl, rfl, hlh, hin, hg, I, B⟩ := hrel
    by_cases hlt : lo < hi
    · obtain ⟨m', hm'⟩ : ∃ m', m = m' + 1 := ⟨m - 1, by have := I.out.1; omega⟩
      have hc := HF.out wr ((lo + hi) / 2) B.out (by omega)
      rw [show (((lo + hi) / 2 : Nat) : Int) = ((lo : Int) + (hi : Int)) / 2 by omega] at hc
      cases hp : p ((lo + hi) / 2) <;> rw [hp] at hc
      · have I2 : Aside0 (hi - ((lo + hi) / 2 + 1) ≤ m' ∧ bsN p m' ((lo + hi) / 2 + 1) hi = R) := ⟨by
          obtain ⟨i1, i2⟩ := I.out
          subst hm'
          rw [bsN, if_pos hlt, hp] at i2
          exact ⟨by omega, by simpa using i2⟩⟩
        clear hp I hm'
        go_wp2_with (go_at_fn g; refine hc.mono ?_; rintro e w' ⟨rfl, hb⟩)
        go_roundg (hi - ((lo + hi) / 2 + 1))
        case measure => omega
        case rel =>
          exact ⟨(lo + hi) / 2 + 1, hi, m', by rw [show ((lo : Int) + (hi : Int)) / 2 + 1 = (((lo + hi) / 2 + 1 : Nat) : Int) by omega], rfl, by omega, hin, Nat.le_refl _, I2, ⟨B.out.trans (hb.mono B.out.size)⟩⟩
      · have I2 : Aside0 ((lo + hi) / 2 - lo ≤ m' ∧ bsN p m' lo ((lo + hi) / 2) = R) := ⟨by
          obtain ⟨i1, i2⟩ := I.out
          subst hm'
          rw [bsN, if_pos hlt, hp] at i2
          exact ⟨by omega, by simpa using i2⟩⟩
        clear hp I hm'
        go_wp2_with (go_at_fn g; refine hc.mono ?_; rintro e w' ⟨rfl, hb⟩)
        go_roundg ((lo + hi) / 2 - lo)
        case measure => omega
        case rel =>
          exact ⟨lo, (lo + hi) / 2, m', rfl, by rw [show ((lo : Int) + (hi : Int)) / 2 = (((lo + hi) / 2 : Nat) : Int) by omega], by omega, by omega, Nat.le_refl _, I2, ⟨B.out.trans (hb.mono B.out.size)⟩⟩
    · obtain rfl : hi = lo := by omega
      have e : R = hi := by
        rw [← I.out.2]
        cases m with
        | zero => rfl
        | succ m => rw [bsN, if_neg (Nat.lt_irrefl _)]
      subst e
      have HB := B
      clear B I
      go_wp2
      go_ret
      exact ⟨rfl, HB.out⟩
theorem bsN_le (p : Nat → Bool) : ∀ (m i j : Nat), i ≤ j → bsN p m i j ≤ j
  | 0, i, j, h => h
  | m + 1, i, j, h => by
    unfold bsN
    by_cases hlt : i < j
    · rw [if_pos hlt]
      split
      · exact Nat.le_trans (bsN_le p m i ((i + j) / 2) (by omega)) (by omega)
      · exact bsN_le p m ((i + j) / 2 + 1) j (by omega)
    · rw [if_neg hlt]; exact h
set_option maxHeartbeats 2000000 in
set_option maxRecDepth 100000 in
theorem out_clo (A : Option Addr) (c : Nat) (l : List S50) (at_ : Int) (b1 b2 i : Nat) (W : World) (hi : i < l.length) (hl : l.length ≤ 1000000) (h1 : W.heap[b1]? = some (.cells #[.slice A l.length c] 60 (0, 0))) (h2 : W.heap[b2]? = some (.cells #[.int .i64 at_] 3 (0, 0))) (hC : Kd.C k50 W A l.length l) :
    Calls Tryz.prog 64 #[.int .i64 i, .pointer (some ⟨b1, 0, none⟩), .pointer (some ⟨b2, 0, none⟩)] W fun e W' => e = .returned (.bool (decide (at_ < (rd_T50 l (i : Int)).f1))) ∧ Below W.heap.size W W' := by
  obtain ⟨ad, e, c0', c1, c2, c3, c4⟩ := at_T50 hC i (by omega) (by omega)
  have d1 := (blk_cell h1 0).trans rfl
  have d2 := (blk_cell h2 0).trans rfl
  generalize rd_T50 l (i : Int) = y at c0' c1 c2 c3 c4 ⊢
  rw [Int.toNat_natCast] at c0' c1 c2 c3 c4
  cases e
  have hiz : (i : Int) < (l.length : Int) := by omega
  clear h1 h2 hC
  go_enter Tryz.func64, Tryz.ntmps64
  go_wp2
  go_quiet (fail)
  go_wp2
  go_ret
  exact ⟨rfl, pw_below_drewN (Below.refl _ _) _⟩
set_option maxHeartbeats 2000000 in
set_option maxRecDepth 100000 in
theorem there_clo (A : Option Addr) (c : Nat) (l : List S50) (at_ : Int) (b1 b2 i : Nat) (W : World) (hi : i < l.length) (hl : l.length ≤ 1000000) (h1 : W.heap[b1]? = some (.cells #[.slice A l.length c] 60 (0, 0))) (h2 : W.heap[b2]? = some (.cells #[.int .i64 at_] 3 (0, 0))) (hC : Kd.C k50 W A l.length l) :
    Calls Tryz.prog 66 #[.int .i64 i, .pointer (some ⟨b1, 0, none⟩), .pointer (some ⟨b2, 0, none⟩)] W fun e W' => e = .returned (.bool (decide (at_ < (rd_T50 l (i : Int)).f3))) ∧ Below W.heap.size W W' := by
  obtain ⟨ad, e, c0', c1, c2, c3, c4⟩ := at_T50 hC i (by omega) (by omega)
  have d1 := (blk_cell h1 0).trans rfl
  have d2 := (blk_cell h2 0).trans rfl
  generalize rd_T50 l (i : Int) = y at c0' c1 c2 c3 c4 ⊢
  rw [Int.toNat_natCast] at c0' c1 c2 c3 c4
  cases e
  have hiz : (i : Int) < (l.length : Int) := by omega
  clear h1 h2 hC
  go_enter Tryz.func66, Tryz.ntmps66
  go_wp2
  go_quiet (fail)
  go_wp2
  go_ret
  exact ⟨rfl, pw_below_drewN (Below.refl _ _) _⟩
def outK (l : List S50) (x : Int) : Nat := bsN (fun i => decide (x < (rd_T50 l (i : Int)).f1)) l.length 0 l.length
def thereK (l : List S50) (x : Int) : Nat := bsN (fun i => decide (x < (rd_T50 l (i : Int)).f3)) l.length 0 l.length
def outW (l : List S50) (x : Int) : Int := if outK l x < l.length then (rd_T50 l (outK l x : Int)).f2 else if 0 < outK l x then (rd_T50 l ((outK l x - 1 : Nat) : Int)).f3 else 0
def thereW (l : List S50) (x : Int) : Int :=
  if thereK l x < l.length then (if (rd_T50 l (thereK l x : Int)).f4 = true ∧ (rd_T50 l (thereK l x : Int)).f2 < x then wrap64 (wrap64 ((rd_T50 l (thereK l x : Int)).f0 + x) - (rd_T50 l (thereK l x : Int)).f2) else (rd_T50 l (thereK l x : Int)).f0)
  else if 0 < thereK l x then (rd_T50 l ((thereK l x - 1 : Nat) : Int)).f1 else 0
def impl_spans_out.f (l : List S50) (x : Int) : Option Int := if l.length ≤ 1000000 then some (outW l x) else none
def impl_spans_there.f (l : List S50) (x : Int) : Option Int := if l.length ≤ 1000000 then some (thereW l x) else none
set_option maxHeartbeats 8000000 in
set_option maxRecDepth 100000 in
theorem impl_spans_out.calls (A0 : Option Addr) (c0 : Nat) (l0 : List (S50)) (a1 : Int) (r : Int) (w : World) (hr0 : Kd.C k50 w A0 l0.length l0) (hc0 : l0.length ≤ c0) (h : impl_spans_out.f l0 a1 = some r) :
    Calls Tryz.prog 38 #[.slice A0 l0.length c0, .int .i64 a1] w fun e w' => e = .returned (.int .i64 r) ∧ Below w.heap.size w w' := by
  unfold impl_spans_out.f at h
  by_cases hl : l0.length ≤ 1000000
  · rw [if_pos hl] at h
    have HRR := Lib.hid (Option.some.inj h)
    have HL := Lib.hid hl
    have HC := Lib.hid hr0
    clear h hr0 hc0
    have HB2 := Lib.hid (below_alloc (below_alloc (Below.refl w.heap.size w) (.cells #[.slice A0 l0.length c0] 60)) (.cells #[.int .i64 a1] 3))
    have hb1 : ((w.alloc (.cells #[.slice A0 l0.length c0] 60)).alloc (.cells #[.int .i64 a1] 3)).heap[w.heap.size]? = some (.cells #[.slice A0 l0.length c0] 60 (0, 0)) := blk_alloc (heap_alloc_new w _) _
    have hb2 : ((w.alloc (.cells #[.slice A0 l0.length c0] 60)).alloc (.cells #[.int .i64 a1] 3)).heap[w.heap.size + 1]? = some (.cells #[.int .i64 a1] 3 (0, 0)) := by
      have := heap_alloc_new (w.alloc (.cells #[.slice A0 l0.length c0] 60)) (.cells #[.int .i64 a1] 3)
      simp only [World.size_alloc] at this
      exact this
    have HB1 := Lib.hid hb1
    have HBB := Lib.hid hb2
    clear hb1 hb2 hl
    obtain ⟨K, hK⟩ : ∃ K, outK l0 a1 = K := ⟨_, rfl⟩
    have hKn : K ≤ l0.length := by rw [← hK]; exact bsN_le _ _ _ _ (Nat.zero_le _)
    have HK := Lib.hid hK
    have hser : ∀ W, W = (w.alloc (.cells #[.slice A0 l0.length c0] 60)).alloc (.cells #[.int .i64 a1] 3) → Calls Tryz.prog 63 #[.int .i64 l0.length, .func (.func 64) #[] #[.pointer (some ⟨w.heap.size, 0, none⟩), .pointer (some ⟨w.heap.size + 1, 0, none⟩)]] W fun e w' => e = .returned (.int .i64 (K : Nat)) ∧ Below W.heap.size W w' := by
      rintro W rfl
      rw [← HK.out]
      exact search_calls 64 #[.pointer (some ⟨w.heap.size, 0, none⟩), .pointer (some ⟨w.heap.size + 1, 0, none⟩)] l0.length _ _ (enters_of Tryz.func64 (by kernel_rfl) rfl) (by have := HL.out; omega) (fun w' i hb hi =>
        out_clo A0 c0 l0 a1 w.heap.size (w.heap.size + 1) i w' hi HL.out ((hb.block _ (blk_lt HB1.out)).trans HB1.out) ((hb.block _ (blk_lt HBB.out)).trans HBB.out) (Kd.C_below HC.out (HB2.out.trans (hb.mono HB2.out.size))))
    have HS := Lib.hid hser
    clear hser hK
    have hrd : ∀ (w' : World) (j : Nat), Below w.heap.size w w' → j < l0.length → ∃ ad, A0 = some ad ∧ w'.cell? ⟨(ad.add (j * 5)).block, (ad.add (j * 5)).off + 2, none⟩ = some (.int .i64 (rd_T50 l0 (j : Int)).f2) ∧ w'.cell? ⟨(ad.add (j * 5)).block, (ad.add (j * 5)).off + 3, none⟩ = some (.int .i64 (rd_T50 l0 (j : Int)).f3) := by
      intro w' j hb hj
      obtain ⟨ad, e, x0, x1, x2, x3, x4⟩ := at_T50 (Kd.C_below HC.out hb) j (by omega) (by omega)
      rw [Int.toNat_natCast] at x2 x3
      exact ⟨ad, e, x2, x3⟩
    have HRD := Lib.hid hrd
    clear hrd
    by_cases h1 : K < l0.length
    · have b1 : decide (K < l0.length) = true := decide_eq_true h1
      have hKz : (K : Int) < (l0.length : Int) := by omega
      obtain ⟨ad, e, _⟩ := HRD.out w K (Below.refl _ _) h1
      cases e
      have R1 : r = (rd_T50 l0 (K : Int)).f2 := by rw [← HRR.out]; unfold outW; rw [HK.out, if_pos h1]
      rw [R1]
      have H1 := Lib.hid h1
      clear h1 R1
      go_enter Tryz.func38, Tryz.ntmps38
      go_wp2_with (go_at_call 63; refine (HS.out _ rfl).mono ?_; rintro e w' ⟨rfl, hb⟩; have d1 := ((hb.block _ (blk_lt HB1.out)).trans HB1.out); have c1 := (blk_cell d1 0).trans rfl; have HBW := Lib.hid (HB2.out.trans (hb.mono HB2.out.size)); obtain ⟨ad', e', x2, x3⟩ := HRD.out w' K HBW.out H1.out; cases e'; clear hb d1)
      go_ret
      exact ⟨rfl, HBW.out⟩
    · have b1 : decide (K < l0.length) = false := decide_eq_false h1
      by_cases h2 : 0 < K
      · have b2 : decide (0 < K) = true := decide_eq_true h2
        obtain ⟨j, hj⟩ : ∃ j : Nat, K = j + 1 := ⟨K - 1, by omega⟩
        have z1 : wrap64 ((K : Int) - 1) = (j : Int) := by rw [hj]; unfold wrap64; have := HL.out; omega
        have hjl : j < l0.length := by omega
        have hjz : (j : Int) < (l0.length : Int) := by omega
        obtain ⟨ad, e, _⟩ := HRD.out w j (Below.refl _ _) hjl
        cases e
        have R1 : r = (rd_T50 l0 (j : Int)).f3 := by rw [← HRR.out]; unfold outW; rw [HK.out, if_neg h1, if_pos h2, hj]; rfl
        rw [R1]
        have H1 := Lib.hid hjl
        clear h1 h2 R1 hj hjl
        go_enter Tryz.func38, Tryz.ntmps38
        go_wp2_with (go_at_call 63; refine (HS.out _ rfl).mono ?_; rintro e w' ⟨rfl, hb⟩; have d1 := ((hb.block _ (blk_lt HB1.out)).trans HB1.out); have c1 := (blk_cell d1 0).trans rfl; have HBW := Lib.hid (HB2.out.trans (hb.mono HB2.out.size)); obtain ⟨ad', e', x2, x3⟩ := HRD.out w' j HBW.out H1.out; cases e'; clear hb d1)
        go_ret
        exact ⟨rfl, HBW.out⟩
      · have b2 : decide (0 < K) = false := decide_eq_false h2
        have R1 : r = 0 := by rw [← HRR.out]; unfold outW; rw [HK.out, if_neg h1, if_neg h2]
        rw [R1]
        clear h1 h2 R1
        go_enter Tryz.func38, Tryz.ntmps38
        go_wp2_with (go_at_call 63; refine (HS.out _ rfl).mono ?_; rintro e w' ⟨rfl, hb⟩; have d1 := ((hb.block _ (blk_lt HB1.out)).trans HB1.out); have c1 := (blk_cell d1 0).trans rfl; have HBW := Lib.hid (HB2.out.trans (hb.mono HB2.out.size)); clear hb d1)
        go_ret
        exact ⟨rfl, HBW.out⟩
  · rw [if_neg hl] at h; cases h
set_option maxHeartbeats 8000000 in
set_option maxRecDepth 100000 in
theorem impl_spans_there.calls (A0 : Option Addr) (c0 : Nat) (l0 : List (S50)) (a1 : Int) (r : Int) (w : World) (hr0 : Kd.C k50 w A0 l0.length l0) (hc0 : l0.length ≤ c0) (h : impl_spans_there.f l0 a1 = some r) :
    Calls Tryz.prog 41 #[.slice A0 l0.length c0, .int .i64 a1] w fun e w' => e = .returned (.int .i64 r) ∧ Below w.heap.size w w' := by
  unfold impl_spans_there.f at h
  by_cases hl : l0.length ≤ 1000000
  · rw [if_pos hl] at h
    have HRR := Lib.hid (Option.some.inj h)
    have HL := Lib.hid hl
    have HC := Lib.hid hr0
    clear h hr0 hc0
    have HB2 := Lib.hid (below_alloc (below_alloc (Below.refl w.heap.size w) (.cells #[.slice A0 l0.length c0] 60)) (.cells #[.int .i64 a1] 3))
    have hb1 : ((w.alloc (.cells #[.slice A0 l0.length c0] 60)).alloc (.cells #[.int .i64 a1] 3)).heap[w.heap.size]? = some (.cells #[.slice A0 l0.length c0] 60 (0, 0)) := blk_alloc (heap_alloc_new w _) _
    have hb2 : ((w.alloc (.cells #[.slice A0 l0.length c0] 60)).alloc (.cells #[.int .i64 a1] 3)).heap[w.heap.size + 1]? = some (.cells #[.int .i64 a1] 3 (0, 0)) := by
      have := heap_alloc_new (w.alloc (.cells #[.slice A0 l0.length c0] 60)) (.cells #[.int .i64 a1] 3)
      simp only [World.size_alloc] at this
      exact this
    have HB1 := Lib.hid hb1
    have HBB := Lib.hid hb2
    clear hb1 hb2 hl
    obtain ⟨K, hK⟩ : ∃ K, thereK l0 a1 = K := ⟨_, rfl⟩
    have hKn : K ≤ l0.length := by rw [← hK]; exact bsN_le _ _ _ _ (Nat.zero_le _)
    have HK := Lib.hid hK
    have hser : ∀ W, W = (w.alloc (.cells #[.slice A0 l0.length c0] 60)).alloc (.cells #[.int .i64 a1] 3) → Calls Tryz.prog 63 #[.int .i64 l0.length, .func (.func 66) #[] #[.pointer (some ⟨w.heap.size, 0, none⟩), .pointer (some ⟨w.heap.size + 1, 0, none⟩)]] W fun e w' => e = .returned (.int .i64 (K : Nat)) ∧ Below W.heap.size W w' := by
      rintro W rfl
      rw [← HK.out]
      exact search_calls 66 #[.pointer (some ⟨w.heap.size, 0, none⟩), .pointer (some ⟨w.heap.size + 1, 0, none⟩)] l0.length _ _ (enters_of Tryz.func66 (by kernel_rfl) rfl) (by have := HL.out; omega) (fun w' i hb hi =>
        there_clo A0 c0 l0 a1 w.heap.size (w.heap.size + 1) i w' hi HL.out ((hb.block _ (blk_lt HB1.out)).trans HB1.out) ((hb.block _ (blk_lt HBB.out)).trans HBB.out) (Kd.C_below HC.out (HB2.out.trans (hb.mono HB2.out.size))))
    have HS := Lib.hid hser
    clear hser hK
    have hrd : ∀ (w' : World) (j : Nat), Below w.heap.size w w' → j < l0.length → ∃ ad, A0 = some ad ∧ w'.cell? (ad.add (j * 5)) = some (.int .i64 (rd_T50 l0 (j : Int)).f0) ∧ w'.cell? ⟨(ad.add (j * 5)).block, (ad.add (j * 5)).off + 1, none⟩ = some (.int .i64 (rd_T50 l0 (j : Int)).f1) ∧ w'.cell? ⟨(ad.add (j * 5)).block, (ad.add (j * 5)).off + 2, none⟩ = some (.int .i64 (rd_T50 l0 (j : Int)).f2) ∧ w'.cell? ⟨(ad.add (j * 5)).block, (ad.add (j * 5)).off + 4, none⟩ = some (.bool (rd_T50 l0 (j : Int)).f4) := by
      intro w' j hb hj
      obtain ⟨ad, e, x0, x1, x2, x3, x4⟩ := at_T50 (Kd.C_below HC.out hb) j (by omega) (by omega)
      rw [Int.toNat_natCast] at x0 x1 x2 x4
      exact ⟨ad, e, x0, x1, x2, x4⟩
    have HRD := Lib.hid hrd
    clear hrd
    by_cases h1 : K < l0.length
    · have b1 : decide (K < l0.length) = true := decide_eq_true h1
      have hKz : (K : Int) < (l0.length : Int) := by omega
      obtain ⟨ad, e, _⟩ := HRD.out w K (Below.refl _ _) h1
      cases e
      have H1 := Lib.hid h1
      have R0 : thereW l0 a1 = (if (rd_T50 l0 (K : Int)).f4 = true ∧ (rd_T50 l0 (K : Int)).f2 < a1 then wrap64 (wrap64 ((rd_T50 l0 (K : Int)).f0 + a1) - (rd_T50 l0 (K : Int)).f2) else (rd_T50 l0 (K : Int)).f0) := by unfold thereW; rw [HK.out, if_pos h1]
      rw [HRR.out] at R0
      clear h1
      obtain ⟨y, hy⟩ : ∃ y, rd_T50 l0 (K : Int) = y := ⟨_, rfl⟩
      rw [hy] at R0
      have HY := Lib.hid hy
      clear hy
      cases h4 : y.f4 with
      | false =>
        have R1 : r = y.f0 := by rw [R0, h4]; simp
        rw [R1]
        have H4 := Lib.hid h4
        clear R0 R1 h4
        go_enter Tryz.func41, Tryz.ntmps41
        go_wp2_with (go_at_call 63; refine (HS.out _ rfl).mono ?_; rintro e w' ⟨rfl, hb⟩; have d1 := ((hb.block _ (blk_lt HB1.out)).trans HB1.out); have c1 := (blk_cell d1 0).trans rfl; have d2 := ((hb.block _ (blk_lt HBB.out)).trans HBB.out); have c2 := (blk_cell d2 0).trans rfl; have HBW := Lib.hid (HB2.out.trans (hb.mono HB2.out.size)); obtain ⟨ad', e', x0, x1, x2, x4⟩ := HRD.out w' K HBW.out H1.out; rw [HY.out] at x0 x1 x2 x4; rw [H4.out] at x4; cases e'; clear hb d1 d2)
        go_quiet (fail)
        go_wp2
        go_ret
        exact ⟨rfl, pw_below_drewN HBW.out _⟩
      | true =>
        by_cases h5 : y.f2 < a1
        · have b5 : decide (y.f2 < a1) = true := decide_eq_true h5
          have R1 : r = wrap64 (wrap64 (y.f0 + a1) - y.f2) := by rw [R0, h4]; simp [h5]
          rw [R1]
          have H4 := Lib.hid h4
          clear R0 R1 h4 h5
          go_enter Tryz.func41, Tryz.ntmps41
          go_wp2_with (go_at_call 63; refine (HS.out _ rfl).mono ?_; rintro e w' ⟨rfl, hb⟩; have d1 := ((hb.block _ (blk_lt HB1.out)).trans HB1.out); have c1 := (blk_cell d1 0).trans rfl; have d2 := ((hb.block _ (blk_lt HBB.out)).trans HBB.out); have c2 := (blk_cell d2 0).trans rfl; have HBW := Lib.hid (HB2.out.trans (hb.mono HB2.out.size)); obtain ⟨ad', e', x0, x1, x2, x4⟩ := HRD.out w' K HBW.out H1.out; rw [HY.out] at x0 x1 x2 x4; rw [H4.out] at x4; cases e'; clear hb d1 d2)
          go_quiet (fail)
          go_wp2
          go_quiet (fail)
          go_wp2
          go_ret
          exact ⟨rfl, pw_below_drewN (pw_below_drewN HBW.out _) _⟩
        · have b5 : decide (y.f2 < a1) = false := decide_eq_false h5
          have R1 : r = y.f0 := by rw [R0, h4]; simp [h5]
          rw [R1]
          have H4 := Lib.hid h4
          clear R0 R1 h4 h5
          go_enter Tryz.func41, Tryz.ntmps41
          go_wp2_with (go_at_call 63; refine (HS.out _ rfl).mono ?_; rintro e w' ⟨rfl, hb⟩; have d1 := ((hb.block _ (blk_lt HB1.out)).trans HB1.out); have c1 := (blk_cell d1 0).trans rfl; have d2 := ((hb.block _ (blk_lt HBB.out)).trans HBB.out); have c2 := (blk_cell d2 0).trans rfl; have HBW := Lib.hid (HB2.out.trans (hb.mono HB2.out.size)); obtain ⟨ad', e', x0, x1, x2, x4⟩ := HRD.out w' K HBW.out H1.out; rw [HY.out] at x0 x1 x2 x4; rw [H4.out] at x4; cases e'; clear hb d1 d2)
          go_quiet (fail)
          go_wp2
          go_ret
          exact ⟨rfl, pw_below_drewN HBW.out _⟩
    · have b1 : decide (K < l0.length) = false := decide_eq_false h1
      by_cases h2 : 0 < K
      · have b2 : decide (0 < K) = true := decide_eq_true h2
        obtain ⟨j, hj⟩ : ∃ j : Nat, K = j + 1 := ⟨K - 1, by omega⟩
        have z1 : wrap64 ((K : Int) - 1) = (j : Int) := by rw [hj]; unfold wrap64; have := HL.out; omega
        have hjl : j < l0.length := by omega
        have hjz : (j : Int) < (l0.length : Int) := by omega
        obtain ⟨ad, e, _⟩ := HRD.out w j (Below.refl _ _) hjl
        cases e
        have R1 : r = (rd_T50 l0 (j : Int)).f1 := by rw [← HRR.out]; unfold thereW; rw [HK.out, if_neg h1, if_pos h2, hj]; rfl
        rw [R1]
        have H1 := Lib.hid hjl
        clear h1 h2 R1 hj hjl
        go_enter Tryz.func41, Tryz.ntmps41
        go_wp2_with (go_at_call 63; refine (HS.out _ rfl).mono ?_; rintro e w' ⟨rfl, hb⟩; have d1 := ((hb.block _ (blk_lt HB1.out)).trans HB1.out); have c1 := (blk_cell d1 0).trans rfl; have d2 := ((hb.block _ (blk_lt HBB.out)).trans HBB.out); have c2 := (blk_cell d2 0).trans rfl; have HBW := Lib.hid (HB2.out.trans (hb.mono HB2.out.size)); obtain ⟨ad', e', x0, x1, x2, x4⟩ := HRD.out w' j HBW.out H1.out; cases e'; clear hb d1 d2)
        go_quiet (fail)
        go_wp2
        go_ret
        exact ⟨rfl, pw_below_drewN HBW.out _⟩
      · have b2 : decide (0 < K) = false := decide_eq_false h2
        have R1 : r = 0 := by rw [← HRR.out]; unfold thereW; rw [HK.out, if_neg h1, if_neg h2]
        rw [R1]
        clear h1 h2 R1
        go_enter Tryz.func41, Tryz.ntmps41
        go_wp2_with (go_at_call 63; refine (HS.out _ rfl).mono ?_; rintro e w' ⟨rfl, hb⟩; have d1 := ((hb.block _ (blk_lt HB1.out)).trans HB1.out); have c1 := (blk_cell d1 0).trans rfl; have d2 := ((hb.block _ (blk_lt HBB.out)).trans HBB.out); have c2 := (blk_cell d2 0).trans rfl; have HBW := Lib.hid (HB2.out.trans (hb.mono HB2.out.size)); clear hb d1 d2)
        go_quiet (fail)
        go_wp2
        go_ret
        exact ⟨rfl, pw_below_drewN HBW.out _⟩
  · rw [if_neg hl] at h; cases h
end Go.Proofs.YtakfmcpjnkagmaaGreatDoor.P
namespace Go.Proofs.YtakfmcpjnkagmaaGreatDoor.P
open Go.Proofs.YtakfmcpjnkagmaaGreatDoorUFnExactPosOut.PrintLast Go.Proofs.YtakfmcpjnkagmaaGreatDoorUFnExactPosOut.PrintMore Go.Proofs.YtakfmcpjnkagmaaGreatDoorUFnExactPosOut.PrintWords Go.RowKit
set_option linter.unusedVariables false
set_option linter.unusedSimpArgs false
section
attribute [local go_sem] max2_int min2_int max_two min_two max_three min_three max_four min_four
def impl_PosOut.f (k : Nat) (l0_0 : List (S55)) (a1 : ByteArray) (a2 : Int) : Option (Int):=(impl_ofStream.f k l0_0 a1).bind fun t439=>((impl_spans_out.f t439 a2).bind fun t442=>(some t442))
set_option maxHeartbeats 8000000 in
set_option maxRecDepth 100000 in
theorem impl_PosOut.calls (k : Nat) (A0_0 : Option Addr) (c0_0 : Nat) (l0_0 : List (S55)) (a1 : ByteArray) (a2 : Int) (r : Int) (w : World) (hr0_0 : Kd.C k55 w A0_0 l0_0.length l0_0) (hc0_0 : l0_0.length ≤ c0_0) (h : impl_PosOut.f k l0_0 a1 a2 = some r) (hE : EnvE w) :
  Calls Tryz.prog 14 #[.agg #[.slice A0_0 l0_0.length c0_0],.string a1,.int .i64 a2] w fun e w'=>e = .returned (.int .i64 r) ∧ Below w.heap.size w w':=by
 have hu29:=Tryz.underlying29
 have HR0_0:=am hr0_0
 have HC0_0:=am hc0_0
 clear hr0_0 hc0_0
 have HB:=am (Below.refl w.heap.size w)
 have H : ((impl_ofStream.f k l0_0 a1).bind fun t439=>((impl_spans_out.f t439 a2).bind fun t442=>(some t442))) = some r:=h
 clear h
 obtain ⟨t439,A4,H⟩:=bse H
 try dsimp only at H
 obtain ⟨t442,A5,H⟩:=bse H
 try dsimp only at H
 obtain rfl:=Option.some.inj H
 go_enter Tryz.func14,Tryz.ntmps14
 go_wp2_with (first | ((with_reducible refine gD 3 rfl ?_);refine box_event rfl (N:=3) rfl (cs:=#[.slice A0_0 l0_0.length c0_0]) (t:=29) hr_ ?_;intro gb438 hg w6 hbox hb;have BK438:=am hbox;have GW438:=gwE HB hg;have GE438:=gwE HB hg;replace HB:=hbS HB hb;clear hb hbox hg;have:=bcell BK438 0;have:=bfz BK438 0) | ((with_reducible refine gC 37 rfl ?_);refine gL (some 9) Tryz.func37 #[.agg #[.slice A0_0 l0_0.length c0_0],.string a1] ?_;(with_reducible refine (impl_ofStream.calls k _ _ l0_0 a1 t439 _ ?side1 ?side2 A4.out (EnvE.below hE (bl HB))).mono ?_);(case side1=>exact m3_);(case side2=>exact HC0_0.out);rintro e w8 ⟨v440,rfl,ho0,hb⟩;refine ⟨_,rfl,?_⟩;have HO441:=am (Kd.R_lower ho0 (below_size (bl HB)));replace BK438:=bkB BK438 hb;replace HB:=hbS HB hb;(try clear hb);(try clear ho0);obtain ⟨Ao9,co9,eo9⟩:=Kd.R_slice HO441.out;subst eo9) | ((with_reducible refine gC 38 rfl ?_);refine gL (some 11) Tryz.func38 #[.slice Ao9 t439.length co9,.int .i64 a2] ?_;(with_reducible refine (impl_spans_out.calls _ _ t439 a2 t442 _ ?side1 ?side2 A5.out).mono ?_);(case side1=>exact rcx HO441);(case side2=>exact (Kd.R_reads' HO441.out).2.1);rintro e w10 ⟨rfl,hb⟩;refine ⟨_,rfl,?_⟩;replace HO441:=am (Kd.R_below (rs HO441) hb);replace BK438:=bkB BK438 hb;replace HB:=hbS HB hb;(try clear hb)))
 go_ret
 exact ⟨fi_,m2_⟩
def spec_l4Out.l0 : Nat → List (S50) → Int → Int → Int → Option (Int)
 | 0,_,_,_,_=>none
 | k + 1,x0,x1,x5,x6=>if x6 < (x0.length : Int) then (if 0 ≤ x6 then (if x1 < ((rd_T50 x0 x6).f1) then (some ((rd_T50 x0 x6).f2)) else (spec_l4Out.l0 k x0 x1 ((rd_T50 x0 x6).f3) (wrap64 (x6 + 1)))) else (none)) else (some x5)
def spec_l4Out.f (k : Nat) (l0 : List (S50)) (a1 : Int) : Option (Int):=spec_l4Out.l0 k l0 a1 0 0
set_option maxHeartbeats 8000000 in
set_option maxRecDepth 100000 in
theorem spec_l4Out.calls (k : Nat) (A0 : Option Addr) (c0 : Nat) (l0 : List (S50)) (a1 : Int) (r : Int) (w : World) (hr0 : Kd.C k50 w A0 l0.length l0) (hc0 : l0.length ≤ c0) (h : spec_l4Out.f k l0 a1 = some r) :
  Calls Tryz.prog 35 #[.slice A0 l0.length c0,.int .i64 a1] w fun e w'=>e = .returned (.int .i64 r) ∧ Drawn0 w w':=by
 have HR0:=am hr0
 have HC0:=am hc0
 clear hr0 hc0
 have H : (spec_l4Out.l0 k l0 a1 0 0) = some r:=h
 clear h
 have H':=am H
 clear H
 go_enter Tryz.func35,Tryz.ntmps35
 go_wp2
 go_loopg [5,6] k (fun kq v5 v6 w'=>∃ (x5_1 : Int) (x6_1 : Int),v5 = .int .i64 x5_1 ∧ v6 = .int .i64 x6_1 ∧ Aside0 (spec_l4Out.l0 kq l0 a1 x5_1 x6_1 = some r) ∧ Aside0 (kq ≤ k) ∧ Drawn0 w w')
 case atStart=>exact ⟨(0),(0),rs_,rs_,H',⟨Nat.le_refl _⟩,by repeat (first | exact Drawn0.refl _ | apply Drawn0.step)⟩
 case round=>
  clear H'
  try clear p2
  obtain ⟨x5_1,x6_1,rfl,rfl,HA,HK1,⟨m1,rfl⟩⟩:=hrel
  cases gk with
  | zero=>exact absurd HA.out (by simp [spec_l4Out.l0])
  | succ k1=>
   have H:=HA.out
   clear HA
   simp only [spec_l4Out.l0] at H
   by_cases c3 : x6_1 < (l0.length : Int)
   ·rw [if_pos c3] at H
    have c3b0 : decide (x6_1 < (l0.length : Int)) = true:=decide_eq_true c3
    clear c3
    by_cases c4 : 0 ≤ x6_1
    ·rw [if_pos c4] at H
     have c4b0 : decide (0 ≤ x6_1) = true:=decide_eq_true c4
     clear c4
     by_cases c5 : a1 < ((rd_T50 l0 x6_1).f1)
     ·rw [if_pos c5] at H
      have c5b0 : decide (a1 < ((rd_T50 l0 x6_1).f1)) = true:=decide_eq_true c5
      clear c5
      obtain rfl:=Option.some.inj H
      have p254 : 0 ≤ (x6_1 : Int):=of_decide_eq_true da_
      have q254 : x6_1 < (l0.length : Int):=of_decide_eq_true da_
      obtain ⟨ad254,e254,hx254_0,hx254_1,hx254_2,hx254_3,hx254_4⟩:=at_T50 HR0.out x6_1 p254 q254
      cases e254
      replace p254:=eq_true p254
      replace q254:=eq_true q254
      have p255 : 0 ≤ (x6_1 : Int):=of_decide_eq_true da_
      have q255 : x6_1 < (l0.length : Int):=of_decide_eq_true da_
      obtain ⟨ad255,e255,hx255_0,hx255_1,hx255_2,hx255_3,hx255_4⟩:=at_T50 HR0.out x6_1 p255 q255
      obtain rfl : ad254 = ad255:=(by injection e255)
      replace p255:=eq_true p255
      replace q255:=eq_true q255
      go_wp2
      go_ret
      exact ⟨fr_,dn_⟩
     ·rw [if_neg c5] at H
      have c5b0 : decide (a1 < ((rd_T50 l0 x6_1).f1)) = false:=decide_eq_false c5
      clear c5
      have H':=am H
      clear H
      have p254 : 0 ≤ (x6_1 : Int):=of_decide_eq_true da_
      have q254 : x6_1 < (l0.length : Int):=of_decide_eq_true da_
      obtain ⟨ad254,e254,hx254_0,hx254_1,hx254_2,hx254_3,hx254_4⟩:=at_T50 HR0.out x6_1 p254 q254
      cases e254
      replace p254:=eq_true p254
      replace q254:=eq_true q254
      have p256 : 0 ≤ (x6_1 : Int):=of_decide_eq_true da_
      have q256 : x6_1 < (l0.length : Int):=of_decide_eq_true da_
      obtain ⟨ad256,e256,hx256_0,hx256_1,hx256_2,hx256_3,hx256_4⟩:=at_T50 HR0.out x6_1 p256 q256
      obtain rfl : ad254 = ad256:=(by injection e256)
      replace p256:=eq_true p256
      replace q256:=eq_true q256
      go_wp2
      go_roundg k1
      case measure=>have:=HK1.out;omega
      case rel=>exact ⟨((rd_T50 l0 x6_1).f3),(wrap64 (x6_1 + 1)),rs_,rs_,H',⟨by have:=HK1.out;omega⟩,by repeat (first | exact Drawn0.refl _ | apply Drawn0.step)⟩
    ·rw [if_neg c4] at H
     exact absurd H (by simp)
   ·rw [if_neg c3] at H
    have c3b0 : decide (x6_1 < (l0.length : Int)) = false:=decide_eq_false c3
    clear c3
    obtain rfl:=Option.some.inj H
    go_wp2
    go_ret
    exact ⟨fr_,dn_⟩
def spec_PosOut.f (k : Nat) (l0_0 : List (S55)) (a1 : ByteArray) (a2 : Int) : Option (Int):=(spec_PosSpans.f k l0_0 a1).bind fun t258=>((spec_l4Out.f k t258 a2).bind fun t261=>(some t261))
set_option maxHeartbeats 8000000 in
set_option maxRecDepth 100000 in
theorem spec_PosOut.calls (k : Nat) (A0_0 : Option Addr) (c0_0 : Nat) (l0_0 : List (S55)) (a1 : ByteArray) (a2 : Int) (r : Int) (w : World) (hr0_0 : Kd.C k55 w A0_0 l0_0.length l0_0) (hc0_0 : l0_0.length ≤ c0_0) (h : spec_PosOut.f k l0_0 a1 a2 = some r) :
  Calls Tryz.prog 12 #[.agg #[.slice A0_0 l0_0.length c0_0],.string a1,.int .i64 a2] w fun e w'=>e = .returned (.int .i64 r) ∧ Below w.heap.size w w':=by
 have hu29:=Tryz.underlying29
 have HR0_0:=am hr0_0
 have HC0_0:=am hc0_0
 clear hr0_0 hc0_0
 have HB:=am (Below.refl w.heap.size w)
 have H : ((spec_PosSpans.f k l0_0 a1).bind fun t258=>((spec_l4Out.f k t258 a2).bind fun t261=>(some t261))) = some r:=h
 clear h
 obtain ⟨t258,A4,H⟩:=bse H
 try dsimp only at H
 obtain ⟨t261,A5,H⟩:=bse H
 try dsimp only at H
 obtain rfl:=Option.some.inj H
 go_enter Tryz.func12,Tryz.ntmps12
 go_wp2_with (first | ((with_reducible refine gD 3 rfl ?_);refine box_event rfl (N:=3) rfl (cs:=#[.slice A0_0 l0_0.length c0_0]) (t:=29) hr_ ?_;intro gb257 hg w6 hbox hb;have BK257:=am hbox;have GW257:=gwE HB hg;have GE257:=gwE HB hg;replace HB:=hbS HB hb;clear hb hbox hg;have:=bcell BK257 0;have:=bfz BK257 0) | ((with_reducible refine gC 18 rfl ?_);refine gL (some 9) Tryz.func18 #[.agg #[.slice A0_0 l0_0.length c0_0],.string a1] ?_;(with_reducible refine (spec_PosSpans.calls k _ _ l0_0 a1 t258 _ ?side1 ?side2 A4.out).mono ?_);(case side1=>exact m3_);(case side2=>exact HC0_0.out);rintro e w8 ⟨v259,rfl,ho0,hb⟩;refine ⟨_,rfl,?_⟩;have HO260:=am (Kd.R_lower ho0 (below_size (bl HB)));replace BK257:=bkB BK257 hb;replace HB:=hbS HB hb;(try clear hb);(try clear ho0);obtain ⟨Ao9,co9,eo9⟩:=Kd.R_slice HO260.out;subst eo9) | ((with_reducible refine gC 35 rfl ?_);refine gL (some 11) Tryz.func35 #[.slice Ao9 t258.length co9,.int .i64 a2] ?_;(with_reducible refine (spec_l4Out.calls k _ _ t258 a2 t261 _ ?side1 ?side2 A5.out).mono ?_);(case side1=>exact rcx HO260);(case side2=>exact (Kd.R_reads' HO260.out).2.1);rintro e w' ⟨rfl,⟨nd,rfl⟩⟩;refine ⟨_,rfl,?_⟩))
 go_ret
 exact ⟨fi_,m2_⟩
end
end Go.Proofs.YtakfmcpjnkagmaaGreatDoor.P
namespace Go.Proofs.YtakfmcpjnkagmaaGreatDoor.P
open Go.RowKit Go.Proofs.YtakfmcpjnkagmaaGreatDoorUFnExactPosOut.PrintWords Go.Proofs.YtakfmcpjnkagmaaGreatDoorUFnExactPosOut.PrintLast Go.Proofs.YtakfmcpjnkagmaaGreatDoorUFnExactPosOut.PrintMore
set_option linter.unusedVariables false
set_option linter.unusedSimpArgs false
theorem bsN_spec {p : Nat → Bool} {n : Nat} (mono : ∀ i j, i ≤ j → j < n → p i = true → p j = true) : ∀ (m i j : Nat), j - i ≤ m → i ≤ j → j ≤ n → (∀ t, t < i → p t = false) → (∀ t, j ≤ t → t < n → p t = true) →
    bsN p m i j ≤ n ∧ (∀ t, t < bsN p m i j → p t = false) ∧ (∀ t, bsN p m i j ≤ t → t < n → p t = true)
  | 0, i, j, hm, hij, hj, h1, h2 => by
    have e : i = j := by omega
    subst e
    unfold bsN
    exact ⟨hj, h1, h2⟩
  | m + 1, i, j, hm, hij, hj, h1, h2 => by
    unfold bsN
    by_cases hlt : i < j
    · rw [if_pos hlt]
      cases c : p ((i + j) / 2) with
      | true =>
        rw [if_pos rfl]
        exact bsN_spec mono m i ((i + j) / 2) (by omega) (by omega) (by omega) h1 (fun t ht hn => mono _ _ ht hn c)
      | false =>
        rw [if_neg (by simp)]
        refine bsN_spec mono m ((i + j) / 2 + 1) j (by omega) (by omega) hj (fun t ht => ?_) h2
        cases ct : p t with
        | false => rfl
        | true => rw [mono t ((i + j) / 2) (by omega) (by omega) ct] at c; cases c
    · rw [if_neg hlt]
      have e : i = j := by omega
      subst e
      exact ⟨hj, h1, h2⟩
structure Rise (L : List S50) (A B : Nat → Int) (Q : Nat → Bool) : Prop where
  small : L.length ≤ 1000000
  get : ∀ i, i < L.length → rd_T50 L (i : Int) = ⟨A i, A (i + 1), B i, B (i + 1), Q i⟩
  a0 : A 0 = 0
  b0 : B 0 = 0
  up : ∀ i, i < L.length → A i < A (i + 1) ∧ B i < B (i + 1)
namespace Rise
variable {L : List S50} {A B : Nat → Int} {Q : Nat → Bool}
theorem le (R : Rise L A B Q) : ∀ (j i : Nat), i ≤ j → j ≤ L.length → A i ≤ A j ∧ B i ≤ B j
  | 0, i, h, _ => by have : i = 0 := by omega
                     subst this; omega
  | j + 1, i, h, hj => by
    have u := R.up j (by omega)
    by_cases e : i = j + 1
    · subst e; omega
    · have := le R j i (by omega) (by omega); omega
theorem lt (R : Rise L A B Q) {i j : Nat} (h : i < j) (hj : j ≤ L.length) : A i < A j ∧ B i < B j := by
  have := R.up i (by omega)
  have := R.le j (i + 1) (by omega) hj
  omega
theorem out (R : Rise L A B Q) (x : Int) : ∃ K, K ≤ L.length ∧ outW L x = B K ∧ (∀ t, t < K → A (t + 1) ≤ x) ∧ (∀ t, K ≤ t → t < L.length → x < A (t + 1)) := by
  have hg : ∀ i, i < L.length → decide (x < (rd_T50 L (i : Int)).f1) = decide (x < A (i + 1)) := fun i hi => by rw [R.get i hi]
  obtain ⟨h1, h2, h3⟩ := bsN_spec (p := fun i => decide (x < (rd_T50 L (i : Int)).f1)) (n := L.length) (fun i j hij hj hi => by
    try dsimp only at hi ⊢
    rw [hg j hj]
    rw [hg i (by omega)] at hi
    have := R.le (j + 1) (i + 1) (by omega) (by omega)
    have := of_decide_eq_true hi
    exact decide_eq_true (by omega)) L.length 0 L.length (by omega) (Nat.zero_le _) (Nat.le_refl _) (fun t ht => by omega) (fun t h1 h2 => by omega)
  refine ⟨outK L x, h1, ?_, fun t ht => ?_, fun t ht hn => ?_⟩
  · have h1 : outK L x ≤ L.length := h1
    unfold outW
    by_cases c : outK L x < L.length
    · rw [if_pos c, R.get _ c]
    · rw [if_neg c]
      by_cases c0 : 0 < outK L x
      · rw [if_pos c0, R.get _ (by omega), Nat.sub_add_cancel c0]
      · have e : outK L x = 0 := by omega
        rw [if_neg c0, e, R.b0]
  · have := h2 t ht
    try dsimp only at this
    have ht : t < outK L x := ht
    have h1 : outK L x ≤ L.length := h1
    rw [hg t (by omega)] at this
    have := of_decide_eq_false this
    omega
  · have := h3 t ht hn
    try dsimp only at this
    rw [hg t hn] at this
    exact of_decide_eq_true this
theorem out_is (R : Rise L A B Q) {x : Int} {i : Nat} (hi : i ≤ L.length) (h1 : ∀ t, t < i → A (t + 1) ≤ x) (h2 : i < L.length → x < A (i + 1)) : outW L x = B i := by
  obtain ⟨K, k0, k1, k2, k3⟩ := R.out x
  rcases Nat.lt_trichotomy K i with h | h | h
  · have := h1 K h; have := k3 K (Nat.le_refl _) (by omega); omega
  · rw [k1, h]
  · have := k2 i h; have := h2 (by omega); omega
theorem l4Out_a (R : Rise L A B Q) (x : Int) : Ans (fun k => spec_l4Out.f k L x) (fun r => r = outW L x) := by
  have hs := R.small
  have S : ∀ (m i : Nat), L.length - i = m → i ≤ L.length → (∀ t, t < i → A (t + 1) ≤ x) → Ans (fun k => spec_l4Out.l0 k L x (B i) (i : Int)) (fun r => r = outW L x) := by
    intro m
    induction m with
    | zero =>
      intro i hm hi h
      refine Ans.succ ?_
      unfold spec_l4Out.l0
      exact Ans.neg (by omega) (Ans.pure (R.out_is hi h (fun h => by omega)).symm)
    | succ m ih =>
      intro i hm hi h
      have hlt : i < L.length := by omega
      have hw : wrap64 ((i : Int) + 1) = ((i + 1 : Nat) : Int) := w64 _ (by omega)
      refine Ans.succ ?_
      unfold spec_l4Out.l0
      rw [R.get i hlt, hw]
      dsimp only
      refine Ans.pos (by omega) (Ans.pos (by omega) (Ans.ite (fun c => Ans.pure (R.out_is hi h (fun _ => c)).symm) (fun c => ?_)))
      refine ih (i + 1) (by omega) (by omega) (fun t ht => ?_)
      by_cases e : t = i
      · subst e; omega
      · exact h t (by omega)
  have := S _ 0 rfl (Nat.zero_le _) (fun t h => by omega)
  rw [R.b0] at this
  exact this
end Rise
def sumS : List ByteArray → Nat
  | [] => 0
  | x :: xs => x.size + 1 + sumS xs
theorem sumS_take {xs : List ByteArray} {i : Nat} (h : i < xs.length) : sumS (xs.take (i + 1)) = sumS (xs.take i) + xs[i].size + 1 := by
  induction xs generalizing i with
  | nil => simp at h
  | cons x xs ih =>
    cases i with
    | zero => simp [sumS]
    | succ i =>
      simp only [List.take_succ_cons, sumS, List.getElem_cons_succ]
      have := ih (i := i) (by simpa using h)
      omega
theorem rdSpan_get {l : List S50} {i : Nat} (h : i < l.length) : rd_T50 l (i : Int) = l[i] := by
  unfold rd_T50
  simp [List.getD, h]
theorem spanL_get : ∀ (xs ys : List ByteArray) (a b : Int) (i : Nat) (h : i < (spanL xs ys a b).length) (h1 : i < xs.length) (h2 : i < ys.length),
    (spanL xs ys a b)[i] = ⟨a + sumS (xs.take i), a + sumS (xs.take (i + 1)), b + sumS (ys.take i), b + sumS (ys.take (i + 1)), (xs[i].toList == ys[i].toList)⟩
  | x :: xs, y :: ys, a, b, 0, h, h1, h2 => by simp [spanL, sumS, Int.add_assoc]
  | x :: xs, y :: ys, a, b, i + 1, h, h1, h2 => by
    have e := spanL_get xs ys (a + x.size + 1) (b + y.size + 1) i (by simpa [spanL] using h) (by simpa using h1) (by simpa using h2)
    simp only [spanL, List.getElem_cons_succ, List.take_succ_cons, sumS]
    rw [e]
    congr 1 <;> push_cast <;> omega
  | [], _, _, _, i, h, h1, h2 => by simp at h1
  | _ :: _, [], _, _, i, h, h1, h2 => by simp at h2
def plainQ (xs ys : List ByteArray) (i : Nat) : Bool := (xs.getD i ByteArray.empty).toList == (ys.getD i ByteArray.empty).toList
theorem rise_of (xs ys : List ByteArray) (h : xs.length = ys.length) (hs : xs.length ≤ 1000000) : Rise (spanL xs ys 0 0) (fun i => (sumS (xs.take i) : Int)) (fun i => (sumS (ys.take i) : Int)) (plainQ xs ys) where
  small := by rw [spanL_len]; omega
  get := fun i hi => by
    have hi' := hi
    rw [spanL_len] at hi
    rw [rdSpan_get hi', spanL_get _ _ _ _ _ hi' (by omega) (by omega)]
    have h1 : i < xs.length := by omega
    have h2 : i < ys.length := by omega
    simp [plainQ, List.getD, h1, h2]
  a0 := by simp [sumS]
  b0 := by simp [sumS]
  up := fun i hi => by
    rw [spanL_len] at hi
    try dsimp only
    rw [sumS_take (xs := xs) (i := i) (by omega), sumS_take (xs := ys) (i := i) (by omega)]
    omega
theorem rise_nil : Rise [] (fun _ => 0) (fun _ => 0) (fun _ => false) := ⟨by simp, fun i h => by simp at h, rfl, rfl, fun i h => by simp at h⟩
theorem rise_pos (l : List S55) (s : ByteArray) (hs : s.size ≤ 1000000) : ∃ A B Q, Rise (posL l s) A B Q := by
  unfold posL
  split
  · exact ⟨_, _, _, rise_of _ _ (farsL_length _ _).symm (by have := (linesB_size s).1; omega)⟩
  · exact ⟨_, _, _, rise_nil⟩
theorem posL_small (l : List S55) (s : ByteArray) : (posL l s).length ≤ 120 := by
  unfold posL
  split
  · rename_i h
    simp only [Bool.and_eq_true] at h
    obtain ⟨h120, _⟩ := strOkW_parts h.2
    have := (linesB_size s).1
    rw [spanL_len]; omega
  · simp
theorem rise_pos' (l : List S55) (s : ByteArray) : ∃ A B Q, Rise (posL l s) A B Q := by
  cases c : okT l && strOkW s with
  | false => unfold posL; rw [c]; exact ⟨_, _, _, rise_nil⟩
  | true =>
    simp only [Bool.and_eq_true] at c
    obtain ⟨h120, _⟩ := strOkW_parts c.2
    exact rise_pos l s (by omega)
theorem implPosOut_a (l : List S55) (hl : l.length ≤ 2000000) (s : ByteArray) (hs : s.size ≤ 1048576) (x : Int) : Ans (fun k => impl_PosOut.f k l s x) (fun r => r = outW (posL l s) x) := by
  unfold impl_PosOut.f
  refine Ans.bind (implOfStream_a l hl s hs) ?_
  rintro _ rfl
  unfold impl_spans_out.f
  rw [if_pos (by have := posL_small l s; omega)]
  exact Ans.bsome (Ans.pure rfl)
theorem specPosOut_a (l : List S55) (hl : l.length ≤ 2000000) (s : ByteArray) (hs : s.size ≤ 1048576) (x : Int) : Ans (fun k => spec_PosOut.f k l s x) (fun r => r = outW (posL l s) x) := by
  obtain ⟨A, B, Q, R⟩ := rise_pos' l s
  unfold spec_PosOut.f
  refine Ans.bind (specPosSpans_a l hl s hs) ?_
  rintro _ rfl
  refine Ans.bind (R.l4Out_a x) ?_
  rintro _ rfl
  exact Ans.pure rfl
end Go.Proofs.YtakfmcpjnkagmaaGreatDoor.P
namespace Go.Proofs.YtakfmcpjnkagmaaGreatDoor.P
open Go.Proofs.YtakfmcpjnkagmaaGreatDoorUFnExactPosOut.PrintLast Go.Proofs.YtakfmcpjnkagmaaGreatDoorUFnExactPosOut.PrintMore Go.Proofs.YtakfmcpjnkagmaaGreatDoorUFnExactPosOut.PrintWords Go.RowKit
set_option linter.unusedVariables false
set_option linter.unusedSimpArgs false
section
attribute [local go_sem] max2_int min2_int max_two min_two max_three min_three max_four min_four
def laws_FnExactPosOut.f (k : Nat) (l0_0 : List (S77)) (a1 : ByteArray) (a2 : Int) : Option (Bool):=if (a1.size : Int) > 1048576 then (some true) else ((laws_szMapTab.f l0_0 1048576).bind fun t452=>(if t452 < 0 then (some true) else ((laws_toMapTab.f k l0_0).bind fun t453=>((spec_PosOut.f k t453 a1 a2).bind fun t456=>((laws_toMapTab.f k l0_0).bind fun t457=>((impl_PosOut.f k t457 a1 a2).bind fun t461=>(if t461 = t456 then ((laws_toMapTab.f k l0_0).bind fun t462=>((laws_eqMapTab.f k t457 t462).bind fun t465=>(if t465 = true then (some true) else (some false)))) else (some false))))))))
set_option maxHeartbeats 8000000 in
set_option maxRecDepth 100000 in
theorem laws_FnExactPosOut.calls (k : Nat) (A0_0 : Option Addr) (c0_0 : Nat) (l0_0 : List (S77)) (a1 : ByteArray) (a2 : Int) (r : Bool) (w : World) (hr0_0 : Kd.C k77 w A0_0 l0_0.length l0_0) (hc0_0 : l0_0.length ≤ c0_0) (h : laws_FnExactPosOut.f k l0_0 a1 a2 = some r) (hrt : Aside0 (r = true)) (hE : EnvE w) :
  Calls Tryz.prog 3 #[.agg #[.slice A0_0 l0_0.length c0_0],.string a1,.int .i64 a2] w fun e w'=>e = .returned (.bool r) ∧ Below w.heap.size w w':=by
 have hu24:=Tryz.underlying24
 have hu29:=Tryz.underlying29
 have HR0_0:=am hr0_0
 have HC0_0:=am hc0_0
 clear hr0_0 hc0_0
 have HB:=am (Below.refl w.heap.size w)
 have H : (if (a1.size : Int) > 1048576 then (some true) else ((laws_szMapTab.f l0_0 1048576).bind fun t452=>(if t452 < 0 then (some true) else ((laws_toMapTab.f k l0_0).bind fun t453=>((spec_PosOut.f k t453 a1 a2).bind fun t456=>((laws_toMapTab.f k l0_0).bind fun t457=>((impl_PosOut.f k t457 a1 a2).bind fun t461=>(if t461 = t456 then ((laws_toMapTab.f k l0_0).bind fun t462=>((laws_eqMapTab.f k t457 t462).bind fun t465=>(if t465 = true then (some true) else (some false)))) else (some false))))))))) = some r:=h
 clear h
 by_cases c4 : (a1.size : Int) > 1048576
 ·rw [if_pos c4] at H
  have c4b0 : decide (1048576 < (a1.size : Int)) = true:=decide_eq_true c4
  have c4b1 : decide (1048576 < a1.size) = true:=decide_eq_true (by omega)
  clear c4
  obtain rfl:=Option.some.inj H
  go_enter Tryz.func3,Tryz.ntmps3
  go_wp2_with (first | ((with_reducible refine gD 3 rfl ?_);refine box_event rfl (N:=3) rfl (cs:=#[.slice A0_0 l0_0.length c0_0]) (t:=24) hr_ ?_;intro gb451 hg w5 hbox hb;have BK451:=am hbox;have GW451:=gwE HB hg;have GE451:=gwE HB hg;replace HB:=hbS HB hb;clear hb hbox hg))
  go_ret
  exact ⟨fi_,m2_⟩
 ·rw [if_neg c4] at H
  have c4b0 : decide (1048576 < (a1.size : Int)) = false:=decide_eq_false c4
  have c4b1 : decide (1048576 < a1.size) = false:=decide_eq_false (by omega)
  clear c4
  obtain ⟨t452,A6,H⟩:=bse H
  try dsimp only at H
  by_cases c7 : t452 < 0
  ·rw [if_pos c7] at H
   have c7b0 : decide (t452 < 0) = true:=decide_eq_true c7
   clear c7
   obtain rfl:=Option.some.inj H
   go_enter Tryz.func3,Tryz.ntmps3
   go_wp2_with (first | ((with_reducible refine gD 3 rfl ?_);refine box_event rfl (N:=3) rfl (cs:=#[.slice A0_0 l0_0.length c0_0]) (t:=24) hr_ ?_;intro gb451 hg w8 hbox hb;have BK451:=am hbox;have GW451:=gwE HB hg;have GE451:=gwE HB hg;replace HB:=hbS HB hb;clear hb hbox hg;have:=bcell BK451 0;have:=bfz BK451 0) | ((with_reducible refine gC 11 rfl ?_);refine gL (some 16) Tryz.func11 #[.agg #[.slice A0_0 l0_0.length c0_0],.int .i64 1048576] ?_;(with_reducible refine (laws_szMapTab.calls _ _ l0_0 1048576 t452 _ ?side1 ?side2 A6.out).mono ?_);(case side1=>exact m3_);(case side2=>exact HC0_0.out);rintro e w10 ⟨rfl,hb⟩;refine ⟨_,rfl,?_⟩;replace BK451:=bkB BK451 hb;replace HB:=hbS HB hb;(try clear hb)))
   go_ret
   exact ⟨fi_,m2_⟩
  ·rw [if_neg c7] at H
   have c7b0 : decide (t452 < 0) = false:=decide_eq_false c7
   clear c7
   obtain ⟨t453,A11,H⟩:=bse H
   try dsimp only at H
   obtain ⟨t456,A12,H⟩:=bse H
   try dsimp only at H
   obtain ⟨t457,A13,H⟩:=bse H
   try dsimp only at H
   obtain ⟨t461,A14,H⟩:=bse H
   try dsimp only at H
   by_cases c15 : t461 = t456
   ·rw [if_pos c15] at H
    have c15b0 : (t461 == t456) = true:=beq_iff_eq.mpr c15
    have c15b1 : (t461 != t456) = false:=bne_eq_false_iff_eq.mpr c15
    clear c15
    obtain ⟨t462,A16,H⟩:=bse H
    try dsimp only at H
    obtain ⟨t465,A17,H⟩:=bse H
    try dsimp only at H
    by_cases c18 : t465 = true
    ·subst c18
     have H1 : (some true) = some r:=by rw [if_pos rfl] at H;exact H
     clear H
     have H:=H1
     clear H1
     obtain rfl:=Option.some.inj H
     go_enter Tryz.func3,Tryz.ntmps3
     try go_wp2_with (first | ((with_reducible refine gD 3 rfl ?_);refine box_event rfl (N:=3) rfl (cs:=#[.slice A0_0 l0_0.length c0_0]) (t:=24) hr_ ?_;intro gb451 hg w19 hbox hb;have BK451:=am hbox;have GW451:=gwE HB hg;have GE451:=gwE HB hg;replace HB:=hbS HB hb;clear hb hbox hg;have:=bcell BK451 0;have:=bfz BK451 0) | ((with_reducible refine gC 11 rfl ?_);refine gL (some 16) Tryz.func11 #[.agg #[.slice A0_0 l0_0.length c0_0],.int .i64 1048576] ?_;(with_reducible refine (laws_szMapTab.calls _ _ l0_0 1048576 t452 _ ?side1 ?side2 A6.out).mono ?_);(case side1=>exact m3_);(case side2=>exact HC0_0.out);rintro e w21 ⟨rfl,hb⟩;refine ⟨_,rfl,?_⟩;replace BK451:=bkB BK451 hb;replace HB:=hbS HB hb;(try clear hb);have:=bcell BK451 0;have:=bfz BK451 0) | ((with_reducible refine gC 13 rfl ?_);refine gL (some 20) Tryz.func13 #[.agg #[.slice A0_0 l0_0.length c0_0]] ?_;(with_reducible refine (laws_toMapTab.calls k _ _ l0_0 t453 _ ?side1 ?side2 A11.out).mono ?_);(case side1=>exact m3_);(case side2=>exact HC0_0.out);rintro e w23 ⟨v454,rfl,ho0,hb⟩;refine ⟨_,rfl,?_⟩;have HO455:=am (Kd.R_lower ho0 (below_size (bl HB)));replace BK451:=bkB BK451 hb;replace HB:=hbS HB hb;(try clear hb);(try clear ho0);obtain ⟨Ao24,co24,eo24⟩:=Kd.R_slice HO455.out;subst eo24) | ((with_reducible refine gC 12 rfl ?_);refine gL (some 23) Tryz.func12 #[.agg #[.slice Ao24 t453.length co24],.string a1,.int .i64 a2] ?_;(with_reducible refine (spec_PosOut.calls k _ _ t453 a1 a2 t456 _ ?side1 ?side2 A12.out).mono ?_);(case side1=>exact rcx HO455);(case side2=>exact (Kd.R_reads' HO455.out).2.1);rintro e w25 ⟨rfl,hb⟩;refine ⟨_,rfl,?_⟩;replace HO455:=am (Kd.R_below (rs HO455) hb);replace BK451:=bkB BK451 hb;replace HB:=hbS HB hb;(try clear hb);have:=bcell BK451 0;have:=bfz BK451 0) | ((with_reducible refine gC 13 rfl ?_);refine gL (some 25) Tryz.func13 #[.agg #[.slice A0_0 l0_0.length c0_0]] ?_;(with_reducible refine (laws_toMapTab.calls k _ _ l0_0 t457 _ ?side1 ?side2 A13.out).mono ?_);(case side1=>exact m3_);(case side2=>exact HC0_0.out);rintro e w27 ⟨v458,rfl,ho0,hb⟩;refine ⟨_,rfl,?_⟩;have HO459:=am (Kd.R_lower (Kd.R_new' ho0 (Kd.R_lt (rs HO455))) (below_size (bl HB)));replace HO455:=am (Kd.R_elder' (rs HO455) (Kd.R_base ho0) hb);replace BK451:=bkB BK451 hb;replace HB:=hbS HB hb;(try clear hb);(try clear ho0)) | ((with_reducible refine gD 9 rfl ?_);refine box_event rfl (N:=9) rfl (cs:=#[.slice none 0 0]) (t:=29) hr_ ?_;intro gb460 hg w28 hbox hb;replace HO455:=am (Kd.R_below (rs HO455) hb);replace HO459:=am (Kd.R_below (rs HO459) hb);have BK460:=am hbox;have GW460:=gwE HB hg;have GE460:=gwE HB hg;replace HB:=hbS HB hb;have NB451_460:=neL BK451 hg;have NB460_451:=neG BK451 hg;replace BK451:=bkB BK451 hb;clear hb hbox hg;obtain ⟨Ao29,co29,eo29⟩:=Kd.R_slice HO459.out;subst eo29;have:=NB460_451.out;have:=NB451_460.out;have:=bcell BK460 0;have:=bfz BK460 0) | ((with_reducible refine gC 14 rfl ?_);refine gL (some 29) Tryz.func14 #[.agg #[.slice Ao29 t457.length co29],.string a1,.int .i64 a2] ?_;(with_reducible refine (impl_PosOut.calls k _ _ t457 a1 a2 t461 _ ?side1 ?side2 A14.out (EnvE.below hE (bl HB))).mono ?_);(case side1=>refine (Kd.R_reads' (e:=55) (base:=w.heap.size) (ok:=fun k_=>(True ∧ some k_ ≠ (.slice Ao24 t453.length co24 : Value).ownBlock)) (n:=t457.length) (c:=co29) ?_).2.2;exact (by (with_reducible repeat apply ru);exact (Kd.R_mono (Kd.R_far (p:=⟨gb460,0,none⟩) (Kd.R_types HO459.out BK460.out (by decide)) (fun _ hk=>hk.2) (.slice Ao29 t457.length co29)) (fun _ h_=>h_.1))));(case side2=>exact (Kd.R_reads' HO459.out).2.1);rintro e w32 ⟨rfl,hb⟩;refine ⟨_,rfl,?_⟩;replace HO455:=am (Kd.R_below (by (with_reducible repeat apply ru);exact (Kd.R_mono (Kd.R_far (p:=⟨gb460,0,none⟩) (Kd.R_types HO455.out BK460.out (by decide)) (fun _ hk=>hk.2) (.slice Ao29 t457.length co29)) (fun _ h_=>h_.1))) hb);replace HO459:=am (Kd.R_below (by (with_reducible repeat apply ru);exact (Kd.R_mono (Kd.R_far (p:=⟨gb460,0,none⟩) (Kd.R_types HO459.out BK460.out (by decide)) (fun _ hk=>hk.2) (.slice Ao29 t457.length co29)) (fun _ h_=>h_.1))) hb);replace BK451:=am (blk_below (g:=gb451) (o:=.cells #[.slice A0_0 l0_0.length c0_0] 24 (0,0)) (by (with_reducible repeat refine bu ?_);refine blk_far ?_ NB451_460.out _;(with_reducible repeat refine bu ?_);exact BK451.out) hb);replace BK460:=am (blk_below (g:=gb460) (o:=.cells #[.slice Ao29 t457.length co29] 29 (0,0)) (by (with_reducible repeat refine bu ?_);refine blk_put (cs:=#[.slice none 0 0]) ?_ 0 _ rfl;(with_reducible repeat refine bu ?_);exact BK460.out) hb);replace HB:=hbS HB hb;(try clear hb);(try clear hk)))
     replace HO455:=am (Kd.R_drew HO455.out)
     replace HO459:=am (Kd.R_drew HO459.out)
     replace BK451:=am (blk_drew BK451.out)
     replace BK460:=am (blk_drew BK460.out)
     replace HB:=am (below_drew1 HB.out)
     refine start_ (n:=5) (S:=fun w'=>w'.cell? ⟨gb460,0,none⟩ = some (.slice Ao29 t457.length co29) ∧ w'.cell? ⟨gb451,0,none⟩ = some (.slice A0_0 l0_0.length c0_0)) (ds:=[]) #[false,false,false,false,false] (by kernel_rfl) rfl rfl ⟨bcell BK460 0,bcell BK451 0⟩ (fun hHeld=>?_)
     generalize w32.drew = w33 at HO455 HO459 BK451 BK460 HB hHeld ⊢
     refine tk_ 0 (some 33) (bm 5 1) rfl (.inl ⟨rfl,m4_⟩) ?_
     refine tk_ 1 (some 34) (bm 5 3) rfl (.inl ⟨rfl,m4_⟩) ?_
     refine one_ (i:=2) (N:=some 35) #[true,true,true,false,false] rfl rfl (by kernel_rfl) (by decide) (fun K hK=>?_)
     refine gR Tryz.func13 #[.agg #[.slice A0_0 l0_0.length c0_0]] ?_
     with_reducible refine (laws_toMapTab.calls k _ _ l0_0 t462 _ ?side1 ?side2 A16.out).mono ?_
     (case side1=>exact m3_)
     (case side2=>exact HC0_0.out)
     rintro e w34 ⟨v463,rfl,ho0,hb⟩
     refine ⟨_,rfl,?_⟩
     have HO464:=am (Kd.R_lower (Kd.R_new' (Kd.R_new' ho0 (Kd.R_lt (rs HO455))) (Kd.R_lt (rs HO459))) (below_size (bl HB)))
     replace HO455:=am (Kd.R_elder' (rs HO455) (Kd.R_base ho0) hb)
     replace HO459:=am (Kd.R_elder' (rs HO459) (Kd.R_base ho0) hb)
     replace BK451:=bkB BK451 hb
     replace BK460:=bkB BK460 hb
     replace HB:=hbS HB hb
     (try clear hb)
     (try clear hb2)
     (try clear hk)
     (try clear hi)
     (try clear ho0)
     obtain ⟨Ao35,co35,eo35⟩:=Kd.R_slice HO464.out
     (first | subst eo35 | (injection eo35 with f1_ f2_ f3_;have f4_:=f1_.symm;have f5_:=f3_.symm;clear f1_ f2_ f3_;subst f4_;subst f5_))
     refine hK.out _ _ ⟨bcell BK460 0,bcell BK451 0⟩ (fun hHeld=>?_)
     clear hK K
     refine nm_ ?_
     refine one_ (i:=3) (N:=some 36) #[true,true,true,true,false] rfl rfl (by kernel_rfl) (by decide) (fun K hK=>?_)
     refine gR Tryz.func15 #[.agg #[.slice Ao29 t457.length co29],.agg #[.slice Ao35 t462.length co35]] ?_
     with_reducible refine (laws_eqMapTab.calls k _ _ t457 _ _ t462 true _ ?side1 ?side2 ?side3 ?side4 A17.out).mono ?_
     (case side1=>exact rcx HO459)
     (case side2=>exact (Kd.R_reads' HO459.out).2.1)
     (case side3=>exact rcx HO464)
     (case side4=>exact (Kd.R_reads' HO464.out).2.1)
     rintro e w36 ⟨rfl,hb⟩
     refine ⟨_,rfl,?_⟩
     replace HO455:=am (Kd.R_below (rs HO455) hb)
     replace HO459:=am (Kd.R_below (rs HO459) hb)
     replace HO464:=am (Kd.R_below (rs HO464) hb)
     replace BK451:=bkB BK451 hb
     replace BK460:=bkB BK460 hb
     replace HB:=hbS HB hb
     (try clear hb)
     (try clear hb2)
     (try clear hk)
     (try clear hi)
     refine hK.out _ _ ⟨bcell BK460 0,bcell BK451 0⟩ (fun hHeld=>?_)
     clear hK K
     refine nm_ ?_
     refine pu_ 4 (some 37) (bm 5 31) ?_
     refine done_ (by kernel_rfl) ?_
     try go_wp2
     go_ret
     exact ⟨fi_,m2_⟩
    ·replace c18:=Bool.eq_false_iff.mpr c18
     subst c18
     have H1 : (some false) = some r:=by rw [if_neg (show ¬ (false = true) by decide)] at H;exact H
     clear H
     have H:=H1
     clear H1
     exact absurd ((Option.some.inj H).trans hrt.out) (by decide)
   ·rw [if_neg c15] at H
    have c15b0 : (t461 == t456) = false:=beq_eq_false_iff_ne.mpr c15
    have c15b1 : (t461 != t456) = true:=bne_iff_ne.mpr c15
    exact absurd ((Option.some.inj H).trans hrt.out) (by decide)
end
end Go.Proofs.YtakfmcpjnkagmaaGreatDoor.P
