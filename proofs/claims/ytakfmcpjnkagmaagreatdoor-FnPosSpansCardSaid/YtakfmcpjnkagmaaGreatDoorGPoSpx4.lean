import Derived.Test.YtakfmcpjnkagmaaGreatDoorGPoSpx3
namespace Go.Proofs.YtakfmcpjnkagmaaGreatDoor.P
open Go.Proofs.YtakfmcpjnkagmaaGreatDoorUPoSp.PrintLast Go.Proofs.YtakfmcpjnkagmaaGreatDoorUPoSp.PrintMore Go.Proofs.YtakfmcpjnkagmaaGreatDoorUPoSp.PrintWords Go.RowKit
set_option linter.unusedVariables false
set_option linter.unusedSimpArgs false
section
attribute [local go_sem] max2_int min2_int max_two min_two max_three min_three max_four min_four
def spec_l3Put.f (k : Nat) (l0_0 : List (S55)) (a1_0 : Int) (a1_1 : Int) : Option ((List (S55)) × Int):=(spec_MapPort.f k l0_0 a1_0 a1_1).bind fun t177=>(if t177 > 0 then (some (l0_0,t177)) else (if (l0_0.length : Int) = 6 then (some (l0_0,0)) else ((some (([] : List (S55)) : List (S55))).bind fun y178=>(if y178.length + l0_0.length < 8796093022208 then ((some (y178 ++ l0_0 : List (S55))).bind fun y181=>((some (([(⟨a1_0,a1_1⟩ : S55)] : List (S55)) : List (S55))).bind fun y184=>(if y181.length + y184.length < 8796093022208 then ((some (y181 ++ y184 : List (S55))).bind fun y187=>(some (y187,wrap64 ((wrap64 (500 + (y187.length : Int))) - 1)))) else (none)))) else (none)))))
theorem spec_l3Put.mono : ∀ a0 a1 a2 k,LeO (spec_l3Put.f k a0 a1 a2) (spec_l3Put.f (k + 1) a0 a1 a2):=by
 intro a0 a1 a2 k
 unfold spec_l3Put.f
 repeat' first | (with_reducible first | exact spec_MapPort.mono _ _ _ _ | exact LeO.refl _ | exact LeO.none _ | refine LeO.ite ?_ ?_ | refine LeO.bind ?_ (fun _=>?_)) | exact spec_MapPort.mono _ _ _ _ | exact LeO.none _ | refine LeO.ite ?_ ?_ | refine LeO.bind ?_ (fun _=>?_)
def spec_l3Put.T6 : Bool × List (List Nat × List Nat):=(true,[([],[]),([],[]),([1],[1]),([0,2],[0,2]),([],[]),([4],[4]),([3,5,3],[3,5]),([0,1,2,3,4,5,6],[]),([7,6,6,0,1,2,3,4,5,6],[6,7])])
def spec_l3Put.B6 : List Nat:=[0,0,2,7,0,16,63,127,255]
theorem spec_l3Put.tab6 : rtab .any (opsOf Tryz.f112 6) = spec_l3Put.T6:=by kernel_rfl
theorem spec_l3Put.bits6 : waitsOk spec_l3Put.T6.2 spec_l3Put.B6 = true:=by kernel_rfl
def spec_l3Put.T7 : Bool × List (List Nat × List Nat):=(true,[([],[]),([],[]),([1],[1]),([2],[2]),([3],[3]),([4],[4]),([0,0],[0]),([5,6,0,1,2,3,4,5,6],[5])])
def spec_l3Put.B7 : List Nat:=[0,0,2,6,14,30,1,127]
theorem spec_l3Put.tab7 : rtab .any (opsOf Tryz.f112 7) = spec_l3Put.T7:=by kernel_rfl
theorem spec_l3Put.bits7 : waitsOk spec_l3Put.T7.2 spec_l3Put.B7 = true:=by kernel_rfl
set_option maxHeartbeats 8000000 in
set_option maxRecDepth 100000 in
theorem spec_l3Put.calls (k : Nat) (P0_0_ : Nat → Prop) (u9000_ : Value) (l0_0 : List (S55)) (a1_0 : Int) (a1_1 : Int) (r1 : List (S55)) (r2 : Int) (w0 w : World) (hB : Below w0.heap.size w0 w) (ho0_0 : Kd.R k55 55 w w0.heap.size P0_0_ u9000_ l0_0) (h : spec_l3Put.f k l0_0 a1_0 a1_1 = some (r1,r2)) :
  Calls Tryz.prog 112 #[.agg #[u9000_],.agg #[.int .i64 a1_0,.int .i64 a1_1]] w fun e w'=>∃ v0_ : Value,e = .returned (.tuple #[.agg #[v0_],.int .i64 r2]) ∧ Kd.R k55 55 w' w0.heap.size (fun k_=>(P0_0_ k_ ∨ w.heap.size ≤ k_)) v0_ r1 ∧ Below w0.heap.size w0 w' ∧ Kept w w' (fun k_=>P0_0_ k_):=by
 have hu29:=Tryz.underlying29
 have hu55:=Tryz.underlying55
 have HO0_0:=am (show Kd.R k55 55 w w0.heap.size (fun k_=>(P0_0_ k_ ∨ w.heap.size ≤ k_)) u9000_ l0_0 from Kd.R_mono ho0_0 (fun k_ hk=>(.inl hk)))
 have HK:=am (Kept.refl w (fun k_=>P0_0_ k_))
 have HW0:=am hB.size
 have HB:=am hB
 clear hB
 have H : ((spec_MapPort.f k l0_0 a1_0 a1_1).bind fun t177=>(if t177 > 0 then (some (l0_0,t177)) else (if (l0_0.length : Int) = 6 then (some (l0_0,0)) else ((some (([] : List (S55)) : List (S55))).bind fun y178=>(if y178.length + l0_0.length < 8796093022208 then ((some (y178 ++ l0_0 : List (S55))).bind fun y181=>((some (([(⟨a1_0,a1_1⟩ : S55)] : List (S55)) : List (S55))).bind fun y184=>(if y181.length + y184.length < 8796093022208 then ((some (y181 ++ y184 : List (S55))).bind fun y187=>(some (y187,wrap64 ((wrap64 (500 + (y187.length : Int))) - 1)))) else (none)))) else (none)))))) = some (r1,r2):=h
 clear h
 obtain ⟨t177,A3,H⟩:=bse H
 try dsimp only at H
 by_cases c4 : t177 > 0
 ·rw [if_pos c4] at H
  have c4b0 : decide (0 < t177) = true:=decide_eq_true c4
  clear c4
  simp only [Option.some.injEq,Prod.mk.injEq] at H
  obtain ⟨rfl,rfl⟩:=H
  obtain ⟨Ao5,co5,eo5⟩:=Kd.R_slice HO0_0.out
  subst eo5
  go_enter Tryz.func112,Tryz.ntmps112
  go_wp2_with (first | ((with_reducible refine gD 2 rfl ?_);refine box_event rfl (N:=2) rfl (cs:=#[.slice Ao5 l0_0.length co5]) (t:=29) hr_ ?_;intro gb174 hg w6 hbox hb;replace HO0_0:=am (Kd.R_below (rs HO0_0) hb);have BK174:=am hbox;have GW174:=am ((by rw [hg];exact (by first | exact HK.out.1 | exact (show Kept w _ (fun k_=>P0_0_ k_) from m5_).1) : w.heap.size ≤ gb174));replace HK:=am (Kept.below (S:=(fun k_=>P0_0_ k_)) m5_ hb);have GE174:=gwE HB hg;replace HB:=hbS HB hb;clear hb hbox hg) | ((with_reducible refine gD 3 rfl ?_);refine box_event rfl (N:=3) rfl (cs:=#[.int .i64 a1_0,.int .i64 a1_1]) (t:=55) hr_ ?_;intro gb175 hg w7 hbox hb;replace HO0_0:=am (Kd.R_below (Kd.R_elderB (rs HO0_0) gb175 (Nat.le_of_eq hg.symm)) hb);have BK175:=am hbox;have GW175:=am ((by rw [hg];exact (by first | exact HK.out.1 | exact (show Kept w _ (fun k_=>P0_0_ k_) from m6_).1) : w.heap.size ≤ gb175));replace HK:=am (Kept.below (S:=(fun k_=>P0_0_ k_)) m6_ hb);have GE175:=gwE HB hg;replace HB:=hbS HB hb;have NB174_175:=neL BK174 hg;have NB175_174:=neG BK174 hg;replace BK174:=bkB BK174 hb;clear hb hbox hg) | ((with_reducible refine gD 4 rfl ?_);refine box_event rfl (N:=4) rfl (cs:=#[.slice none 0 0]) (t:=29) hr_ ?_;intro gb176 hg w8 hbox hb;replace HO0_0:=am (Kd.R_below (rs HO0_0) hb);have BK176:=am hbox;have GW176:=am ((by rw [hg];exact (by first | exact HK.out.1 | exact (show Kept w _ (fun k_=>P0_0_ k_) from m6_).1) : w.heap.size ≤ gb176));replace HK:=am (Kept.below (S:=(fun k_=>P0_0_ k_)) m6_ hb);have GE176:=gwE HB hg;replace HB:=hbS HB hb;have NB174_176:=neL BK174 hg;have NB176_174:=neG BK174 hg;replace BK174:=bkB BK174 hb;have NB175_176:=neL BK175 hg;have NB176_175:=neG BK175 hg;replace BK175:=bkB BK175 hb;clear hb hbox hg;have:=NB174_175.out;have:=NB175_174.out;have:=NB174_176.out;have:=NB176_174.out;have:=bcell BK174 0;have:=bfz BK174 0;have:=NB175_176.out;have:=NB176_175.out;have:=bcell BK175 0;have:=bcell BK175 1;have:=bfz BK175 0;have:=bfz BK175 1) | ((with_reducible refine gC 128 rfl ?_);refine gL (some 9) Tryz.func128 #[.agg #[.slice Ao5 l0_0.length co5],.agg #[.int .i64 a1_0,.int .i64 a1_1]] ?_;(with_reducible refine (spec_MapPort.calls k _ _ l0_0 a1_0 a1_1 t177 _ ?side1 ?side2 A3.out).mono ?_);(case side1=>exact rcx HO0_0);(case side2=>exact (Kd.R_reads' HO0_0.out).2.1);rintro e w14 ⟨rfl,hb⟩;refine ⟨_,rfl,?_⟩;replace HO0_0:=am (Kd.R_below (rs HO0_0) hb);replace BK174:=bkB BK174 hb;replace BK175:=bkB BK175 hb;replace BK176:=bkB BK176 hb;replace HK:=am (Kept.below (S:=(fun k_=>P0_0_ k_)) m6_ hb);replace HB:=hbS HB hb;(try clear hb);have:=bcell BK174 0;have:=bfz BK174 0;have:=bcell BK176 0;have:=bfz BK176 0))
  refine bodyPost_ret (results_ct rfl _ _ gb176 29 #[.slice Ao5 l0_0.length co5] (0,0) _ rfl (by (with_reducible repeat refine bu ?_);refine blk_put (cs:=#[.slice none 0 0]) ?_ 0 _ rfl;(with_reducible repeat refine bu ?_);exact BK176.out) Tryz.underlying29 rfl (by kernel_rfl)) rfl ?_
  exact ⟨_,fi_,by (with_reducible repeat apply ru);exact Kd.R_mono (Kd.R_far (p:=⟨gb176,0,none⟩) (Kd.R_types HO0_0.out BK176.out (by decide)) (fun _ hk=>hk.2) (.slice Ao5 l0_0.length co5)) (fun _ hk=>hk.1.1),m2_,m6_⟩
 ·rw [if_neg c4] at H
  have c4b0 : decide (0 < t177) = false:=decide_eq_false c4
  clear c4
  by_cases c17 : (l0_0.length : Int) = 6
  ·rw [if_pos c17] at H
   have c17b0 : ((l0_0.length : Int) == 6) = true:=beq_iff_eq.mpr c17
   have c17b1 : ((l0_0.length : Int) != 6) = false:=bne_eq_false_iff_eq.mpr c17
   clear c17
   simp only [Option.some.injEq,Prod.mk.injEq] at H
   obtain ⟨rfl,rfl⟩:=H
   obtain ⟨Ao18,co18,eo18⟩:=Kd.R_slice HO0_0.out
   subst eo18
   go_enter Tryz.func112,Tryz.ntmps112
   go_wp2_with (first | ((with_reducible refine gD 2 rfl ?_);refine box_event rfl (N:=2) rfl (cs:=#[.slice Ao18 l0_0.length co18]) (t:=29) hr_ ?_;intro gb174 hg w19 hbox hb;replace HO0_0:=am (Kd.R_below (rs HO0_0) hb);have BK174:=am hbox;have GW174:=am ((by rw [hg];exact (by first | exact HK.out.1 | exact (show Kept w _ (fun k_=>P0_0_ k_) from m5_).1) : w.heap.size ≤ gb174));replace HK:=am (Kept.below (S:=(fun k_=>P0_0_ k_)) m5_ hb);have GE174:=gwE HB hg;replace HB:=hbS HB hb;clear hb hbox hg) | ((with_reducible refine gD 3 rfl ?_);refine box_event rfl (N:=3) rfl (cs:=#[.int .i64 a1_0,.int .i64 a1_1]) (t:=55) hr_ ?_;intro gb175 hg w20 hbox hb;replace HO0_0:=am (Kd.R_below (Kd.R_elderB (rs HO0_0) gb175 (Nat.le_of_eq hg.symm)) hb);have BK175:=am hbox;have GW175:=am ((by rw [hg];exact (by first | exact HK.out.1 | exact (show Kept w _ (fun k_=>P0_0_ k_) from m6_).1) : w.heap.size ≤ gb175));replace HK:=am (Kept.below (S:=(fun k_=>P0_0_ k_)) m6_ hb);have GE175:=gwE HB hg;replace HB:=hbS HB hb;have NB174_175:=neL BK174 hg;have NB175_174:=neG BK174 hg;replace BK174:=bkB BK174 hb;clear hb hbox hg) | ((with_reducible refine gD 4 rfl ?_);refine box_event rfl (N:=4) rfl (cs:=#[.slice none 0 0]) (t:=29) hr_ ?_;intro gb176 hg w21 hbox hb;replace HO0_0:=am (Kd.R_below (rs HO0_0) hb);have BK176:=am hbox;have GW176:=am ((by rw [hg];exact (by first | exact HK.out.1 | exact (show Kept w _ (fun k_=>P0_0_ k_) from m6_).1) : w.heap.size ≤ gb176));replace HK:=am (Kept.below (S:=(fun k_=>P0_0_ k_)) m6_ hb);have GE176:=gwE HB hg;replace HB:=hbS HB hb;have NB174_176:=neL BK174 hg;have NB176_174:=neG BK174 hg;replace BK174:=bkB BK174 hb;have NB175_176:=neL BK175 hg;have NB176_175:=neG BK175 hg;replace BK175:=bkB BK175 hb;clear hb hbox hg;have:=NB174_175.out;have:=NB175_174.out;have:=NB174_176.out;have:=NB176_174.out;have:=bcell BK174 0;have:=bfz BK174 0;have:=NB175_176.out;have:=NB176_175.out;have:=bcell BK175 0;have:=bcell BK175 1;have:=bfz BK175 0;have:=bfz BK175 1) | ((with_reducible refine gC 128 rfl ?_);refine gL (some 9) Tryz.func128 #[.agg #[.slice Ao18 l0_0.length co18],.agg #[.int .i64 a1_0,.int .i64 a1_1]] ?_;(with_reducible refine (spec_MapPort.calls k _ _ l0_0 a1_0 a1_1 t177 _ ?side1 ?side2 A3.out).mono ?_);(case side1=>exact rcx HO0_0);(case side2=>exact (Kd.R_reads' HO0_0.out).2.1);rintro e w27 ⟨rfl,hb⟩;refine ⟨_,rfl,?_⟩;replace HO0_0:=am (Kd.R_below (rs HO0_0) hb);replace BK174:=bkB BK174 hb;replace BK175:=bkB BK175 hb;replace BK176:=bkB BK176 hb;replace HK:=am (Kept.below (S:=(fun k_=>P0_0_ k_)) m6_ hb);replace HB:=hbS HB hb;(try clear hb);have:=bcell BK174 0;have:=bfz BK174 0;have:=bcell BK176 0;have:=bfz BK176 0))
   refine bodyPost_ret (results_ct rfl _ _ gb176 29 #[.slice Ao18 l0_0.length co18] (0,0) _ rfl (by (with_reducible repeat refine bu ?_);refine blk_put (cs:=#[.slice none 0 0]) ?_ 0 _ rfl;(with_reducible repeat refine bu ?_);exact BK176.out) Tryz.underlying29 rfl (by kernel_rfl)) rfl ?_
   exact ⟨_,fi_,by (with_reducible repeat apply ru);exact Kd.R_mono (Kd.R_far (p:=⟨gb176,0,none⟩) (Kd.R_types HO0_0.out BK176.out (by decide)) (fun _ hk=>hk.2) (.slice Ao18 l0_0.length co18)) (fun _ hk=>hk.1.1),m2_,m6_⟩
  ·rw [if_neg c17] at H
   have c17b0 : ((l0_0.length : Int) == 6) = false:=beq_eq_false_iff_ne.mpr c17
   have c17b1 : ((l0_0.length : Int) != 6) = true:=bne_iff_ne.mpr c17
   obtain ⟨y178,hy178⟩ : ∃ y_ : List (S55),y_ = (([] : List (S55))):=⟨_,rfl⟩
   replace H : (if y178.length + l0_0.length < 8796093022208 then ((some (y178 ++ l0_0 : List (S55))).bind fun y181=>((some (([(⟨a1_0,a1_1⟩ : S55)] : List (S55)) : List (S55))).bind fun y184=>(if y181.length + y184.length < 8796093022208 then ((some (y181 ++ y184 : List (S55))).bind fun y187=>(some (y187,wrap64 ((wrap64 (500 + (y187.length : Int))) - 1)))) else (none)))) else (none)) = some (r1,r2):=by first | (rw [hy178];with_reducible exact H) | (have H2_:=(Option.bind_some _ _).symm.trans H;rw [hy178];with_reducible exact H2_) | (have H2_:=(Option.bind_some _ _).symm.trans H;with_reducible exact H2_) | with_reducible exact H | (rw [hy178];exact H) | exact H
   have Ny178:=am hy178
   clear hy178
   by_cases c30 : y178.length + l0_0.length < 8796093022208
   ·rw [if_pos c30] at H
    have LMc30:=am c30
    clear c30
    obtain ⟨y181,hy181⟩ : ∃ y_ : List (S55),y_ = (y178 ++ l0_0):=⟨_,rfl⟩
    replace H : ((some (([(⟨a1_0,a1_1⟩ : S55)] : List (S55)) : List (S55))).bind fun y184=>(if y181.length + y184.length < 8796093022208 then ((some (y181 ++ y184 : List (S55))).bind fun y187=>(some (y187,wrap64 ((wrap64 (500 + (y187.length : Int))) - 1)))) else (none))) = some (r1,r2):=by first | (rw [hy181];with_reducible exact H) | (have H2_:=(Option.bind_some _ _).symm.trans H;rw [hy181];with_reducible exact H2_) | (have H2_:=(Option.bind_some _ _).symm.trans H;with_reducible exact H2_) | with_reducible exact H | (rw [hy181];exact H) | exact H
    have Ny181:=am hy181
    clear hy181
    obtain ⟨y184,hy184⟩ : ∃ y_ : List (S55),y_ = (([(⟨a1_0,a1_1⟩ : S55)] : List (S55))):=⟨_,rfl⟩
    replace H : (if y181.length + y184.length < 8796093022208 then ((some (y181 ++ y184 : List (S55))).bind fun y187=>(some (y187,wrap64 ((wrap64 (500 + (y187.length : Int))) - 1)))) else (none)) = some (r1,r2):=by first | (rw [hy184];with_reducible exact H) | (have H2_:=(Option.bind_some _ _).symm.trans H;rw [hy184];with_reducible exact H2_) | (have H2_:=(Option.bind_some _ _).symm.trans H;with_reducible exact H2_) | with_reducible exact H | (rw [hy184];exact H) | exact H
    have Ny184:=am hy184
    clear hy184
    by_cases c31 : y181.length + y184.length < 8796093022208
    ·rw [if_pos c31] at H
     have LMc31:=am c31
     clear c31
     obtain ⟨y187,hy187⟩ : ∃ y_ : List (S55),y_ = (y181 ++ y184):=⟨_,rfl⟩
     replace H : (some (y187,wrap64 ((wrap64 (500 + (y187.length : Int))) - 1))) = some (r1,r2):=by first | (rw [hy187];with_reducible exact H) | (have H2_:=(Option.bind_some _ _).symm.trans H;rw [hy187];with_reducible exact H2_) | (have H2_:=(Option.bind_some _ _).symm.trans H;with_reducible exact H2_) | with_reducible exact H | (rw [hy187];exact H) | exact H
     have Ny187:=am hy187
     clear hy187
     simp only [Option.some.injEq,Prod.mk.injEq] at H
     obtain ⟨rfl,rfl⟩:=H
     obtain ⟨Ao32,co32,eo32⟩:=Kd.R_slice HO0_0.out
     subst eo32
     go_enter Tryz.func112,Tryz.ntmps112
     try go_wp2_with (first | ((with_reducible refine gD 2 rfl ?_);refine box_event rfl (N:=2) rfl (cs:=#[.slice Ao32 l0_0.length co32]) (t:=29) hr_ ?_;intro gb174 hg w33 hbox hb;replace HO0_0:=am (Kd.R_below (rs HO0_0) hb);have BK174:=am hbox;have GW174:=am ((by rw [hg];exact (by first | exact HK.out.1 | exact (show Kept w _ (fun k_=>P0_0_ k_) from m5_).1) : w.heap.size ≤ gb174));replace HK:=am (Kept.below (S:=(fun k_=>P0_0_ k_)) m5_ hb);have GE174:=gwE HB hg;replace HB:=hbS HB hb;clear hb hbox hg) | ((with_reducible refine gD 3 rfl ?_);refine box_event rfl (N:=3) rfl (cs:=#[.int .i64 a1_0,.int .i64 a1_1]) (t:=55) hr_ ?_;intro gb175 hg w34 hbox hb;replace HO0_0:=am (Kd.R_below (Kd.R_elderB (rs HO0_0) gb175 (Nat.le_of_eq hg.symm)) hb);have BK175:=am hbox;have GW175:=am ((by rw [hg];exact (by first | exact HK.out.1 | exact (show Kept w _ (fun k_=>P0_0_ k_) from m6_).1) : w.heap.size ≤ gb175));replace HK:=am (Kept.below (S:=(fun k_=>P0_0_ k_)) m6_ hb);have GE175:=gwE HB hg;replace HB:=hbS HB hb;have NB174_175:=neL BK174 hg;have NB175_174:=neG BK174 hg;replace BK174:=bkB BK174 hb;clear hb hbox hg) | ((with_reducible refine gD 4 rfl ?_);refine box_event rfl (N:=4) rfl (cs:=#[.slice none 0 0]) (t:=29) hr_ ?_;intro gb176 hg w35 hbox hb;replace HO0_0:=am (Kd.R_below (rs HO0_0) hb);have BK176:=am hbox;have GW176:=am ((by rw [hg];exact (by first | exact HK.out.1 | exact (show Kept w _ (fun k_=>P0_0_ k_) from m6_).1) : w.heap.size ≤ gb176));replace HK:=am (Kept.below (S:=(fun k_=>P0_0_ k_)) m6_ hb);have GE176:=gwE HB hg;replace HB:=hbS HB hb;have NB174_176:=neL BK174 hg;have NB176_174:=neG BK174 hg;replace BK174:=bkB BK174 hb;have NB175_176:=neL BK175 hg;have NB176_175:=neG BK175 hg;replace BK175:=bkB BK175 hb;clear hb hbox hg;have:=NB174_175.out;have:=NB175_174.out;have:=NB174_176.out;have:=NB176_174.out;have:=bcell BK174 0;have:=bfz BK174 0;have:=NB175_176.out;have:=NB176_175.out;have:=bcell BK175 0;have:=bcell BK175 1;have:=bfz BK175 0;have:=bfz BK175 1) | ((with_reducible refine gC 128 rfl ?_);refine gL (some 9) Tryz.func128 #[.agg #[.slice Ao32 l0_0.length co32],.agg #[.int .i64 a1_0,.int .i64 a1_1]] ?_;(with_reducible refine (spec_MapPort.calls k _ _ l0_0 a1_0 a1_1 t177 _ ?side1 ?side2 A3.out).mono ?_);(case side1=>exact rcx HO0_0);(case side2=>exact (Kd.R_reads' HO0_0.out).2.1);rintro e w41 ⟨rfl,hb⟩;refine ⟨_,rfl,?_⟩;replace HO0_0:=am (Kd.R_below (rs HO0_0) hb);replace BK174:=bkB BK174 hb;replace BK175:=bkB BK175 hb;replace BK176:=bkB BK176 hb;replace HK:=am (Kept.below (S:=(fun k_=>P0_0_ k_)) m6_ hb);replace HB:=hbS HB hb;(try clear hb);have:=bcell BK174 0;have:=bfz BK174 0))
     replace HO0_0:=am (Kd.R_drew HO0_0.out)
     replace BK174:=am (blk_drew BK174.out)
     replace BK175:=am (blk_drew BK175.out)
     replace BK176:=am (blk_drew BK176.out)
     replace HK:=am (Kept.drew HK.out)
     replace HB:=am (below_drew1 HB.out)
     refine start_ (n:=9) (S:=fun w'=>w'.cell? ⟨gb174,0,none⟩ = some (.slice Ao32 l0_0.length co32) ∧ w'.cell? ⟨gb175,0,none⟩ = some (.int .i64 a1_0) ∧ w'.cell? ⟨gb175,1,none⟩ = some (.int .i64 a1_1)) (ds:=[8]) #[false,false,false,false,false,false,false,false,false] (by kernel_rfl) rfl rfl ⟨bcell BK174 0,bcell BK175 0,bcell BK175 1⟩ (fun hHeld=>?_);refine with_tabW spec_l3Put.tab6 spec_l3Put.bits6 (fun HT_ HW_=>?_)
     generalize w41.drew = w43 at HO0_0 BK174 BK175 BK176 HK HB hHeld ⊢
     refine pu_ 1 (some 20) (bm 9 2) ?_
     refine tk_ 2 (some 21) (bm 9 6) rfl (.inl ⟨rfl,m7_⟩) ?_
     refine tk_ 4 (some 23) (bm 9 22) rfl (.inl ⟨rfl,m7_⟩) ?_
     refine join_ (σ:=Value × Value × Value) 3 #[true,true,true,true,true,true,false,false,false] (fun s_=>[(19,s_.1),(22,s_.2.1),(24,s_.2.2)]) (fun s_ w'=>(w'.cell? ⟨gb174,0,none⟩ = some (.slice Ao32 l0_0.length co32) ∧ w'.cell? ⟨gb175,0,none⟩ = some (.int .i64 a1_0) ∧ w'.cell? ⟨gb175,1,none⟩ = some (.int .i64 a1_1)) ∧ (Kd.R k55 55 w' w0.heap.size (fun k_=>(P0_0_ k_ ∨ w.heap.size ≤ k_) ∧ some k_ ≠ (s_.2.1 : Value).ownBlock ∧ some k_ ≠ (s_.2.2 : Value).ownBlock ∧ k_ ≠ gb175) (.slice Ao32 l0_0.length co32) l0_0) ∧ (Kd.R k55 55 w' w0.heap.size (fun k_=>(P0_0_ k_ ∨ w.heap.size ≤ k_) ∧ some k_ ≠ (.slice Ao32 l0_0.length co32 : Value).ownBlock ∧ some k_ ≠ (s_.2.2 : Value).ownBlock ∧ k_ ≠ gb175) s_.2.1 y181) ∧ (Kd.R k55 55 w' w0.heap.size (fun k_=>(P0_0_ k_ ∨ w.heap.size ≤ k_) ∧ some k_ ≠ (.slice Ao32 l0_0.length co32 : Value).ownBlock ∧ some k_ ≠ (s_.2.1 : Value).ownBlock ∧ k_ ≠ gb175) s_.2.2 y184) ∧ (w'.heap[gb174]? = some (.cells #[.slice Ao32 l0_0.length co32] 29 (0,0))) ∧ (w'.heap[gb175]? = some (.cells #[.int .i64 a1_0,.int .i64 a1_1] 55 (0,0))) ∧ (w'.heap[gb176]? = some (.cells #[.slice none 0 0] 29 (0,0))) ∧ (Kept w w' (fun k_=>P0_0_ k_)) ∧ (Below w0.heap.size w0 w')) ?_ ?_
     rotate_left
     ·intro hCont
      refine two_ (i:=0) (j:=5) (Ni:=some 19) (Nj:=some 24) #[true,true,true,false,true,false,false,false,false] #[false,true,true,false,true,true,false,false,false] rfl rfl rfl rfl (two_of HT_.out (by kernel_rfl)) (by decide) (by decide) (fun K hK=>?_) (fun K hK=>?_)
      ·skip
       refine Kd.R_lit_step k55 _ 55 rfl (N:=19) rfl (xs:=([] : List (S55))) (inner:=[]) (ok:=fun _=>True) (okp:=fun _=>True) hr_ ?hp (fun _ hk=>hk) trivial (Below.refl _ _) (Nat.le_refl _) (by simp) ?_;(case hp=>exact (Reps.none _ _))
       intro v179 w44 ho45 hb hg_ hnew_
       clear hg_ hnew_
       (first | rw [← Ny178.out] at ho45 | (simp only [Int.reduceToNat] at ho45;rw [← Ny178.out] at ho45))
       have HO180:=am (Kd.R_lower (Kd.R_newB (Kd.R_new' (Kd.R_newM (M:=fun k_=>(P0_0_ k_ ∨ w.heap.size ≤ k_)) ho45 (by first | exact HK.out.1 | exact (show Kept w _ (fun k_=>P0_0_ k_) from m6_).1) (fun k_ h_=>.inr h_)) (Kd.R_lt (rs HO0_0))) (g:=gb175) (o:=.cells #[.int .i64 a1_0,.int .i64 a1_1] 55 (0,0)) (bk BK175)) (below_size (bl HB)))
       replace HO0_0:=am (Kd.R_elder' (rs HO0_0) (Kd.R_base ho45) hb)
       replace BK174:=bkB BK174 hb
       replace BK175:=bkB BK175 hb
       replace BK176:=bkB BK176 hb
       replace HK:=am (Kept.below (S:=(fun k_=>P0_0_ k_)) m6_ hb)
       replace HB:=hbS HB hb
       clear hb ho45
       refine hK.out _ _ ⟨bcell BK174 0,bcell BK175 0,bcell BK175 1⟩ (fun hHeld=>?_)
       clear hK K
       refine nm_ ?_
       refine two_ (i:=3) (j:=5) (Ni:=some 22) (Nj:=some 24) #[true,true,true,true,true,false,false,false,false] #[true,true,true,false,true,true,false,false,false] rfl rfl rfl rfl (two_of HT_.out (by kernel_rfl)) (by decide) (by decide) (fun K hK=>?_) (fun K hK=>?_)
       ·skip
        refine Kd.R_append_rows_step k55 (w0:=w0) w0.heap.size (by rfl) (.tmp 19) (.tmp 21) 27 55 (.agg #[(.int .i64 0),(.int .i64 0)]) 16 rfl Tryz.underlying27 info55 rfl (by decide) (by omega) v179 y178 l0_0 _ _ _ (fun k_=>(P0_0_ k_ ∨ w.heap.size ≤ k_) ∧ some k_ ≠ (.slice Ao32 l0_0.length co32 : Value).ownBlock ∧ k_ ≠ gb175) (fun _=>False) rfl rfl ?aO ?aR (fun _ _ h=>h) (fun _ h=>h.elim) ?aF ?aB ?aS ?aL ?_
        (case aR=>exact rcx HO0_0)
        (case aB=>exact (bl HB))
        (case aF=>exact (fun k_ hk=>⟨(.inr (Nat.le_trans (by first | exact HK.out.1 | exact (show Kept w _ (fun k_=>P0_0_ k_) from m6_).1) hk)),Kd.fresh' (Kd.R_lt (rs HO0_0)) k_ hk,Kd.freshB (g:=gb175) (o:=.cells #[.int .i64 a1_0,.int .i64 a1_1] 55 (0,0)) (bk BK175) k_ hk⟩))
        (case aO=>exact (by (with_reducible repeat apply ru);exact Kd.R_mono HO180.out ok_))
        (case aS=>exact (below_size (bl HB)))
        (case aL=>have:=LMc30.out;omega)
        intro v182 w46 ho hb hg hat
        rw [← Ny181.out] at ho
        replace HO0_0:=am (Kd.R_after (ok:=(fun k_=>(P0_0_ k_ ∨ w.heap.size ≤ k_) ∧ k_ ≠ gb175)) (rs HO0_0) hg hat)
        replace BK174:=am (blk_grown (g:=gb174) (o:=.cells #[.slice Ao32 l0_0.length co32] 29 (0,0)) (bk BK174) hg (Kd.R_ne HO180.out BK174.out (by decide)))
        replace BK175:=am (blk_grown (g:=gb175) (o:=.cells #[.int .i64 a1_0,.int .i64 a1_1] 55 (0,0)) (bk BK175) hg (Kd.R_away HO180.out (fun _ hk=>hk.2)))
        replace BK176:=am (blk_grown (g:=gb176) (o:=.cells #[.slice none 0 0] 29 (0,0)) (bk BK176) hg (Kd.R_ne HO180.out BK176.out (by decide)))
        replace HB:=am hb
        replace HK:=am (Kept.of_grown (S:=(fun k_=>P0_0_ k_)) hg m6_ (fun k_ e_=>(HO180.out.1 k_ e_).1.1.1))
        have HO183:=am (ho)
        clear HO180
        clear ho hb hg hat
        refine hK.out _ _ ⟨bcell BK174 0,bcell BK175 0,bcell BK175 1⟩ (fun hHeld=>?_)
        clear hK K
        refine nm_ ?_
        refine on_ 5 (some 24) (bm 9 63) (fun K hK=>?_)
        refine Kd.R_lit_step k55 _ 55 rfl (N:=24) rfl (xs:=([(⟨a1_0,a1_1⟩ : S55)] : List (S55))) (inner:=[.int .i64 a1_0,.int .i64 a1_1]) (ok:=fun _=>True) (okp:=fun _=>True) hr_ ?hp (fun _ hk=>hk) trivial (Below.refl _ _) (Nat.le_refl _) (by simp) ?_;(case hp=>exact (Reps.c2 (show Kd.M k55 _ _ _ (⟨a1_0,a1_1⟩ : S55) [.int .i64 a1_0,.int .i64 a1_1] from (k55_mkM _ _ _ (⟨a1_0,a1_1⟩ : S55) )) (Reps.none _ _)))
        intro v185 w47 ho48 hb hg_ hnew_
        clear hg_ hnew_
        (first | rw [← Ny184.out] at ho48 | (simp only [Int.reduceToNat] at ho48;rw [← Ny184.out] at ho48))
        have HO186:=am (Kd.R_lower (Kd.R_newB (Kd.R_new' (Kd.R_new' (Kd.R_newM (M:=fun k_=>(P0_0_ k_ ∨ w.heap.size ≤ k_)) ho48 (by first | exact HK.out.1 | exact (show Kept w _ (fun k_=>P0_0_ k_) from m6_).1) (fun k_ h_=>.inr h_)) (Kd.R_lt (rs HO0_0))) (Kd.R_lt (rs HO183))) (g:=gb175) (o:=.cells #[.int .i64 a1_0,.int .i64 a1_1] 55 (0,0)) (bk BK175)) (below_size (bl HB)))
        replace HO0_0:=am (Kd.R_elder' (rs HO0_0) (Kd.R_base ho48) hb)
        replace HO183:=am (Kd.R_elder' (rs HO183) (Kd.R_base ho48) hb)
        replace BK174:=bkB BK174 hb
        replace BK175:=bkB BK175 hb
        replace BK176:=bkB BK176 hb
        replace HK:=am (Kept.below (S:=(fun k_=>P0_0_ k_)) m6_ hb)
        replace HB:=hbS HB hb
        clear hb ho48
        refine hK.out _ _ ⟨bcell BK174 0,bcell BK175 0,bcell BK175 1⟩ (fun hHeld=>?_)
        clear hK K
        refine nm_ ?_
        exact norm_ (by simp only [putAll,Act.put,List.setIfInBounds_toArray,List.set_cons_zero,List.set_cons_succ]) (hCont (v179,v182,v185) _ ⟨hHeld,(by (with_reducible repeat apply ru);exact Kd.R_mono HO0_0.out ok_),(by (with_reducible repeat apply ru);exact Kd.R_mono HO183.out ok_),(by (with_reducible repeat apply ru);exact Kd.R_mono HO186.out ok_),(bk BK174),(bk BK175),(bk BK176),m6_,(bl HB)⟩)
       ·skip
        refine Kd.R_lit_step k55 _ 55 rfl (N:=24) rfl (xs:=([(⟨a1_0,a1_1⟩ : S55)] : List (S55))) (inner:=[.int .i64 a1_0,.int .i64 a1_1]) (ok:=fun _=>True) (okp:=fun _=>True) hr_ ?hp (fun _ hk=>hk) trivial (Below.refl _ _) (Nat.le_refl _) (by simp) ?_;(case hp=>exact (Reps.c2 (show Kd.M k55 _ _ _ (⟨a1_0,a1_1⟩ : S55) [.int .i64 a1_0,.int .i64 a1_1] from (k55_mkM _ _ _ (⟨a1_0,a1_1⟩ : S55) )) (Reps.none _ _)))
        intro v185 w46 ho47 hb hg_ hnew_
        clear hg_ hnew_
        (first | rw [← Ny184.out] at ho47 | (simp only [Int.reduceToNat] at ho47;rw [← Ny184.out] at ho47))
        have HO186:=am (Kd.R_lower (Kd.R_newB (Kd.R_new' (Kd.R_new' (Kd.R_newM (M:=fun k_=>(P0_0_ k_ ∨ w.heap.size ≤ k_)) ho47 (by first | exact HK.out.1 | exact (show Kept w _ (fun k_=>P0_0_ k_) from m6_).1) (fun k_ h_=>.inr h_)) (Kd.R_lt (rs HO0_0))) (Kd.R_lt (rs HO180))) (g:=gb175) (o:=.cells #[.int .i64 a1_0,.int .i64 a1_1] 55 (0,0)) (bk BK175)) (below_size (bl HB)))
        replace HO0_0:=am (Kd.R_elder' (rs HO0_0) (Kd.R_base ho47) hb)
        replace HO180:=am (Kd.R_elder' (rs HO180) (Kd.R_base ho47) hb)
        replace BK174:=bkB BK174 hb
        replace BK175:=bkB BK175 hb
        replace BK176:=bkB BK176 hb
        replace HK:=am (Kept.below (S:=(fun k_=>P0_0_ k_)) m6_ hb)
        replace HB:=hbS HB hb
        clear hb ho47
        refine hK.out _ _ ⟨bcell BK174 0,bcell BK175 0,bcell BK175 1⟩ (fun hHeld=>?_)
        clear hK K
        refine nm_ ?_
        refine on_ 3 (some 22) (bm 9 63) (fun K hK=>?_)
        refine Kd.R_append_rows_step k55 (w0:=w0) w0.heap.size (by rfl) (.tmp 19) (.tmp 21) 27 55 (.agg #[(.int .i64 0),(.int .i64 0)]) 16 rfl Tryz.underlying27 info55 rfl (by decide) (by omega) v179 y178 l0_0 _ _ _ (fun k_=>(P0_0_ k_ ∨ w.heap.size ≤ k_) ∧ some k_ ≠ (.slice Ao32 l0_0.length co32 : Value).ownBlock ∧ some k_ ≠ (v185 : Value).ownBlock ∧ k_ ≠ gb175) (fun _=>False) rfl rfl ?aO ?aR (fun _ _ h=>h) (fun _ h=>h.elim) ?aF ?aB ?aS ?aL ?_
        (case aR=>exact rcx HO0_0)
        (case aB=>exact (bl HB))
        (case aF=>exact (fun k_ hk=>⟨(.inr (Nat.le_trans (by first | exact HK.out.1 | exact (show Kept w _ (fun k_=>P0_0_ k_) from m6_).1) hk)),Kd.fresh' (Kd.R_lt (rs HO0_0)) k_ hk,Kd.fresh' (Kd.R_lt (rs HO186)) k_ hk,Kd.freshB (g:=gb175) (o:=.cells #[.int .i64 a1_0,.int .i64 a1_1] 55 (0,0)) (bk BK175) k_ hk⟩))
        (case aO=>exact (by (with_reducible repeat apply ru);exact Kd.R_mono HO180.out ok_))
        (case aS=>exact (below_size (bl HB)))
        (case aL=>have:=LMc30.out;omega)
        intro v182 w48 ho hb hg hat
        rw [← Ny181.out] at ho
        replace HO0_0:=am (Kd.R_after (ok:=(fun k_=>(P0_0_ k_ ∨ w.heap.size ≤ k_) ∧ some k_ ≠ (v185 : Value).ownBlock ∧ k_ ≠ gb175)) (by (with_reducible repeat apply ru);exact Kd.R_mono HO0_0.out ok_) hg hat)
        replace BK174:=am (blk_grown (g:=gb174) (o:=.cells #[.slice Ao32 l0_0.length co32] 29 (0,0)) (bk BK174) hg (Kd.R_ne HO180.out BK174.out (by decide)))
        replace BK175:=am (blk_grown (g:=gb175) (o:=.cells #[.int .i64 a1_0,.int .i64 a1_1] 55 (0,0)) (bk BK175) hg (Kd.R_away HO180.out (fun _ hk=>hk.1.2)))
        replace BK176:=am (blk_grown (g:=gb176) (o:=.cells #[.slice none 0 0] 29 (0,0)) (bk BK176) hg (Kd.R_ne HO180.out BK176.out (by decide)))
        replace HO186:=am (Kd.R_after (ok:=(fun k_=>(P0_0_ k_ ∨ w.heap.size ≤ k_) ∧ some k_ ≠ (.slice Ao32 l0_0.length co32 : Value).ownBlock ∧ k_ ≠ gb175)) (by (with_reducible repeat apply ru);exact Kd.R_mono HO186.out ok_) hg hat)
        replace HB:=am hb
        replace HK:=am (Kept.of_grown (S:=(fun k_=>P0_0_ k_)) hg m6_ (fun k_ e_=>(HO180.out.1 k_ e_).1.1.1.1))
        have HO183:=am (ho)
        clear HO180
        clear ho hb hg hat
        refine hK.out _ _ ⟨bcell BK174 0,bcell BK175 0,bcell BK175 1⟩ (fun hHeld=>?_)
        clear hK K
        refine nm_ ?_
        exact norm_ (by simp only [putAll,Act.put,List.setIfInBounds_toArray,List.set_cons_zero,List.set_cons_succ]) (hCont (v179,v182,v185) _ ⟨hHeld,(by (with_reducible repeat apply ru);exact Kd.R_mono HO0_0.out ok_),(rs HO183),(by (with_reducible repeat apply ru);exact Kd.R_mono HO186.out ok_),(bk BK174),(bk BK175),(bk BK176),m6_,(bl HB)⟩)
      ·skip
       refine Kd.R_lit_step k55 _ 55 rfl (N:=24) rfl (xs:=([(⟨a1_0,a1_1⟩ : S55)] : List (S55))) (inner:=[.int .i64 a1_0,.int .i64 a1_1]) (ok:=fun _=>True) (okp:=fun _=>True) hr_ ?hp (fun _ hk=>hk) trivial (Below.refl _ _) (Nat.le_refl _) (by simp) ?_;(case hp=>exact (Reps.c2 (show Kd.M k55 _ _ _ (⟨a1_0,a1_1⟩ : S55) [.int .i64 a1_0,.int .i64 a1_1] from (k55_mkM _ _ _ (⟨a1_0,a1_1⟩ : S55) )) (Reps.none _ _)))
       intro v185 w44 ho45 hb hg_ hnew_
       clear hg_ hnew_
       (first | rw [← Ny184.out] at ho45 | (simp only [Int.reduceToNat] at ho45;rw [← Ny184.out] at ho45))
       have HO186:=am (Kd.R_lower (Kd.R_newB (Kd.R_new' (Kd.R_newM (M:=fun k_=>(P0_0_ k_ ∨ w.heap.size ≤ k_)) ho45 (by first | exact HK.out.1 | exact (show Kept w _ (fun k_=>P0_0_ k_) from m6_).1) (fun k_ h_=>.inr h_)) (Kd.R_lt (rs HO0_0))) (g:=gb175) (o:=.cells #[.int .i64 a1_0,.int .i64 a1_1] 55 (0,0)) (bk BK175)) (below_size (bl HB)))
       replace HO0_0:=am (Kd.R_elder' (rs HO0_0) (Kd.R_base ho45) hb)
       replace BK174:=bkB BK174 hb
       replace BK175:=bkB BK175 hb
       replace BK176:=bkB BK176 hb
       replace HK:=am (Kept.below (S:=(fun k_=>P0_0_ k_)) m6_ hb)
       replace HB:=hbS HB hb
       clear hb ho45
       refine hK.out _ _ ⟨bcell BK174 0,bcell BK175 0,bcell BK175 1⟩ (fun hHeld=>?_)
       clear hK K
       refine nm_ ?_
       refine on_ 0 (some 19) (bm 9 55) (fun K hK=>?_)
       refine Kd.R_lit_step k55 _ 55 rfl (N:=19) rfl (xs:=([] : List (S55))) (inner:=[]) (ok:=fun _=>True) (okp:=fun _=>True) hr_ ?hp (fun _ hk=>hk) trivial (Below.refl _ _) (Nat.le_refl _) (by simp) ?_;(case hp=>exact (Reps.none _ _))
       intro v179 w46 ho47 hb hg_ hnew_
       clear hg_ hnew_
       (first | rw [← Ny178.out] at ho47 | (simp only [Int.reduceToNat] at ho47;rw [← Ny178.out] at ho47))
       have HO180:=am (Kd.R_lower (Kd.R_newB (Kd.R_new' (Kd.R_new' (Kd.R_newM (M:=fun k_=>(P0_0_ k_ ∨ w.heap.size ≤ k_)) ho47 (by first | exact HK.out.1 | exact (show Kept w _ (fun k_=>P0_0_ k_) from m6_).1) (fun k_ h_=>.inr h_)) (Kd.R_lt (rs HO0_0))) (Kd.R_lt (rs HO186))) (g:=gb175) (o:=.cells #[.int .i64 a1_0,.int .i64 a1_1] 55 (0,0)) (bk BK175)) (below_size (bl HB)))
       replace HO0_0:=am (Kd.R_elder' (rs HO0_0) (Kd.R_base ho47) hb)
       replace HO186:=am (Kd.R_elder' (rs HO186) (Kd.R_base ho47) hb)
       replace BK174:=bkB BK174 hb
       replace BK175:=bkB BK175 hb
       replace BK176:=bkB BK176 hb
       replace HK:=am (Kept.below (S:=(fun k_=>P0_0_ k_)) m6_ hb)
       replace HB:=hbS HB hb
       clear hb ho47
       refine hK.out _ _ ⟨bcell BK174 0,bcell BK175 0,bcell BK175 1⟩ (fun hHeld=>?_)
       clear hK K
       refine nm_ ?_
       refine on_ 3 (some 22) (bm 9 63) (fun K hK=>?_)
       refine Kd.R_append_rows_step k55 (w0:=w0) w0.heap.size (by rfl) (.tmp 19) (.tmp 21) 27 55 (.agg #[(.int .i64 0),(.int .i64 0)]) 16 rfl Tryz.underlying27 info55 rfl (by decide) (by omega) v179 y178 l0_0 _ _ _ (fun k_=>(P0_0_ k_ ∨ w.heap.size ≤ k_) ∧ some k_ ≠ (.slice Ao32 l0_0.length co32 : Value).ownBlock ∧ some k_ ≠ (v185 : Value).ownBlock ∧ k_ ≠ gb175) (fun _=>False) rfl rfl ?aO ?aR (fun _ _ h=>h) (fun _ h=>h.elim) ?aF ?aB ?aS ?aL ?_
       (case aR=>exact rcx HO0_0)
       (case aB=>exact (bl HB))
       (case aF=>exact (fun k_ hk=>⟨(.inr (Nat.le_trans (by first | exact HK.out.1 | exact (show Kept w _ (fun k_=>P0_0_ k_) from m6_).1) hk)),Kd.fresh' (Kd.R_lt (rs HO0_0)) k_ hk,Kd.fresh' (Kd.R_lt (rs HO186)) k_ hk,Kd.freshB (g:=gb175) (o:=.cells #[.int .i64 a1_0,.int .i64 a1_1] 55 (0,0)) (bk BK175) k_ hk⟩))
       (case aO=>exact (by (with_reducible repeat apply ru);exact Kd.R_mono HO180.out ok_))
       (case aS=>exact (below_size (bl HB)))
       (case aL=>have:=LMc30.out;omega)
       intro v182 w48 ho hb hg hat
       rw [← Ny181.out] at ho
       replace HO0_0:=am (Kd.R_after (ok:=(fun k_=>(P0_0_ k_ ∨ w.heap.size ≤ k_) ∧ some k_ ≠ (v185 : Value).ownBlock ∧ k_ ≠ gb175)) (by (with_reducible repeat apply ru);exact Kd.R_mono HO0_0.out ok_) hg hat)
       replace BK174:=am (blk_grown (g:=gb174) (o:=.cells #[.slice Ao32 l0_0.length co32] 29 (0,0)) (bk BK174) hg (Kd.R_ne HO180.out BK174.out (by decide)))
       replace BK175:=am (blk_grown (g:=gb175) (o:=.cells #[.int .i64 a1_0,.int .i64 a1_1] 55 (0,0)) (bk BK175) hg (Kd.R_away HO180.out (fun _ hk=>hk.2)))
       replace BK176:=am (blk_grown (g:=gb176) (o:=.cells #[.slice none 0 0] 29 (0,0)) (bk BK176) hg (Kd.R_ne HO180.out BK176.out (by decide)))
       replace HO186:=am (Kd.R_after (ok:=(fun k_=>(P0_0_ k_ ∨ w.heap.size ≤ k_) ∧ some k_ ≠ (.slice Ao32 l0_0.length co32 : Value).ownBlock ∧ k_ ≠ gb175)) (by (with_reducible repeat apply ru);exact Kd.R_mono HO186.out ok_) hg hat)
       replace HB:=am hb
       replace HK:=am (Kept.of_grown (S:=(fun k_=>P0_0_ k_)) hg m6_ (fun k_ e_=>(HO180.out.1 k_ e_).1.1.1.1))
       have HO183:=am (ho)
       clear HO180
       clear ho hb hg hat
       refine hK.out _ _ ⟨bcell BK174 0,bcell BK175 0,bcell BK175 1⟩ (fun hHeld=>?_)
       clear hK K
       refine nm_ ?_
       exact norm_ (by simp only [putAll,Act.put,List.setIfInBounds_toArray,List.set_cons_zero,List.set_cons_succ]) (hCont (v179,v182,v185) _ ⟨hHeld,(by (with_reducible repeat apply ru);exact Kd.R_mono HO0_0.out ok_),(rs HO183),(by (with_reducible repeat apply ru);exact Kd.R_mono HO186.out ok_),(bk BK174),(bk BK175),(bk BK176),m6_,(bl HB)⟩)
     rintro ⟨v179,v182,v185⟩ w49 ⟨hS_,h0_,h1_,h2_,h3_,h4_,h5_,h6_,h7_⟩
     have n0_ : Aside0 (Kd.R k55 55 w49 w0.heap.size (fun k_=>(P0_0_ k_ ∨ w.heap.size ≤ k_) ∧ some k_ ≠ (v182 : Value).ownBlock ∧ some k_ ≠ (v185 : Value).ownBlock ∧ k_ ≠ gb175) (.slice Ao32 l0_0.length co32) l0_0):=⟨h0_⟩
     have n1_ : Aside0 (Kd.R k55 55 w49 w0.heap.size (fun k_=>(P0_0_ k_ ∨ w.heap.size ≤ k_) ∧ some k_ ≠ (.slice Ao32 l0_0.length co32 : Value).ownBlock ∧ some k_ ≠ (v185 : Value).ownBlock ∧ k_ ≠ gb175) v182 y181):=⟨h1_⟩
     have n2_ : Aside0 (Kd.R k55 55 w49 w0.heap.size (fun k_=>(P0_0_ k_ ∨ w.heap.size ≤ k_) ∧ some k_ ≠ (.slice Ao32 l0_0.length co32 : Value).ownBlock ∧ some k_ ≠ (v182 : Value).ownBlock ∧ k_ ≠ gb175) v185 y184):=⟨h2_⟩
     have n3_ : Aside0 (w49.heap[gb174]? = some (.cells #[.slice Ao32 l0_0.length co32] 29 (0,0))):=⟨h3_⟩
     have n4_ : Aside0 (w49.heap[gb175]? = some (.cells #[.int .i64 a1_0,.int .i64 a1_1] 55 (0,0))):=⟨h4_⟩
     have n5_ : Aside0 (w49.heap[gb176]? = some (.cells #[.slice none 0 0] 29 (0,0))):=⟨h5_⟩
     have n6_ : Aside0 (Kept w w49 (fun k_=>P0_0_ k_)):=⟨h6_⟩
     have n7_ : Aside0 (Below w0.heap.size w0 w49):=⟨h7_⟩
     clear HO0_0
     clear BK174
     clear BK175
     clear BK176
     clear HK
     clear HB
     clear h0_ h1_ h2_ h3_ h4_ h5_ h6_ h7_
     have HO0_0:=n0_
     have HO183:=n1_
     have HO186:=n2_
     have BK174:=n3_
     have BK175:=n4_
     have BK176:=n5_
     have HK:=n6_
     have HB:=n7_
     clear n0_ n1_ n2_ n3_ n4_ n5_ n6_ n7_
     have hHeld : w49.cell? ⟨gb174,0,none⟩ = some (.slice Ao32 l0_0.length co32) ∧ w49.cell? ⟨gb175,0,none⟩ = some (.int .i64 a1_0) ∧ w49.cell? ⟨gb175,1,none⟩ = some (.int .i64 a1_1):=hS_
     obtain ⟨Ao51,co51,eo51⟩:=Kd.R_slice HO186.out
     (first | subst eo51 | (injection eo51 with f1_ f2_ f3_;have f4_:=f1_.symm;have f5_:=f3_.symm;clear f1_ f2_ f3_;subst f4_;subst f5_))
     refine norm_ (a':=?_) ?_ ?_
     rotate_left
     ·simp only [putAll,Act.put,List.setIfInBounds_toArray,List.set_cons_zero,List.set_cons_succ]
      rfl
     refine on_ 6 (some 25) (bm 9 127) (fun K hK=>?_)
     refine Kd.R_append_rows_step k55 (w0:=w0) w0.heap.size (by rfl) (.tmp 22) (.tmp 24) 27 55 (.agg #[(.int .i64 0),(.int .i64 0)]) 16 rfl Tryz.underlying27 info55 rfl (by decide) (by omega) v182 y181 y184 _ _ _ (fun k_=>(P0_0_ k_ ∨ w.heap.size ≤ k_) ∧ some k_ ≠ (.slice Ao32 l0_0.length co32 : Value).ownBlock ∧ some k_ ≠ (.slice Ao51 y184.length co51 : Value).ownBlock ∧ k_ ≠ gb175) (fun _=>False) rfl rfl ?aO ?aR (fun _ _ h=>h) (fun _ h=>h.elim) ?aF ?aB ?aS ?aL ?_
     (case aR=>exact rcx HO186)
     (case aB=>exact (bl HB))
     (case aF=>exact (fun k_ hk=>⟨(.inr (Nat.le_trans (by first | exact HK.out.1 | exact (show Kept w _ (fun k_=>P0_0_ k_) from m6_).1) hk)),Kd.fresh' (Kd.R_lt (rs HO0_0)) k_ hk,Kd.fresh' (Kd.R_lt (rs HO186)) k_ hk,Kd.freshB (g:=gb175) (o:=.cells #[.int .i64 a1_0,.int .i64 a1_1] 55 (0,0)) (bk BK175) k_ hk⟩))
     (case aO=>exact (rs HO183))
     (case aS=>exact (below_size (bl HB)))
     (case aL=>have:=LMc31.out;omega)
     intro v188 w50 ho hb hg hat
     rw [← Ny187.out] at ho
     replace HO0_0:=am (Kd.R_after (ok:=(fun k_=>(P0_0_ k_ ∨ w.heap.size ≤ k_) ∧ some k_ ≠ (.slice Ao51 y184.length co51 : Value).ownBlock ∧ k_ ≠ gb175)) (by (with_reducible repeat apply ru);exact Kd.R_mono HO0_0.out ok_) hg hat)
     replace BK174:=am (blk_grown (g:=gb174) (o:=.cells #[.slice Ao32 l0_0.length co32] 29 (0,0)) (bk BK174) hg (Kd.R_ne HO183.out BK174.out (by decide)))
     replace BK175:=am (blk_grown (g:=gb175) (o:=.cells #[.int .i64 a1_0,.int .i64 a1_1] 55 (0,0)) (bk BK175) hg (Kd.R_away HO183.out (fun _ hk=>hk.2.2.2)))
     replace BK176:=am (blk_grown (g:=gb176) (o:=.cells #[.slice none 0 0] 29 (0,0)) (bk BK176) hg (Kd.R_ne HO183.out BK176.out (by decide)))
     replace HO186:=am (Kd.R_after (ok:=(fun k_=>(P0_0_ k_ ∨ w.heap.size ≤ k_) ∧ some k_ ≠ (.slice Ao32 l0_0.length co32 : Value).ownBlock ∧ k_ ≠ gb175)) (by (with_reducible repeat apply ru);exact Kd.R_mono HO186.out ok_) hg hat)
     replace HB:=am hb
     replace HK:=am (Kept.of_grown (S:=(fun k_=>P0_0_ k_)) hg m6_ (fun k_ e_=>(HO183.out.1 k_ e_).1))
     have HO189:=am (ho)
     clear HO183
     clear ho hb hg hat
     obtain ⟨Ao52,co52,eo52⟩:=Kd.R_slice HO189.out
     (first | subst eo52 | (injection eo52 with f1_ f2_ f3_;have f4_:=f1_.symm;have f5_:=f3_.symm;clear f1_ f2_ f3_;subst f4_;subst f5_))
     refine hK.out _ _ ⟨bcell BK174 0,bcell BK175 0,bcell BK175 1⟩ (fun hHeld=>?_)
     clear hK K
     refine nm_ ?_
     refine pu_ 7 (some 26) (bm 9 255) ?_
     refine last_ (i:=8) (N:=none) #[true,true,true,true,true,true,true,true,true] rfl rfl (one_of HT_.out (by kernel_rfl)) (by decide) (fun K hK=>?_)
     have : w50.cell? ⟨gb174,0,none⟩ = some (.slice Ao32 l0_0.length co32):=bcell BK174 0
     have:=bfz BK174 0
     have:=NB175_174.out
     have:=NB176_174.out
     have:=NB174_175.out
     have:=NB174_176.out
     refine skip_ (w1:=?_) (by rfl) rfl ?_ ?_
     rotate_left
     ·go_simp
      rfl
     refine hK.out _ _ ?_
     clear hK K
     refine done_ (done_of HT_.out (by kernel_rfl)) ?_
     try go_wp2
     have n0_ : Aside0 (Kd.R k55 55 (w50.setCell ⟨gb174,0,none⟩ (.slice Ao52 y187.length co52)) w0.heap.size (fun k_=>(P0_0_ k_ ∨ w.heap.size ≤ k_) ∧ some k_ ≠ (.slice Ao51 y184.length co51 : Value).ownBlock ∧ some k_ ≠ (.slice Ao52 y187.length co52 : Value).ownBlock ∧ k_ ≠ gb175) (.slice Ao32 l0_0.length co32) l0_0):=⟨by (with_reducible repeat apply ru);exact Kd.R_mono (Kd.R_far (p:=⟨gb174,0,none⟩) (Kd.R_types HO0_0.out BK174.out (by decide)) (fun _ hk=>hk.2) (.slice Ao52 y187.length co52)) ok_⟩
     have n1_ : Aside0 (Kd.R k55 55 (w50.setCell ⟨gb174,0,none⟩ (.slice Ao52 y187.length co52)) w0.heap.size (fun k_=>(P0_0_ k_ ∨ w.heap.size ≤ k_) ∧ some k_ ≠ (.slice Ao32 l0_0.length co32 : Value).ownBlock ∧ some k_ ≠ (.slice Ao52 y187.length co52 : Value).ownBlock ∧ k_ ≠ gb175) (.slice Ao51 y184.length co51) y184):=⟨by (with_reducible repeat apply ru);exact Kd.R_mono (Kd.R_far (p:=⟨gb174,0,none⟩) (Kd.R_types HO186.out BK174.out (by decide)) (fun _ hk=>hk.2) (.slice Ao52 y187.length co52)) ok_⟩
     have n2_ : Aside0 (Kd.R k55 55 (w50.setCell ⟨gb174,0,none⟩ (.slice Ao52 y187.length co52)) w0.heap.size (fun k_=>(P0_0_ k_ ∨ w.heap.size ≤ k_) ∧ some k_ ≠ (.slice Ao32 l0_0.length co32 : Value).ownBlock ∧ some k_ ≠ (.slice Ao51 y184.length co51 : Value).ownBlock ∧ k_ ≠ gb175) (.slice Ao52 y187.length co52) y187):=⟨by (with_reducible repeat apply ru);exact Kd.R_mono (Kd.R_far (p:=⟨gb174,0,none⟩) (Kd.R_types HO189.out BK174.out (by decide)) (fun _ hk=>hk.2) (.slice Ao52 y187.length co52)) ok_⟩
     have n3_ : Aside0 ((w50.setCell ⟨gb174,0,none⟩ (.slice Ao52 y187.length co52)).heap[gb174]? = some (.cells #[.slice Ao52 y187.length co52] 29 (0,0))):=⟨by (with_reducible repeat refine bu ?_);refine blk_put (cs:=#[.slice Ao32 l0_0.length co32]) ?_ 0 _ rfl;(with_reducible repeat refine bu ?_);exact BK174.out⟩
     have n4_ : Aside0 ((w50.setCell ⟨gb174,0,none⟩ (.slice Ao52 y187.length co52)).heap[gb175]? = some (.cells #[.int .i64 a1_0,.int .i64 a1_1] 55 (0,0))):=bf_ BK175
     have n5_ : Aside0 ((w50.setCell ⟨gb174,0,none⟩ (.slice Ao52 y187.length co52)).heap[gb176]? = some (.cells #[.slice none 0 0] 29 (0,0))):=bf_ BK176
     have n6_ : Aside0 (Kept w (w50.setCell ⟨gb174,0,none⟩ (.slice Ao52 y187.length co52)) (fun k_=>P0_0_ k_)):=⟨m6_⟩
     have n7_ : Aside0 (Below w0.heap.size w0 (w50.setCell ⟨gb174,0,none⟩ (.slice Ao52 y187.length co52))):=⟨m2_⟩
     (try clear HO0_0)
     (try clear HO186)
     (try clear HO189)
     (try clear BK174)
     (try clear BK175)
     (try clear BK176)
     (try clear HK)
     (try clear HB)
     generalize (w50.setCell ⟨gb174,0,none⟩ (.slice Ao52 y187.length co52)) = w54 at n0_ n1_ n2_ n3_ n4_ n5_ n6_ n7_ ⊢
     have HO0_0:=n0_
     have HO186:=n1_
     have HO189:=n2_
     have BK174:=n3_
     have BK175:=n4_
     have BK176:=n5_
     have HK:=n6_
     have HB:=n7_
     clear n0_ n1_ n2_ n3_ n4_ n5_ n6_ n7_
     replace HO0_0:=am (Kd.R_drew HO0_0.out)
     replace HO186:=am (Kd.R_drew HO186.out)
     replace HO189:=am (Kd.R_drew HO189.out)
     replace BK174:=am (blk_drew BK174.out)
     replace BK175:=am (blk_drew BK175.out)
     replace BK176:=am (blk_drew BK176.out)
     replace HK:=am (Kept.drew HK.out)
     replace HB:=am (below_drew1 HB.out)
     refine start_ (n:=8) (S:=fun w'=>w'.cell? ⟨gb174,0,none⟩ = some (.slice Ao52 y187.length co52)) (ds:=[]) #[false,false,false,false,false,false,false,false] (by kernel_rfl) rfl rfl (bcell BK174 0) (fun hHeld=>?_);refine with_tabW spec_l3Put.tab7 spec_l3Put.bits7 (fun HT_ HW_=>?_)
     generalize w54.drew = w55 at HO0_0 HO186 HO189 BK174 BK175 BK176 HK HB hHeld ⊢
     refine pu_ 1 (some 28) (bm 8 2) ?_
     refine take_ (i:=0) (N:=some 27) (v:=?_) (a':=?_) #[true,true,false,false,false,false,false,false] rfl rfl (take_ofW HT_.out HW_.out (by kernel_rfl)) (fun _ _ _ h=>h) (Or.inl ⟨by rfl,?_⟩) hHeld ?_ ?_
     rotate_left
     ·intro w' s0
      go_simp
      with_reducible rfl
     rotate_left
     ·simp only [Act.put,List.setIfInBounds_toArray,List.set_cons_zero,List.set_cons_succ,i64_w,i32_w]
      rfl
     refine take_ (i:=2) (N:=some 29) (v:=?_) (a':=?_) #[true,true,true,false,false,false,false,false] rfl rfl (take_ofW HT_.out HW_.out (by kernel_rfl)) (fun _ _ _ h=>h) (Or.inl ⟨by rfl,?_⟩) hHeld ?_ ?_
     rotate_left
     ·intro w' s0
      go_simp
      with_reducible rfl
     rotate_left
     ·simp only [Act.put,List.setIfInBounds_toArray,List.set_cons_zero,List.set_cons_succ,i64_w,i32_w]
      rfl
     refine pu_ 3 (some 30) (bm 8 15) ?_
     refine pu_ 4 (some 31) (bm 8 31) ?_
     refine pu_ 5 (some 32) (bm 8 63) ?_
     refine on_ 6 none (bm 8 127) (fun K hK=>?_)
     have : w55.cell? ⟨gb176,0,none⟩ = some (.slice none 0 0):=bcell BK176 0
     have:=bfz BK176 0
     have:=NB174_176.out
     have:=NB175_176.out
     have:=NB176_174.out
     have:=NB176_175.out
     refine skip_ (w1:=?_) (by rfl) rfl ?_ ?_
     rotate_left
     ·go_simp
      rfl
     refine hK.out _ _ (((cell_far (p:=⟨gb176,_,none⟩) NB174_176.out _).trans (hHeld))) (fun hHeld=>?_)
     clear hK K
     refine pu_ 7 (some 5) (bm 8 255) ?_
     refine done_ (done_of HT_.out (by kernel_rfl)) ?_
     try go_wp2
     refine bodyPost_ret (results_ct rfl _ _ gb176 29 #[.slice Ao52 y187.length co52] (0,0) _ rfl (by (with_reducible repeat refine bu ?_);refine blk_put (cs:=#[.slice none 0 0]) ?_ 0 _ rfl;(with_reducible repeat refine bu ?_);exact BK176.out) Tryz.underlying29 rfl (by kernel_rfl)) rfl ?_
     exact ⟨_,fi_,by (with_reducible repeat apply ru);exact Kd.R_mono (Kd.R_far (p:=⟨gb176,0,none⟩) (Kd.R_types HO189.out BK176.out (by decide)) (fun _ hk=>hk.2) (.slice Ao52 y187.length co52)) (fun _ hk=>hk.1.1),m2_,m6_⟩
    ·rw [if_neg c31] at H
     exact absurd H (by simp)
   ·rw [if_neg c30] at H
    exact absurd H (by simp)
def spec_l3Copy.f (l0_0 : List (S55)) : Option ((List (S55))):=(some (([] : List (S55)) : List (S55))).bind fun y559=>(if y559.length + l0_0.length < 8796093022208 then (some (y559 ++ l0_0)) else (none))
set_option maxHeartbeats 8000000 in
set_option maxRecDepth 100000 in
theorem spec_l3Copy.calls (A0_0 : Option Addr) (c0_0 : Nat) (l0_0 : List (S55)) (r : List (S55)) (w : World) (hr0_0 : Kd.C k55 w A0_0 l0_0.length l0_0) (hc0_0 : l0_0.length ≤ c0_0) (h : spec_l3Copy.f l0_0 = some r) :
  Calls Tryz.prog 114 #[.agg #[.slice A0_0 l0_0.length c0_0]] w fun e w'=>∃ v0_ : Value,e = .returned (.agg #[v0_]) ∧ Kd.R k55 55 w' w.heap.size (fun _=>True) v0_ r ∧ Below w.heap.size w w':=by
 have hu29:=Tryz.underlying29
 have HR0_0:=am hr0_0
 have HC0_0:=am hc0_0
 clear hr0_0 hc0_0
 have HB:=am (Below.refl w.heap.size w)
 have H : ((some (([] : List (S55)) : List (S55))).bind fun y559=>(if y559.length + l0_0.length < 8796093022208 then (some (y559 ++ l0_0)) else (none))) = some r:=h
 clear h
 obtain ⟨y559,hy559⟩ : ∃ y_ : List (S55),y_ = (([] : List (S55))):=⟨_,rfl⟩
 replace H : (if y559.length + l0_0.length < 8796093022208 then (some (y559 ++ l0_0)) else (none)) = some r:=by first | (rw [hy559];with_reducible exact H) | (have H2_:=(Option.bind_some _ _).symm.trans H;rw [hy559];with_reducible exact H2_) | (have H2_:=(Option.bind_some _ _).symm.trans H;with_reducible exact H2_) | with_reducible exact H | (rw [hy559];exact H) | exact H
 have Ny559:=am hy559
 clear hy559
 by_cases c2 : y559.length + l0_0.length < 8796093022208
 ·rw [if_pos c2] at H
  have LMc2:=am c2
  clear c2
  obtain ⟨y562,hy562⟩ : ∃ y_ : List (S55),y_ = (y559 ++ l0_0):=⟨_,rfl⟩
  replace H : (some y562) = some r:=by first | (rw [hy562];with_reducible exact H) | (have H2_:=(Option.bind_some _ _).symm.trans H;rw [hy562];with_reducible exact H2_) | (have H2_:=(Option.bind_some _ _).symm.trans H;with_reducible exact H2_) | with_reducible exact H | (rw [hy562];exact H) | exact H
  have Ny562:=am hy562
  clear hy562
  obtain rfl:=Option.some.inj H
  go_enter Tryz.func114,Tryz.ntmps114
  go_wp2_with (first | ((with_reducible refine gD 1 rfl ?_);refine box_event rfl (N:=1) rfl (cs:=#[.slice A0_0 l0_0.length c0_0]) (t:=29) hr_ ?_;intro gb557 hg w3 hbox hb;have BK557:=am hbox;have GW557:=gwE HB hg;have GE557:=gwE HB hg;replace HB:=hbS HB hb;clear hb hbox hg) | ((with_reducible refine gD 2 rfl ?_);refine box_event rfl (N:=2) rfl (cs:=#[.slice none 0 0]) (t:=29) hr_ ?_;intro gb558 hg w4 hbox hb;have BK558:=am hbox;have GW558:=gwE HB hg;have GE558:=gwE HB hg;replace HB:=hbS HB hb;have NB557_558:=neL BK557 hg;have NB558_557:=neG BK557 hg;replace BK557:=bkB BK557 hb;clear hb hbox hg) | ((with_reducible refine gD 3 rfl ?_);refine Kd.R_lit k55 _ 55 rfl (N:=3) rfl (xs:=([] : List (S55))) (inner:=[]) (ok:=fun _=>True) (okp:=fun _=>True) hr_ ?hp (fun _ hk=>hk) trivial (Below.refl _ _) (Nat.le_refl _) (by simp) ?_;(case hp=>exact (Reps.none _ _));intro v560 w5 ho6 hb hg_ hnew_;clear hg_ hnew_;(first | rw [← Ny559.out] at ho6 | (simp only [Int.reduceToNat] at ho6;rw [← Ny559.out] at ho6));have HO561:=am (Kd.R_lower ho6 (below_size (bl HB)));replace BK557:=bkB BK557 hb;replace BK558:=bkB BK558 hb;replace HB:=hbS HB hb;clear hb ho6;have:=NB557_558.out;have:=NB558_557.out;have:=bcell BK557 0;have:=bfz BK557 0) | ((with_reducible refine gate_builtin (b:=.append) (xs:=#[.tmp 3,.tmp 5]) rfl ?_);at_builtin;refine Kd.R_append_rows k55 (w0:=w) w.heap.size rfl (.tmp 3) (.tmp 5) 27 55 (.agg #[(.int .i64 0),(.int .i64 0)]) 16 rfl Tryz.underlying27 info55 rfl (by decide) (by omega) v560 y559 l0_0 _ _ _ (fun _=>True) (fun _=>False) rfl rfl ?aO ?aR (fun _ _ h=>h) (fun _ h=>h.elim) ?aF ?aB ?aS ?aL ?_;(case aR=>exact m3_);(case aB=>exact (bl HB));(case aF=>exact (fun _ _=>trivial));(case aO=>exact (rs HO561));(case aS=>exact (below_size (bl HB)));(case aL=>have:=LMc2.out;omega);intro v563 w9 ho hb hg hat;rw [← Ny562.out] at ho;replace BK557:=am (blk_grown (g:=gb557) (o:=.cells #[.slice A0_0 l0_0.length c0_0] 29 (0,0)) (bk BK557) hg (Kd.R_ne HO561.out BK557.out (by decide)));replace BK558:=am (blk_grown (g:=gb558) (o:=.cells #[.slice none 0 0] 29 (0,0)) (bk BK558) hg (Kd.R_ne HO561.out BK558.out (by decide)));replace HB:=am hb;have HO564:=am (ho);clear HO561;clear ho hb hg hat;obtain ⟨Ao10,co10,eo10⟩:=Kd.R_slice HO564.out;subst eo10;have:=bcell BK558 0;have:=bfz BK558 0))
  refine bodyPost_ret (results_cell_row rfl _ _ gb558 29 #[.slice Ao10 y562.length co10] (0,0) _ rfl (by (with_reducible repeat refine bu ?_);refine blk_put (cs:=#[.slice none 0 0]) ?_ 0 _ rfl;(with_reducible repeat refine bu ?_);exact BK558.out) Tryz.underlying29 rfl (by kernel_rfl)) rfl ?_
  exact ⟨_,fi_,by (with_reducible repeat apply ru);exact Kd.R_mono (Kd.R_far (p:=⟨gb558,0,none⟩) (Kd.R_types HO564.out BK558.out (by decide)) (fun _ hk=>hk.2) (.slice Ao10 y562.length co10)) (fun _ hk=>trivial),m2_⟩
 ·rw [if_neg c2] at H
  exact absurd H (by simp)
def spec_MapPut.j0 : Nat → Bool → List (S55) → Int → Int → Option ((List (S55)) × Int)
 | 0,_,_,_,_=>none
 | k + 1,x13,x566000,x567000,x567001=>if x13 = true then (some (([] : List (S55)),0)) else ((spec_l3Copy.f x566000).bind fun t570=>((spec_l3Put.f k t570 x567000 x567001).bind fun bt573=>(some (bt573.1,bt573.2))))
def spec_MapPut.f (k : Nat) (l0_0 : List (S55)) (a1_0 : Int) (a1_1 : Int) : Option ((List (S55)) × Int):=(spec_MapOk.f k l0_0).bind fun t568=>(if t568 = true then ((spec_EndInside.f a1_0 a1_1).bind fun t569=>(spec_MapPut.j0 k (!t569) l0_0 a1_0 a1_1)) else (spec_MapPut.j0 k true l0_0 a1_0 a1_1))
theorem spec_MapPut.mono_l : ∀ k,(∀ y0 y1 y2 y3,LeO (spec_MapPut.j0 k y0 y1 y2 y3) (spec_MapPut.j0 (k + 1) y0 y1 y2 y3))
 | 0=>fun _ _ _ _ r h=>by simp [spec_MapPut.j0] at h
 | k + 1=>by
  have ih0:=spec_MapPut.mono_l k
  ·intro y0 y1 y2 y3
   unfold spec_MapPut.j0
   repeat' first | (with_reducible first | exact ih0 _ _ _ _ | exact spec_MapOk.mono _ _ | exact spec_l3Put.mono _ _ _ _ | exact LeO.refl _ | exact LeO.none _ | refine LeO.ite ?_ ?_ | refine LeO.bind ?_ (fun _=>?_)) | exact ih0 _ _ _ _ | exact spec_MapOk.mono _ _ | exact spec_l3Put.mono _ _ _ _ | exact LeO.none _ | refine LeO.ite ?_ ?_ | refine LeO.bind ?_ (fun _=>?_)
theorem spec_MapPut.mono : ∀ a0 a1 a2 k,LeO (spec_MapPut.f k a0 a1 a2) (spec_MapPut.f (k + 1) a0 a1 a2):=by
 intro a0 a1 a2 k
 have ih0:=spec_MapPut.mono_l k
 unfold spec_MapPut.f
 repeat' first | (with_reducible first | exact ih0 _ _ _ _ | exact spec_MapOk.mono _ _ | exact spec_l3Put.mono _ _ _ _ | exact LeO.refl _ | exact LeO.none _ | refine LeO.ite ?_ ?_ | refine LeO.bind ?_ (fun _=>?_)) | exact ih0 _ _ _ _ | exact spec_MapOk.mono _ _ | exact spec_l3Put.mono _ _ _ _ | exact LeO.none _ | refine LeO.ite ?_ ?_ | refine LeO.bind ?_ (fun _=>?_)
def spec_MapPut.T3 : Bool × List (List Nat × List Nat):=(true,[([],[]),([0],[0]),([],[]),([1,2,1],[1,2]),([3],[3]),([3],[3]),([4,3,0,1,2,3,4,5],[4]),([5,6,0,1,2,3,4,5,6],[5])])
def spec_MapPut.B3 : List Nat:=[0,1,0,7,15,15,63,127]
theorem spec_MapPut.tab3 : rtab .any (opsOf Tryz.f92 3) = spec_MapPut.T3:=by kernel_rfl
theorem spec_MapPut.bits3 : waitsOk spec_MapPut.T3.2 spec_MapPut.B3 = true:=by kernel_rfl
set_option maxHeartbeats 8000000 in
set_option maxRecDepth 100000 in
theorem spec_MapPut.calls (k : Nat) (A0_0 : Option Addr) (c0_0 : Nat) (l0_0 : List (S55)) (a1_0 : Int) (a1_1 : Int) (r1 : List (S55)) (r2 : Int) (w : World) (hr0_0 : Kd.C k55 w A0_0 l0_0.length l0_0) (hc0_0 : l0_0.length ≤ c0_0) (h : spec_MapPut.f k l0_0 a1_0 a1_1 = some (r1,r2)) :
  Calls Tryz.prog 92 #[.agg #[.slice A0_0 l0_0.length c0_0],.agg #[.int .i64 a1_0,.int .i64 a1_1]] w fun e w'=>∃ v0_ : Value,e = .returned (.tuple #[.agg #[v0_],.int .i64 r2]) ∧ Kd.R k55 55 w' w.heap.size (fun _=>True) v0_ r1 ∧ Below w.heap.size w w':=by
 have hu29:=Tryz.underlying29
 have hu55:=Tryz.underlying55
 have HR0_0:=am hr0_0
 have HC0_0:=am hc0_0
 clear hr0_0 hc0_0
 have HB:=am (Below.refl w.heap.size w)
 have H : ((spec_MapOk.f k l0_0).bind fun t568=>(if t568 = true then ((spec_EndInside.f a1_0 a1_1).bind fun t569=>(spec_MapPut.j0 k (!t569) l0_0 a1_0 a1_1)) else (spec_MapPut.j0 k true l0_0 a1_0 a1_1))) = some (r1,r2):=h
 clear h
 have HC3:=am H
 clear H
 go_enter Tryz.func92,Tryz.ntmps92
 go_upto_region 1 with (first | ((with_reducible refine gD 2 rfl ?_);refine box_event rfl (N:=2) rfl (cs:=#[.slice A0_0 l0_0.length c0_0]) (t:=29) hr_ ?_;intro gb565 hg w4 hbox hb;have BK565:=am hbox;have GW565:=gwE HB hg;have GE565:=gwE HB hg;replace HB:=hbS HB hb;clear hb hbox hg) | ((with_reducible refine gD 3 rfl ?_);refine box_event rfl (N:=3) rfl (cs:=#[.int .i64 a1_0,.int .i64 a1_1]) (t:=55) hr_ ?_;intro gb566 hg w5 hbox hb;have BK566:=am hbox;have GW566:=gwE HB hg;have GE566:=gwE HB hg;replace HB:=hbS HB hb;have NB565_566:=neL BK565 hg;have NB566_565:=neG BK565 hg;replace BK565:=bkB BK565 hb;clear hb hbox hg) | ((with_reducible refine gD 4 rfl ?_);refine box_event rfl (N:=4) rfl (cs:=#[.slice none 0 0]) (t:=29) hr_ ?_;intro gb567 hg w6 hbox hb;have BK567:=am hbox;have GW567:=gwE HB hg;have GE567:=gwE HB hg;replace HB:=hbS HB hb;have NB565_567:=neL BK565 hg;have NB567_565:=neG BK565 hg;replace BK565:=bkB BK565 hb;have NB566_567:=neL BK566 hg;have NB567_566:=neG BK566 hg;replace BK566:=bkB BK566 hb;clear hb hbox hg))
 (try simp only [Act.put,List.setIfInBounds_toArray,List.set_cons_zero,List.set_cons_succ])
 go_cut [13] (fun v13 wc=>∃ (kq : Nat) (x13_2 : Bool),v13 = .bool x13_2 ∧ Aside0 (spec_MapPut.j0 kq x13_2 l0_0 a1_0 a1_1 = some (r1,r2)) ∧ Aside0 (kq ≤ k) ∧ Aside0 (wc.heap[gb565]? = some (.cells #[(.slice A0_0 l0_0.length c0_0)] 29 (0,0))) ∧ Aside0 (wc.heap[gb566]? = some (.cells #[.int .i64 a1_0,.int .i64 a1_1] 55 (0,0))) ∧ Aside0 (wc.heap[gb567]? = some (.cells #[(.slice none 0 0)] 29 (0,0))) ∧ Aside0 (Below w.heap.size w wc))
 case first=>
  have H:=HC3.out
  clear HC3
  obtain ⟨t568,A7,H⟩:=bse H
  try dsimp only at H
  by_cases c8 : t568 = true
  ·subst c8
   have H1 : ((spec_EndInside.f a1_0 a1_1).bind fun t569=>(spec_MapPut.j0 k (!t569) l0_0 a1_0 a1_1)) = some (r1,r2):=by rw [if_pos rfl] at H;exact H
   clear H
   have H:=H1
   clear H1
   obtain ⟨t569,A9,H⟩:=bse H
   try dsimp only at H
   have H':=am H
   clear H
   have:=NB565_566.out
   have:=NB566_565.out
   have:=NB565_567.out
   have:=NB567_565.out
   have hcz12_0:=bcell BK565 0
   have hfz12_0:=blk_frozen BK565.out 0
   go_wp2_with (first | ((with_reducible refine gC 26 rfl ?_);refine gL (some 7) Tryz.func26 #[.agg #[.slice A0_0 l0_0.length c0_0]] ?_;(with_reducible refine (spec_MapOk.calls k _ _ l0_0 true _ ?side1 ?side2 A7.out).mono ?_);(case side1=>exact m3_);(case side2=>exact HC0_0.out);rintro e w13 ⟨rfl,hb⟩;refine ⟨_,rfl,?_⟩;replace BK565:=bkB BK565 hb;replace BK566:=bkB BK566 hb;replace BK567:=bkB BK567 hb;replace HB:=hbS HB hb;(try clear hb);have:=NB566_567.out;have:=NB567_566.out;have hcz15_0:=bcell BK566 0;have hcz15_1:=bcell BK566 1;have hfz15_0:=blk_frozen BK566.out 0;have hfz15_1:=blk_frozen BK566.out 1) | (go_at_call 46;(with_reducible refine (spec_EndInside.calls a1_0 a1_1 t569 _ A9.out).mono ?_);rintro e w16 ⟨rfl,hb⟩;replace BK565:=bkB BK565 hb;replace BK566:=bkB BK566 hb;replace BK567:=bkB BK567 hb;replace HB:=hbS HB hb;(try clear hb)))
   go_meet
   case rel=>exact ⟨_,(!t569),rs_,H',⟨by first | omega | exact Nat.le_refl _⟩,⟨bk BK565⟩,⟨bk BK566⟩,⟨bk BK567⟩,⟨m2_⟩⟩
  ·replace c8:=Bool.eq_false_iff.mpr c8
   subst c8
   have H1 : (spec_MapPut.j0 k true l0_0 a1_0 a1_1) = some (r1,r2):=by rw [if_neg (show ¬ (false = true) by decide)] at H;exact H
   clear H
   have H:=H1
   clear H1
   have H':=am H
   clear H
   have:=NB565_566.out
   have:=NB566_565.out
   have:=NB565_567.out
   have:=NB567_565.out
   have hcz19_0:=bcell BK565 0
   have hfz19_0:=blk_frozen BK565.out 0
   go_wp2_with (first | ((with_reducible refine gC 26 rfl ?_);refine gL (some 7) Tryz.func26 #[.agg #[.slice A0_0 l0_0.length c0_0]] ?_;(with_reducible refine (spec_MapOk.calls k _ _ l0_0 false _ ?side1 ?side2 A7.out).mono ?_);(case side1=>exact m3_);(case side2=>exact HC0_0.out);rintro e w20 ⟨rfl,hb⟩;refine ⟨_,rfl,?_⟩;replace BK565:=bkB BK565 hb;replace BK566:=bkB BK566 hb;replace BK567:=bkB BK567 hb;replace HB:=hbS HB hb;(try clear hb)))
   go_meet
   case rel=>exact ⟨_,(true),rs_,H',⟨by first | omega | exact Nat.le_refl _⟩,⟨bk BK565⟩,⟨bk BK566⟩,⟨bk BK567⟩,⟨m2_⟩⟩
 case rest=>
  clear HC3
  try clear c1
  try clear c2
  try clear p2
  try clear c8
  try clear c9
  try clear c10
  try clear c11
  try clear c14
  try clear c17
  try clear c18
  try clear hcz12_0
  try clear hcz15_0
  try clear hcz15_1
  try clear hcz19_0
  try clear hfz12_0
  try clear hfz15_0
  try clear hfz15_1
  try clear hfz19_0
  obtain ⟨kq,x13_2,rfl,HA,HJ2,BK565,BK566,BK567,HB⟩:=hcut
  cases kq with
  | zero=>exact absurd HA.out (by simp [spec_MapPut.j0])
  | succ kj2=>
   have H:=HA.out
   clear HA
   simp only [spec_MapPut.j0] at H
   by_cases c21 : x13_2 = true
   ·subst c21
    have H1 : (some (([] : List (S55)),0)) = some (r1,r2):=by rw [if_pos rfl] at H;exact H
    clear H
    have H:=H1
    clear H1
    simp only [Option.some.injEq,Prod.mk.injEq] at H
    obtain ⟨rfl,rfl⟩:=H
    have:=NB567_565.out
    have:=NB565_567.out
    have:=NB567_566.out
    have:=NB566_567.out
    have:=bcell BK567 0
    have:=bfz BK567 0
    go_wp2
    refine bodyPost_ret (results_ct rfl _ _ gb567 29 #[.slice none 0 0] (0,0) _ rfl (by (with_reducible repeat refine bu ?_);refine blk_put (cs:=#[.slice none 0 0]) ?_ 0 _ rfl;(with_reducible repeat refine bu ?_);exact BK567.out) Tryz.underlying29 rfl (by kernel_rfl)) rfl ?_
    exact ⟨_,fi_,by first | exact Kd.R_nil _ _ _ _ _ | exact Kd.N_nil _ _ _ _ _ | exact Kd.V_nil _ _ _ _ _ | exact Kd.Q_nil _ _ _ _ _ | exact Kd.S_nil _ _ _ _ _,m2_⟩
   ·replace c21:=Bool.eq_false_iff.mpr c21
    subst c21
    have H1 : ((spec_l3Copy.f l0_0).bind fun t570=>((spec_l3Put.f kj2 t570 a1_0 a1_1).bind fun bt573=>(some (bt573.1,bt573.2)))) = some (r1,r2):=by rw [if_neg (show ¬ (false = true) by decide)] at H;exact H
    clear H
    have H:=H1
    clear H1
    obtain ⟨t570,A25,H⟩:=bse H
    try dsimp only at H
    obtain ⟨⟨t573,t576⟩,A26,H⟩:=bse H
    try dsimp only at H
    simp only [Option.some.injEq,Prod.mk.injEq] at H
    obtain ⟨rfl,rfl⟩:=H
    try go_wp2
    replace BK565:=am (blk_drew BK565.out)
    replace BK566:=am (blk_drew BK566.out)
    replace BK567:=am (blk_drew BK567.out)
    replace HB:=am (below_drew1 HB.out)
    refine start_ (n:=8) (S:=fun w'=>w'.cell? ⟨gb565,0,none⟩ = some (.slice A0_0 l0_0.length c0_0) ∧ w'.cell? ⟨gb566,0,none⟩ = some (.int .i64 a1_0) ∧ w'.cell? ⟨gb566,1,none⟩ = some (.int .i64 a1_1)) (ds:=[]) #[false,false,false,false,false,false,false,false] (by kernel_rfl) rfl rfl ⟨bcell BK565 0,bcell BK566 0,bcell BK566 1⟩ (fun hHeld=>?_);refine with_tabW spec_MapPut.tab3 spec_MapPut.bits3 (fun HT_ HW_=>?_)
    generalize wc.drew = w27 at BK565 BK566 BK567 HB hHeld ⊢
    refine tk_ 0 (some 15) (bm 8 1) rfl (.inl ⟨rfl,m7_⟩) ?_
    refine tk_ 2 (some 17) (bm 8 5) rfl (.inl ⟨rfl,m7_⟩) ?_
    refine on_ 1 (some 16) (bm 8 7) (fun K hK=>?_)
    refine gR Tryz.func114 #[.agg #[.slice A0_0 l0_0.length c0_0]] ?_
    with_reducible refine (spec_l3Copy.calls _ _ l0_0 t570 _ ?side1 ?side2 A25.out).mono ?_
    (case side1=>exact m3_)
    (case side2=>exact HC0_0.out)
    rintro e w28 ⟨v571,rfl,ho0,hb⟩
    refine ⟨_,rfl,?_⟩
    have HO572:=am (Kd.R_lower (Kd.R_newB ho0 (g:=gb566) (o:=.cells #[.int .i64 a1_0,.int .i64 a1_1] 55 (0,0)) (bk BK566)) (below_size (bl HB)))
    replace BK565:=bkB BK565 hb
    replace BK566:=bkB BK566 hb
    replace BK567:=bkB BK567 hb
    replace HB:=hbS HB hb
    (try clear hb)
    (try clear hb2)
    (try clear hk)
    (try clear hi)
    (try clear ho0)
    obtain ⟨Ao29,co29,eo29⟩:=Kd.R_slice HO572.out
    (first | subst eo29 | (injection eo29 with f1_ f2_ f3_;have f4_:=f1_.symm;have f5_:=f3_.symm;clear f1_ f2_ f3_;subst f4_;subst f5_))
    refine hK.out _ _ ⟨bcell BK565 0,bcell BK566 0,bcell BK566 1⟩ (fun hHeld=>?_)
    clear hK K
    refine nm_ ?_
    refine on_ 3 (some 18) (bm 8 15) (fun K hK=>?_)
    refine gR Tryz.func112 #[.agg #[.slice Ao29 t570.length co29],.agg #[.int .i64 a1_0,.int .i64 a1_1]] ?_
    with_reducible refine (spec_l3Put.calls kj2 (fun k_=>some k_ = (.slice Ao29 t570.length co29 : Value).ownBlock) (.slice Ao29 t570.length co29) t570 a1_0 a1_1 t573 t576 w _ ?side1 ?side2 A26.out).mono ?_
    (case side1=>exact m2_)
    (case side2=>exact Kd.R_tight rfl HO572.out)
    rintro e w30 ⟨v574,rfl,ho0,hb,hkp⟩
    refine ⟨_,rfl,?_⟩
    replace BK565:=am (blk_kept (bk BK565) hkp (fun hs_=>(fun e_=>(Kd.R_ne HO572.out BK565.out (by decide)) e_) hs_))
    replace BK567:=am (blk_kept (bk BK567) hkp (fun hs_=>(fun e_=>(Kd.R_ne HO572.out BK567.out (by decide)) e_) hs_))
    have HO575:=am (Kd.R_mono (ok':=fun k_=>k_ ≠ gb566) ho0 (fun k_ hk_=>Or.elim hk_ (fun hs_=>fun e_=>(Kd.R_away HO572.out (fun _ hk=>hk.2)) (by rw [← e_];exact hs_)) (fun hn_=>(Kd.freshB (g:=gb566) (o:=.cells #[.int .i64 a1_0,.int .i64 a1_1] 55 (0,0)) (bk BK566) k_ hn_))))
    replace BK566:=am (blk_kept (bk BK566) hkp (fun hs_=>(fun e_=>(Kd.R_away HO572.out (fun _ hk=>hk.2)) e_) hs_))
    replace HB:=am hb
    clear HO572
    (try clear hb)
    (try clear hkp)
    (try clear ho0)
    obtain ⟨Ao31,co31,eo31⟩:=Kd.R_slice HO575.out
    (first | subst eo31 | (injection eo31 with f1_ f2_ f3_;have f4_:=f1_.symm;have f5_:=f3_.symm;clear f1_ f2_ f3_;subst f4_;subst f5_))
    refine hK.out _ _ ⟨bcell BK565 0,bcell BK566 0,bcell BK566 1⟩ (fun hHeld=>?_)
    clear hK K
    refine nm_ ?_
    refine pu_ 4 (some 19) (bm 8 31) ?_
    refine pu_ 5 (some 20) (bm 8 63) ?_
    refine on_ 6 none (bm 8 127) (fun K hK=>?_)
    have : w30.cell? ⟨gb567,0,none⟩ = some (.slice none 0 0):=bcell BK567 0
    have:=bfz BK567 0
    have:=NB565_567.out
    have:=NB566_567.out
    have:=NB567_565.out
    have:=NB567_566.out
    refine skip_ (w1:=?_) (by rfl) rfl ?_ ?_
    rotate_left
    ·go_simp
     rfl
    refine hK.out _ _ ⟨((cell_far (p:=⟨gb567,_,none⟩) NB565_567.out _).trans (hHeld.1)),((cell_far (p:=⟨gb567,_,none⟩) NB566_567.out _).trans (hHeld.2.1)),((cell_far (p:=⟨gb567,_,none⟩) NB566_567.out _).trans (hHeld.2.2))⟩ (fun hHeld=>?_)
    clear hK K
    refine pu_ 7 (some 5) (bm 8 255) ?_
    refine done_ (done_of HT_.out (by kernel_rfl)) ?_
    try go_wp2
    refine bodyPost_ret (results_ct rfl _ _ gb567 29 #[.slice Ao31 t573.length co31] (0,0) _ rfl (by (with_reducible repeat refine bu ?_);refine blk_put (cs:=#[.slice none 0 0]) ?_ 0 _ rfl;(with_reducible repeat refine bu ?_);exact BK567.out) Tryz.underlying29 rfl (by kernel_rfl)) rfl ?_
    exact ⟨_,fi_,by (with_reducible repeat apply ru);exact Kd.R_mono (Kd.R_far (p:=⟨gb567,0,none⟩) (Kd.R_types HO575.out BK567.out (by decide)) (fun _ hk=>hk.2) (.slice Ao31 t573.length co31)) (fun _ hk=>trivial),m2_⟩
def spec_l20In.f (k : Nat) (s0_0 : List Int) (s0_1 : Int) : Option (Int × Int × Int):=(spec_l20Rd_pick.f k s0_0 s0_1 4).bind fun bt578=>((spec_l20Rd_pick.f k s0_0 bt578.2 40).bind fun bt580=>((some (([7,20,300,999,wrap64 (1 + bt580.1)] : List Int) : List Int)).bind fun y582=>((spec_l20Rd_pick.f k s0_0 bt580.2 5).bind fun bt585=>(if 0 ≤ bt585.1 then (if bt585.1 < (y582.length : Int) then (some (wrap64 (1 + bt578.1),rd y582 bt585.1,bt585.2)) else (none)) else (none)))))
theorem spec_l20In.mono : ∀ a0 a1 k,LeO (spec_l20In.f k a0 a1) (spec_l20In.f (k + 1) a0 a1):=by
 intro a0 a1 k
 unfold spec_l20In.f
 repeat' first | (with_reducible first | exact spec_l20Rd_pick.mono _ _ _ _ | exact LeO.refl _ | exact LeO.none _ | refine LeO.ite ?_ ?_ | refine LeO.bind ?_ (fun _=>?_)) | exact spec_l20Rd_pick.mono _ _ _ _ | exact LeO.none _ | refine LeO.ite ?_ ?_ | refine LeO.bind ?_ (fun _=>?_)
set_option maxHeartbeats 8000000 in
set_option maxRecDepth 100000 in
theorem spec_l20In.calls (k : Nat) (g : Nat) (s0_0 : List Int) (s0_1 : Int) (r1 : Int) (r2 : Int) (r3 : Int) (w0 w : World) (hI : IsS102 w0 w g s0_0 s0_1) (hB : Below w0.heap.size w0 w) (h : spec_l20In.f k s0_0 s0_1 = some (r1,r2,r3)) :
  Calls Tryz.prog 93 #[.pointer (some ⟨g,0,none⟩)] w fun e w'=>e = .returned (.agg #[.int .i64 r1,.int .i64 r2]) ∧ IsS102 w0 w' g s0_0 r3 ∧ Below w0.heap.size w0 w' ∧ KeepBut w w' g none:=by
 have hu55:=Tryz.underlying55
 have HI0:=am hI
 have HK:=am (KeepBut.refl w g none)
 have HL:=am hB.size
 clear hI
 have HW0:=am hB.size
 have HB:=am hB
 clear hB
 have H : ((spec_l20Rd_pick.f k s0_0 s0_1 4).bind fun bt578=>((spec_l20Rd_pick.f k s0_0 bt578.2 40).bind fun bt580=>((some (([7,20,300,999,wrap64 (1 + bt580.1)] : List Int) : List Int)).bind fun y582=>((spec_l20Rd_pick.f k s0_0 bt580.2 5).bind fun bt585=>(if 0 ≤ bt585.1 then (if bt585.1 < (y582.length : Int) then (some (wrap64 (1 + bt578.1),rd y582 bt585.1,bt585.2)) else (none)) else (none)))))) = some (r1,r2,r3):=h
 clear h
 obtain ⟨⟨t578,t579⟩,A2,H⟩:=bse H
 try dsimp only at H
 obtain ⟨⟨t580,t581⟩,A3,H⟩:=bse H
 try dsimp only at H
 obtain ⟨y582,hy582⟩ : ∃ y_ : List Int,y_ = (([7,20,300,999,wrap64 (1 + t580)] : List Int)):=⟨_,rfl⟩
 replace H : ((spec_l20Rd_pick.f k s0_0 t581 5).bind fun bt585=>(if 0 ≤ bt585.1 then (if bt585.1 < (y582.length : Int) then (some (wrap64 (1 + t578),rd y582 bt585.1,bt585.2)) else (none)) else (none))) = some (r1,r2,r3):=by first | (rw [hy582];with_reducible exact H) | (have H2_:=(Option.bind_some _ _).symm.trans H;rw [hy582];with_reducible exact H2_) | (have H2_:=(Option.bind_some _ _).symm.trans H;with_reducible exact H2_) | with_reducible exact H | (rw [hy582];exact H) | exact H
 have Ny582:=am hy582
 clear hy582
 obtain ⟨⟨t585,t586⟩,A4,H⟩:=bse H
 try dsimp only at H
 by_cases c5 : 0 ≤ t585
 ·rw [if_pos c5] at H
  have c5b0 : decide (0 ≤ t585) = true:=decide_eq_true c5
  clear c5
  by_cases c6 : t585 < (y582.length : Int)
  ·rw [if_pos c6] at H
   have c6b0 : decide (t585 < (y582.length : Int)) = true:=decide_eq_true c6
   clear c6
   simp only [Option.some.injEq,Prod.mk.injEq] at H
   obtain ⟨rfl,rfl,rfl⟩:=H
   go_enter Tryz.func93,Tryz.ntmps93
   go_wp2_with (first | ((with_reducible refine gD 2 rfl ?_);refine box_event rfl (N:=2) rfl (cs:=#[.int .i64 0,.int .i64 0]) (t:=55) hr_ ?_;intro gb577 hg w7 hbox hb;replace HB:=am (below_step m9_ hb);have BK577:=am hbox;have GW577:=am ((by rw [hg];exact (keep_size (w:=w) (g:=g) (row:=none) m10_) : w.heap.size ≤ gb577));have GE577:=am ((Nat.le_trans HW0.out (by rw [hg];exact (keep_size (w:=w) (g:=g) (row:=none) m10_) : w.heap.size ≤ gb577) : w0.heap.size ≤ gb577));replace HK:=am (KeepBut.trans m10_ (KeepBut.of_below hb g none) (.inl rfl));have NB0_577:=am ((by rw [hg];exact Nat.ne_of_lt (IsS102.lt (show IsS102 w0 _ g s0_0 s0_1 from m8_)) : g ≠ gb577));have NB577_0:=am ((by rw [hg];exact Nat.ne_of_gt (IsS102.lt (show IsS102 w0 _ g s0_0 s0_1 from m8_)) : gb577 ≠ g));replace HI0:=am (IsS102.below m8_ hb);clear hb hbox hg) | ((with_reducible refine gC 58 rfl ?_);refine gL (some 4) Tryz.func58 #[.pointer (some ⟨g,0,none⟩),.int .i64 4] ?_;(with_reducible refine (spec_l20Rd_pick.calls k g s0_0 s0_1 4 t578 t579 w0 _ ?side1 ?side2 A2.out).mono ?_);(case side1=>exact m27_);(case side2=>exact m25_);rintro e w8 ⟨rfl,hi,hb,hk⟩;refine ⟨_,rfl,?_⟩;replace BK577:=am (KeepBut.blk hk (g':=gb577) (o:=.cells #[.int .i64 0,.int .i64 0] 55 (0,0)) (bk BK577) NB577_0.out (by simp));replace HK:=am (KeepBut.trans m26_ hk (.inl rfl));replace HB:=am hb;replace HI0:=am hi;(try clear hb);(try clear hk);(try clear hi)) | ((with_reducible refine gC 58 rfl ?_);refine gL (some 7) Tryz.func58 #[.pointer (some ⟨g,0,none⟩),.int .i64 40] ?_;(with_reducible refine (spec_l20Rd_pick.calls k g s0_0 t579 40 t580 t581 w0 _ ?side1 ?side2 A3.out).mono ?_);(case side1=>exact m27_);(case side2=>exact m25_);rintro e w9 ⟨rfl,hi,hb,hk⟩;refine ⟨_,rfl,?_⟩;replace BK577:=am (KeepBut.blk hk (g':=gb577) (o:=.cells #[.int .i64 0,.int .i64 0] 55 (0,0)) (bk BK577) NB577_0.out (by simp));replace HK:=am (KeepBut.trans m26_ hk (.inl rfl));replace HB:=am hb;replace HI0:=am hi;(try clear hb);(try clear hk);(try clear hi)) | ((with_reducible refine gD 9 rfl ?_);refine Kd.R_lit (Kd.int .i64) _ 3 rfl (N:=9) rfl (xs:=([7,20,300,999,wrap64 (1 + t580)] : List Int)) (inner:=[.int .i64 7,.int .i64 20,.int .i64 300,.int .i64 999,.int .i64 (wrap64 (1 + t580))]) (ok:=fun _=>True) (okp:=fun _=>True) hr_ ?hp (fun _ hk=>hk) trivial (Below.refl _ _) (Nat.le_refl _) (by simp) ?_;(case hp=>exact (Reps.one (show Kd.M (Kd.int .i64) _ _ _ 7 [.int .i64 7] from rfl) (Reps.one (show Kd.M (Kd.int .i64) _ _ _ 20 [.int .i64 20] from rfl) (Reps.one (show Kd.M (Kd.int .i64) _ _ _ 300 [.int .i64 300] from rfl) (Reps.one (show Kd.M (Kd.int .i64) _ _ _ 999 [.int .i64 999] from rfl) (Reps.one (show Kd.M (Kd.int .i64) _ _ _ (wrap64 (1 + t580)) [.int .i64 (wrap64 (1 + t580))] from rfl) (Reps.none _ _)))))));intro v583 w10 ho11 hb hg_ hnew_;clear hg_ hnew_;(first | rw [← Ny582.out] at ho11 | (simp only [Int.reduceToNat] at ho11;rw [← Ny582.out] at ho11));have HO584:=am (Kd.R_lower ho11 (keep_size (w:=w) (g:=g) (row:=none) m26_));replace BK577:=bkB BK577 hb;replace HK:=am (KeepBut.trans m26_ (KeepBut.of_below hb g none) (.inl rfl));replace HB:=am (below_step m25_ hb);replace HI0:=am (IsS102.below m27_ hb);clear hb ho11) | ((with_reducible refine gC 58 rfl ?_);refine gL (some 11) Tryz.func58 #[.pointer (some ⟨g,0,none⟩),.int .i64 5] ?_;(with_reducible refine (spec_l20Rd_pick.calls k g s0_0 t581 5 t585 t586 w0 _ ?side1 ?side2 A4.out).mono ?_);(case side1=>exact m27_);(case side2=>exact m25_);rintro e w12 ⟨rfl,hi,hb,hk⟩;refine ⟨_,rfl,?_⟩;replace BK577:=am (KeepBut.blk hk (g':=gb577) (o:=.cells #[.int .i64 0,.int .i64 0] 55 (0,0)) (bk BK577) NB577_0.out (by simp));replace HO584:=am (Kd.R_mono (Kd.R_keep (IsS102.apart (show IsS102 w0 _ g s0_0 t581 from m27_) (rs HO584) (by decide)) hk (fun _ h=>h.2)) (fun _ h=>h.1));replace HK:=am (KeepBut.trans m26_ hk (.inl rfl));replace HB:=am hb;replace HI0:=am hi;(try clear hb);(try clear hk);(try clear hi);obtain ⟨Ao13,co13,eo13⟩:=Kd.R_slice HO584.out;subst eo13;have p587 : 0 ≤ (t585 : Int):=of_decide_eq_true da_;have q587 : t585 < (y582.length : Int):=of_decide_eq_true da_;obtain ⟨ad587,e587,hx587_0⟩:=Kd.at_int (Kd.R_reads' HO584.out).2.2 t585 p587 q587;cases e587;replace p587:=eq_true p587;replace q587:=eq_true q587;have:=NB577_0.out;have:=NB0_577.out;have:=bcell BK577 0;have:=bcell BK577 1;have:=bfz BK577 0;have:=bfz BK577 1))
   refine bodyPost_ret (results_cell_row rfl _ _ gb577 55 #[.int .i64 (wrap64 (1 + t578)),.int .i64 (rd y582 t585)] (0,0) _ rfl (by (with_reducible repeat refine bu ?_);refine blk_put (cs:=#[.int .i64 (wrap64 (1 + t578)),.int .i64 0]) ?_ 1 _ rfl;(with_reducible repeat refine bu ?_);refine blk_put (cs:=#[.int .i64 0,.int .i64 0]) ?_ 0 _ rfl;(with_reducible repeat refine bu ?_);exact BK577.out) Tryz.underlying55 rfl (by kernel_rfl)) rfl ?_
   exact ⟨fi_,m27_,m25_,m26_⟩
  ·rw [if_neg c6] at H
   exact absurd H (by simp)
 ·rw [if_neg c5] at H
  exact absurd H (by simp)
def spec_l20Rd_odd.f (k : Nat) (s0_0 : List Int) (s0_1 : Int) (a1 : Int) : Option (Bool × Int):=if a1 < 9000 then ((spec_l20Rd_pick.f k s0_0 s0_1 a1).bind fun bt588=>(some ((bt588.1 == (wrap64 (a1 - 1))),bt588.2))) else (some (false,s0_1))
theorem spec_l20Rd_odd.mono : ∀ a0 a1 a2 k,LeO (spec_l20Rd_odd.f k a0 a1 a2) (spec_l20Rd_odd.f (k + 1) a0 a1 a2):=by
 intro a0 a1 a2 k
 unfold spec_l20Rd_odd.f
 repeat' first | (with_reducible first | exact spec_l20Rd_pick.mono _ _ _ _ | exact LeO.refl _ | exact LeO.none _ | refine LeO.ite ?_ ?_ | refine LeO.bind ?_ (fun _=>?_)) | exact spec_l20Rd_pick.mono _ _ _ _ | exact LeO.none _ | refine LeO.ite ?_ ?_ | refine LeO.bind ?_ (fun _=>?_)
set_option maxHeartbeats 8000000 in
set_option maxRecDepth 100000 in
theorem spec_l20Rd_odd.calls (k : Nat) (g : Nat) (s0_0 : List Int) (s0_1 : Int) (a1 : Int) (r1 : Bool) (r2 : Int) (w0 w : World) (hI : IsS102 w0 w g s0_0 s0_1) (hB : Below w0.heap.size w0 w) (h : spec_l20Rd_odd.f k s0_0 s0_1 a1 = some (r1,r2)) :
  Calls Tryz.prog 94 #[.pointer (some ⟨g,0,none⟩),.int .i64 a1] w fun e w'=>e = .returned (.bool r1) ∧ IsS102 w0 w' g s0_0 r2 ∧ Below w0.heap.size w0 w' ∧ KeepBut w w' g none:=by
 have HI0:=am hI
 have HK:=am (KeepBut.refl w g none)
 have HL:=am hB.size
 clear hI
 have HW0:=am hB.size
 have HB:=am hB
 clear hB
 have H : (if a1 < 9000 then ((spec_l20Rd_pick.f k s0_0 s0_1 a1).bind fun bt588=>(some ((bt588.1 == (wrap64 (a1 - 1))),bt588.2))) else (some (false,s0_1))) = some (r1,r2):=h
 clear h
 by_cases c3 : a1 < 9000
 ·rw [if_pos c3] at H
  have c3b0 : decide (a1 < 9000) = true:=decide_eq_true c3
  clear c3
  obtain ⟨⟨t588,t589⟩,A4,H⟩:=bse H
  try dsimp only at H
  simp only [Option.some.injEq,Prod.mk.injEq] at H
  obtain ⟨rfl,rfl⟩:=H
  go_enter Tryz.func94,Tryz.ntmps94
  go_wp2_with (first | (go_at_call 58;(with_reducible refine (spec_l20Rd_pick.calls k g s0_0 s0_1 a1 t588 t589 w0 _ ?side1 ?side2 A4.out).mono ?_);(case side1=>exact m8_);(case side2=>exact m9_);rintro e w5 ⟨rfl,hi,hb,hk⟩;replace HK:=am (KeepBut.trans m10_ hk (.inl rfl));replace HB:=am hb;replace HI0:=am hi;(try clear hb);(try clear hk);(try clear hi)))
  go_ret
  exact ⟨fi_,m8_,m9_,m10_⟩
 ·rw [if_neg c3] at H
  have c3b0 : decide (a1 < 9000) = false:=decide_eq_false c3
  clear c3
  simp only [Option.some.injEq,Prod.mk.injEq] at H
  obtain ⟨rfl,rfl⟩:=H
  go_enter Tryz.func94,Tryz.ntmps94
  go_wp2
  go_ret
  exact ⟨fi_,m8_,m9_,m10_⟩
def spec_l20Out.f (k : Nat) (s0_0 : List Int) (s0_1 : Int) : Option (Int × Int × Int):=(spec_l20Rd_pick.f k s0_0 s0_1 3).bind fun bt591=>((some (([21,21,80,7] : List Int) : List Int)).bind fun y593=>((spec_l20Rd_pick.f k s0_0 bt591.2 4).bind fun bt596=>(if 0 ≤ bt596.1 then (if bt596.1 < (y593.length : Int) then (some (wrap64 (100 + bt591.1),rd y593 bt596.1,bt596.2)) else (none)) else (none))))
theorem spec_l20Out.mono : ∀ a0 a1 k,LeO (spec_l20Out.f k a0 a1) (spec_l20Out.f (k + 1) a0 a1):=by
 intro a0 a1 k
 unfold spec_l20Out.f
 repeat' first | (with_reducible first | exact spec_l20Rd_pick.mono _ _ _ _ | exact LeO.refl _ | exact LeO.none _ | refine LeO.ite ?_ ?_ | refine LeO.bind ?_ (fun _=>?_)) | exact spec_l20Rd_pick.mono _ _ _ _ | exact LeO.none _ | refine LeO.ite ?_ ?_ | refine LeO.bind ?_ (fun _=>?_)
set_option maxHeartbeats 8000000 in
set_option maxRecDepth 100000 in
theorem spec_l20Out.calls (k : Nat) (g : Nat) (s0_0 : List Int) (s0_1 : Int) (r1 : Int) (r2 : Int) (r3 : Int) (w0 w : World) (hI : IsS102 w0 w g s0_0 s0_1) (hB : Below w0.heap.size w0 w) (h : spec_l20Out.f k s0_0 s0_1 = some (r1,r2,r3)) :
  Calls Tryz.prog 95 #[.pointer (some ⟨g,0,none⟩)] w fun e w'=>e = .returned (.agg #[.int .i64 r1,.int .i64 r2]) ∧ IsS102 w0 w' g s0_0 r3 ∧ Below w0.heap.size w0 w' ∧ KeepBut w w' g none:=by
 have hu55:=Tryz.underlying55
 have HI0:=am hI
 have HK:=am (KeepBut.refl w g none)
 have HL:=am hB.size
 clear hI
 have HW0:=am hB.size
 have HB:=am hB
 clear hB
 have H : ((spec_l20Rd_pick.f k s0_0 s0_1 3).bind fun bt591=>((some (([21,21,80,7] : List Int) : List Int)).bind fun y593=>((spec_l20Rd_pick.f k s0_0 bt591.2 4).bind fun bt596=>(if 0 ≤ bt596.1 then (if bt596.1 < (y593.length : Int) then (some (wrap64 (100 + bt591.1),rd y593 bt596.1,bt596.2)) else (none)) else (none))))) = some (r1,r2,r3):=h
 clear h
 obtain ⟨⟨t591,t592⟩,A2,H⟩:=bse H
 try dsimp only at H
 obtain ⟨y593,hy593⟩ : ∃ y_ : List Int,y_ = (([21,21,80,7] : List Int)):=⟨_,rfl⟩
 replace H : ((spec_l20Rd_pick.f k s0_0 t592 4).bind fun bt596=>(if 0 ≤ bt596.1 then (if bt596.1 < (y593.length : Int) then (some (wrap64 (100 + t591),rd y593 bt596.1,bt596.2)) else (none)) else (none))) = some (r1,r2,r3):=by first | (rw [hy593];with_reducible exact H) | (have H2_:=(Option.bind_some _ _).symm.trans H;rw [hy593];with_reducible exact H2_) | (have H2_:=(Option.bind_some _ _).symm.trans H;with_reducible exact H2_) | with_reducible exact H | (rw [hy593];exact H) | exact H
 have Ny593:=am hy593
 clear hy593
 obtain ⟨⟨t596,t597⟩,A3,H⟩:=bse H
 try dsimp only at H
 by_cases c4 : 0 ≤ t596
 ·rw [if_pos c4] at H
  have c4b0 : decide (0 ≤ t596) = true:=decide_eq_true c4
  clear c4
  by_cases c5 : t596 < (y593.length : Int)
  ·rw [if_pos c5] at H
   have c5b0 : decide (t596 < (y593.length : Int)) = true:=decide_eq_true c5
   clear c5
   simp only [Option.some.injEq,Prod.mk.injEq] at H
   obtain ⟨rfl,rfl,rfl⟩:=H
   go_enter Tryz.func95,Tryz.ntmps95
   go_wp2_with (first | ((with_reducible refine gD 2 rfl ?_);refine box_event rfl (N:=2) rfl (cs:=#[.int .i64 0,.int .i64 0]) (t:=55) hr_ ?_;intro gb590 hg w6 hbox hb;replace HB:=am (below_step m9_ hb);have BK590:=am hbox;have GW590:=am ((by rw [hg];exact (keep_size (w:=w) (g:=g) (row:=none) m10_) : w.heap.size ≤ gb590));have GE590:=am ((Nat.le_trans HW0.out (by rw [hg];exact (keep_size (w:=w) (g:=g) (row:=none) m10_) : w.heap.size ≤ gb590) : w0.heap.size ≤ gb590));replace HK:=am (KeepBut.trans m10_ (KeepBut.of_below hb g none) (.inl rfl));have NB0_590:=am ((by rw [hg];exact Nat.ne_of_lt (IsS102.lt (show IsS102 w0 _ g s0_0 s0_1 from m8_)) : g ≠ gb590));have NB590_0:=am ((by rw [hg];exact Nat.ne_of_gt (IsS102.lt (show IsS102 w0 _ g s0_0 s0_1 from m8_)) : gb590 ≠ g));replace HI0:=am (IsS102.below m8_ hb);clear hb hbox hg) | ((with_reducible refine gC 58 rfl ?_);refine gL (some 4) Tryz.func58 #[.pointer (some ⟨g,0,none⟩),.int .i64 3] ?_;(with_reducible refine (spec_l20Rd_pick.calls k g s0_0 s0_1 3 t591 t592 w0 _ ?side1 ?side2 A2.out).mono ?_);(case side1=>exact m27_);(case side2=>exact m25_);rintro e w7 ⟨rfl,hi,hb,hk⟩;refine ⟨_,rfl,?_⟩;replace BK590:=am (KeepBut.blk hk (g':=gb590) (o:=.cells #[.int .i64 0,.int .i64 0] 55 (0,0)) (bk BK590) NB590_0.out (by simp));replace HK:=am (KeepBut.trans m26_ hk (.inl rfl));replace HB:=am hb;replace HI0:=am hi;(try clear hb);(try clear hk);(try clear hi)) | ((with_reducible refine gD 6 rfl ?_);refine Kd.R_lit (Kd.int .i64) _ 3 rfl (N:=6) rfl (xs:=([21,21,80,7] : List Int)) (inner:=[.int .i64 21,.int .i64 21,.int .i64 80,.int .i64 7]) (ok:=fun _=>True) (okp:=fun _=>True) hr_ ?hp (fun _ hk=>hk) trivial (Below.refl _ _) (Nat.le_refl _) (by simp) ?_;(case hp=>exact (Reps.one (show Kd.M (Kd.int .i64) _ _ _ 21 [.int .i64 21] from rfl) (Reps.one (show Kd.M (Kd.int .i64) _ _ _ 21 [.int .i64 21] from rfl) (Reps.one (show Kd.M (Kd.int .i64) _ _ _ 80 [.int .i64 80] from rfl) (Reps.one (show Kd.M (Kd.int .i64) _ _ _ 7 [.int .i64 7] from rfl) (Reps.none _ _))))));intro v594 w8 ho9 hb hg_ hnew_;clear hg_ hnew_;(first | rw [← Ny593.out] at ho9 | (simp only [Int.reduceToNat] at ho9;rw [← Ny593.out] at ho9));have HO595:=am (Kd.R_lower ho9 (keep_size (w:=w) (g:=g) (row:=none) m26_));replace BK590:=bkB BK590 hb;replace HK:=am (KeepBut.trans m26_ (KeepBut.of_below hb g none) (.inl rfl));replace HB:=am (below_step m25_ hb);replace HI0:=am (IsS102.below m27_ hb);clear hb ho9) | ((with_reducible refine gC 58 rfl ?_);refine gL (some 8) Tryz.func58 #[.pointer (some ⟨g,0,none⟩),.int .i64 4] ?_;(with_reducible refine (spec_l20Rd_pick.calls k g s0_0 t592 4 t596 t597 w0 _ ?side1 ?side2 A3.out).mono ?_);(case side1=>exact m27_);(case side2=>exact m25_);rintro e w10 ⟨rfl,hi,hb,hk⟩;refine ⟨_,rfl,?_⟩;replace BK590:=am (KeepBut.blk hk (g':=gb590) (o:=.cells #[.int .i64 0,.int .i64 0] 55 (0,0)) (bk BK590) NB590_0.out (by simp));replace HO595:=am (Kd.R_mono (Kd.R_keep (IsS102.apart (show IsS102 w0 _ g s0_0 t592 from m27_) (rs HO595) (by decide)) hk (fun _ h=>h.2)) (fun _ h=>h.1));replace HK:=am (KeepBut.trans m26_ hk (.inl rfl));replace HB:=am hb;replace HI0:=am hi;(try clear hb);(try clear hk);(try clear hi);obtain ⟨Ao11,co11,eo11⟩:=Kd.R_slice HO595.out;subst eo11;have p598 : 0 ≤ (t596 : Int):=of_decide_eq_true da_;have q598 : t596 < (y593.length : Int):=of_decide_eq_true da_;obtain ⟨ad598,e598,hx598_0⟩:=Kd.at_int (Kd.R_reads' HO595.out).2.2 t596 p598 q598;cases e598;replace p598:=eq_true p598;replace q598:=eq_true q598;have:=NB590_0.out;have:=NB0_590.out;have:=bcell BK590 0;have:=bcell BK590 1;have:=bfz BK590 0;have:=bfz BK590 1))
   refine bodyPost_ret (results_cell_row rfl _ _ gb590 55 #[.int .i64 (wrap64 (100 + t591)),.int .i64 (rd y593 t596)] (0,0) _ rfl (by (with_reducible repeat refine bu ?_);refine blk_put (cs:=#[.int .i64 (wrap64 (100 + t591)),.int .i64 0]) ?_ 1 _ rfl;(with_reducible repeat refine bu ?_);refine blk_put (cs:=#[.int .i64 0,.int .i64 0]) ?_ 0 _ rfl;(with_reducible repeat refine bu ?_);exact BK590.out) Tryz.underlying55 rfl (by kernel_rfl)) rfl ?_
   exact ⟨fi_,m27_,m25_,m26_⟩
  ·rw [if_neg c5] at H
   exact absurd H (by simp)
 ·rw [if_neg c4] at H
  exact absurd H (by simp)
mutual
def spec_l20Table.l0 : Nat → Int → Int → List Int → Int → List (S55) → Option ((List (S55)) × Int)
 | 0,_,_,_,_,_=>none
 | k + 1,x1,x6,x1000,x1001,x601000=>if x6 > 0 then ((spec_l20In.f k x1000 x1001).bind fun bt603=>((spec_MapPut.f k x601000 bt603.1 bt603.2.1).bind fun bt606=>(spec_l20Table.l0 k x1 (wrap64 (x6 - 1)) x1000 bt603.2.2 bt606.1))) else ((spec_l20Rd_odd.f k x1000 x1001 x1).bind fun bt611=>(if bt611.1 = true then ((spec_l20Rd_pick.f k x1000 bt611.2 3).bind fun bt613=>(if bt613.1 = 0 then ((spec_l20Out.f k x1000 bt613.2).bind fun bt615=>(if x601000.length < 8796093022208 then (some ((x601000 ++ [(⟨bt615.1,bt615.2.1⟩ : S55)]),bt615.2.2)) else (none))) else (if bt613.1 = 1 then (if x601000.length < 8796093022208 then ((some (x601000 ++ [(⟨9,9⟩ : S55)] : List (S55))).bind fun y621=>(if y621.length < 8796093022208 then (some ((y621 ++ [(⟨9,9⟩ : S55)]),bt613.2)) else (none))) else (none)) else (spec_l20Table.l1 k x1000 bt613.2 x601000)))) else (some (x601000,bt611.2))))
def spec_l20Table.l1 : Nat → List Int → Int → List (S55) → Option ((List (S55)) × Int)
 | 0,_,_,_=>none
 | k + 1,x1000,x1001,x601000=>if (x601000.length : Int) ≤ 6 then (if x601000.length < 8796093022208 then (spec_l20Table.l1 k x1000 x1001 (x601000 ++ [(⟨8,wrap64 (1 + (x601000.length : Int))⟩ : S55)])) else (none)) else (some (x601000,x1001))
end
def spec_l20Table.f (k : Nat) (s0_0 : List Int) (s0_1 : Int) (a1 : Int) : Option ((List (S55)) × Int):=(spec_l20Rd_pick.f k s0_0 s0_1 8).bind fun bt601=>(spec_l20Table.l0 k a1 bt601.1 s0_0 bt601.2 ([] : List (S55)))
theorem spec_l20Table.mono_l : ∀ k,(∀ y0 y1 y2 y3 y4,LeO (spec_l20Table.l0 k y0 y1 y2 y3 y4) (spec_l20Table.l0 (k + 1) y0 y1 y2 y3 y4)) ∧ (∀ y0 y1 y2,LeO (spec_l20Table.l1 k y0 y1 y2) (spec_l20Table.l1 (k + 1) y0 y1 y2))
 | 0=>⟨fun _ _ _ _ _ r h=>by simp [spec_l20Table.l0] at h,fun _ _ _ r h=>by simp [spec_l20Table.l1] at h⟩
 | k + 1=>by
  obtain ⟨ih0,ih1⟩:=spec_l20Table.mono_l k
  refine ⟨?_,?_⟩
  ·intro y0 y1 y2 y3 y4
   unfold spec_l20Table.l0
   repeat' first | (with_reducible first | exact ih0 _ _ _ _ _ | exact ih1 _ _ _ | exact spec_MapPut.mono _ _ _ _ | exact spec_l20In.mono _ _ _ | exact spec_l20Out.mono _ _ _ | exact spec_l20Rd_odd.mono _ _ _ _ | exact spec_l20Rd_pick.mono _ _ _ _ | exact LeO.refl _ | exact LeO.none _ | refine LeO.ite ?_ ?_ | refine LeO.bind ?_ (fun _=>?_)) | exact ih0 _ _ _ _ _ | exact ih1 _ _ _ | exact spec_MapPut.mono _ _ _ _ | exact spec_l20In.mono _ _ _ | exact spec_l20Out.mono _ _ _ | exact spec_l20Rd_odd.mono _ _ _ _ | exact spec_l20Rd_pick.mono _ _ _ _ | exact LeO.none _ | refine LeO.ite ?_ ?_ | refine LeO.bind ?_ (fun _=>?_)
  ·intro y0 y1 y2
   unfold spec_l20Table.l1
   repeat' first | (with_reducible first | exact ih0 _ _ _ _ _ | exact ih1 _ _ _ | exact spec_MapPut.mono _ _ _ _ | exact spec_l20In.mono _ _ _ | exact spec_l20Out.mono _ _ _ | exact spec_l20Rd_odd.mono _ _ _ _ | exact spec_l20Rd_pick.mono _ _ _ _ | exact LeO.refl _ | exact LeO.none _ | refine LeO.ite ?_ ?_ | refine LeO.bind ?_ (fun _=>?_)) | exact ih0 _ _ _ _ _ | exact ih1 _ _ _ | exact spec_MapPut.mono _ _ _ _ | exact spec_l20In.mono _ _ _ | exact spec_l20Out.mono _ _ _ | exact spec_l20Rd_odd.mono _ _ _ _ | exact spec_l20Rd_pick.mono _ _ _ _ | exact LeO.none _ | refine LeO.ite ?_ ?_ | refine LeO.bind ?_ (fun _=>?_)
theorem spec_l20Table.mono : ∀ a0 a1 a2 k,LeO (spec_l20Table.f k a0 a1 a2) (spec_l20Table.f (k + 1) a0 a1 a2):=by
 intro a0 a1 a2 k
 obtain ⟨ih0,ih1⟩:=spec_l20Table.mono_l k
 unfold spec_l20Table.f
 repeat' first | (with_reducible first | exact ih0 _ _ _ _ _ | exact ih1 _ _ _ | exact spec_MapPut.mono _ _ _ _ | exact spec_l20In.mono _ _ _ | exact spec_l20Out.mono _ _ _ | exact spec_l20Rd_odd.mono _ _ _ _ | exact spec_l20Rd_pick.mono _ _ _ _ | exact LeO.refl _ | exact LeO.none _ | refine LeO.ite ?_ ?_ | refine LeO.bind ?_ (fun _=>?_)) | exact ih0 _ _ _ _ _ | exact ih1 _ _ _ | exact spec_MapPut.mono _ _ _ _ | exact spec_l20In.mono _ _ _ | exact spec_l20Out.mono _ _ _ | exact spec_l20Rd_odd.mono _ _ _ _ | exact spec_l20Rd_pick.mono _ _ _ _ | exact LeO.none _ | refine LeO.ite ?_ ?_ | refine LeO.bind ?_ (fun _=>?_)
def spec_l20Table.T5 : Bool × List (List Nat × List Nat):=(true,[([],[]),([],[]),([1],[1]),([0,2,2],[0,2]),([3],[3]),([4],[4]),([4],[4]),([],[]),([7,5,3,0,1,2,3,4,5,7],[5,7]),([6,8,0,1,2,3,4,5,6,7,8],[6])])
def spec_l20Table.B5 : List Nat:=[0,0,2,7,15,31,31,0,191,511]
theorem spec_l20Table.tab5 : rtab .any (opsOf Tryz.f69 5) = spec_l20Table.T5:=by kernel_rfl
theorem spec_l20Table.bits5 : waitsOk spec_l20Table.T5.2 spec_l20Table.B5 = true:=by kernel_rfl
def spec_l20Table.T12 : Bool × List (List Nat × List Nat):=(true,[([],[]),([0],[0]),([],[]),([2],[2]),([3],[3]),([1,4,3],[1,4]),([0,1,2,3,4,5],[]),([6,5,5,0,1,2,3,4,5],[5,6])])
def spec_l20Table.B12 : List Nat:=[0,1,0,4,12,31,63,127]
theorem spec_l20Table.tab12 : rtab .any (opsOf Tryz.f69 12) = spec_l20Table.T12:=by kernel_rfl
theorem spec_l20Table.bits12 : waitsOk spec_l20Table.T12.2 spec_l20Table.B12 = true:=by kernel_rfl
set_option maxHeartbeats 8000000 in
set_option maxRecDepth 100000 in
theorem spec_l20Table.calls (k : Nat) (g : Nat) (s0_0 : List Int) (s0_1 : Int) (a1 : Int) (r1 : List (S55)) (r2 : Int) (w0 w : World) (hI : IsS102 w0 w g s0_0 s0_1) (hB : Below w0.heap.size w0 w) (h : spec_l20Table.f k s0_0 s0_1 a1 = some (r1,r2)) :
  Calls Tryz.prog 69 #[.pointer (some ⟨g,0,none⟩),.int .i64 a1] w fun e w'=>∃ v0_ : Value,e = .returned (.agg #[v0_]) ∧ Kd.R k55 55 w' w.heap.size (fun _=>True) v0_ r1 ∧ IsS102 w0 w' g s0_0 r2 ∧ Below w0.heap.size w0 w' ∧ KeepBut w w' g none:=by
 have hu29:=Tryz.underlying29
 have hu55:=Tryz.underlying55
 have HI0:=am hI
 have HK:=am (KeepBut.refl w g none)
 have HL:=am hB.size
 clear hI
 have HW0:=am hB.size
 have HB:=am hB
 clear hB
 have H : ((spec_l20Rd_pick.f k s0_0 s0_1 8).bind fun bt601=>(spec_l20Table.l0 k a1 bt601.1 s0_0 bt601.2 ([] : List (S55)))) = some (r1,r2):=h
 clear h
 obtain ⟨⟨t601,t602⟩,A3,H⟩:=bse H
 try dsimp only at H
 have H':=am H
 clear H
 go_enter Tryz.func69,Tryz.ntmps69
 go_wp2_with (first | ((with_reducible refine gD 4 rfl ?_);refine box_event rfl (N:=4) rfl (cs:=#[.slice none 0 0]) (t:=29) hr_ ?_;intro gb599 hg w4 hbox hb;replace HB:=am (below_step m9_ hb);have BK599:=am hbox;have GW599:=am ((by rw [hg];exact (keep_size (w:=w) (g:=g) (row:=none) m10_) : w.heap.size ≤ gb599));have GE599:=am ((Nat.le_trans HW0.out (by rw [hg];exact (keep_size (w:=w) (g:=g) (row:=none) m10_) : w.heap.size ≤ gb599) : w0.heap.size ≤ gb599));replace HK:=am (KeepBut.trans m10_ (KeepBut.of_below hb g none) (.inl rfl));have NB0_599:=am ((by rw [hg];exact Nat.ne_of_lt (IsS102.lt (show IsS102 w0 _ g s0_0 s0_1 from m8_)) : g ≠ gb599));have NB599_0:=am ((by rw [hg];exact Nat.ne_of_gt (IsS102.lt (show IsS102 w0 _ g s0_0 s0_1 from m8_)) : gb599 ≠ g));replace HI0:=am (IsS102.below m8_ hb);clear hb hbox hg) | ((with_reducible refine gD 5 rfl ?_);refine box_event rfl (N:=5) rfl (cs:=#[.slice none 0 0]) (t:=29) hr_ ?_;intro gb600 hg w5 hbox hb;replace HB:=am (below_step m25_ hb);have BK600:=am hbox;have GW600:=am ((by rw [hg];exact (keep_size (w:=w) (g:=g) (row:=none) m26_) : w.heap.size ≤ gb600));have GE600:=am ((Nat.le_trans HW0.out (by rw [hg];exact (keep_size (w:=w) (g:=g) (row:=none) m26_) : w.heap.size ≤ gb600) : w0.heap.size ≤ gb600));replace HK:=am (KeepBut.trans m26_ (KeepBut.of_below hb g none) (.inl rfl));have NB599_600:=neL BK599 hg;have NB600_599:=neG BK599 hg;replace BK599:=bkB BK599 hb;have NB0_600:=am ((by rw [hg];exact Nat.ne_of_lt (IsS102.lt (show IsS102 w0 _ g s0_0 s0_1 from m27_)) : g ≠ gb600));have NB600_0:=am ((by rw [hg];exact Nat.ne_of_gt (IsS102.lt (show IsS102 w0 _ g s0_0 s0_1 from m27_)) : gb600 ≠ g));replace HI0:=am (IsS102.below m27_ hb);clear hb hbox hg;have:=NB600_599.out;have:=NB599_600.out;have:=NB600_0.out;have:=NB0_600.out;have hcz8_0:=bcell BK600 0;have hfz8_0:=blk_frozen BK600.out 0) | ((with_reducible refine gC 58 rfl ?_);refine gL (some 11) Tryz.func58 #[.pointer (some ⟨g,0,none⟩),.int .i64 8] ?_;(with_reducible refine (spec_l20Rd_pick.calls k g s0_0 s0_1 8 t601 t602 w0 _ ?side1 ?side2 A3.out).mono ?_);(case side1=>exact m27_);(case side2=>exact m25_);rintro e w9 ⟨rfl,hi,hb,hk⟩;refine ⟨_,rfl,?_⟩;replace BK599:=am (KeepBut.blk hk (g':=gb599) (o:=.cells #[.slice none 0 0] 29 (0,0)) (by (with_reducible repeat refine bu ?_);refine blk_far ?_ NB599_600.out _;(with_reducible repeat refine bu ?_);exact BK599.out) NB599_0.out (by simp));replace BK600:=am (KeepBut.blk hk (g':=gb600) (o:=.cells #[.slice none 0 0] 29 (0,0)) (by (with_reducible repeat refine bu ?_);refine blk_put (cs:=#[.slice none 0 0]) ?_ 0 _ rfl;(with_reducible repeat refine bu ?_);exact BK600.out) NB600_0.out (by simp));replace HK:=am (KeepBut.trans m26_ hk (.inl rfl));replace HB:=am hb;replace HI0:=am hi;(try clear hb);(try clear hk);(try clear hi)))
 go_loopg [6] k (fun kq v6 w'=>∃ (x6_1 : Int) (x1001_1 : Int) (x601000_1 : List (S55)) (u601000 : Value),v6 = .int .i64 x6_1 ∧ Aside0 (spec_l20Table.l0 kq a1 x6_1 s0_0 x1001_1 x601000_1 = some (r1,r2)) ∧ Aside0 (kq ≤ k) ∧ Aside0 (Kd.R k55 55 w' w.heap.size (fun _=>True) u601000 x601000_1) ∧ Aside0 (w'.heap[gb599]? = some (.cells #[(.slice none 0 0)] 29 (0,0))) ∧ Aside0 (w'.heap[gb600]? = some (.cells #[u601000] 29 (0,0))) ∧ Aside0 (IsS102 w0 w' g s0_0 x1001_1) ∧ Aside0 (KeepBut w w' g none) ∧ Aside0 (Below w0.heap.size w0 w'))
 case atStart=>exact ⟨(t601),(t602),(([] : List (S55))),(.slice none 0 0),rs_,H',⟨Nat.le_refl _⟩,⟨by first | exact Kd.R_nil _ _ _ _ _ | exact Kd.N_nil _ _ _ _ _ | exact Kd.V_nil _ _ _ _ _ | exact Kd.Q_nil _ _ _ _ _ | exact Kd.S_nil _ _ _ _ _⟩,⟨bk BK599⟩,⟨bk BK600⟩,⟨m27_⟩,⟨m26_⟩,⟨m25_⟩⟩
 case round=>
  clear H'
  try clear p2
  try clear c5
  try clear c6
  try clear c7
  try clear hcz8_0
  try clear hfz8_0
  obtain ⟨x6_1,x1001_1,x601000_1,u601000,rfl,HA,HK1,HO_601000,BK599,BK600,HI0,HK,HB⟩:=hrel
  cases gk with
  | zero=>exact absurd HA.out (by simp [spec_l20Table.l0])
  | succ k1=>
   have H:=HA.out
   clear HA
   simp only [spec_l20Table.l0] at H
   by_cases c10 : x6_1 > 0
   ·rw [if_pos c10] at H
    have c10b0 : decide (0 < x6_1) = true:=decide_eq_true c10
    clear c10
    obtain ⟨⟨t603,t604,t605⟩,A11,H⟩:=bse H
    try dsimp only at H
    obtain ⟨⟨t606,t609⟩,A12,H⟩:=bse H
    try dsimp only at H
    have H':=am H
    clear H
    obtain ⟨Ao13,co13,eo13⟩:=Kd.R_slice HO_601000.out
    subst eo13
    try go_wp2
    replace HO_601000:=am (Kd.R_drew HO_601000.out)
    replace BK599:=am (blk_drew BK599.out)
    replace BK600:=am (blk_drew BK600.out)
    replace HI0:=am (IsS102.drew HI0.out)
    replace HK:=am (keep_drew HK.out)
    replace HB:=am (below_drew1 HB.out)
    refine start_ (n:=10) (S:=fun w'=>w'.cell? ⟨gb600,0,none⟩ = some (.slice Ao13 x601000_1.length co13)) (ds:=[]) #[false,false,false,false,false,false,false,false,false,false] (by kernel_rfl) rfl rfl (bcell BK600 0) (fun hHeld=>?_);refine with_tabW spec_l20Table.tab5 spec_l20Table.bits5 (fun HT_ HW_=>?_)
    generalize wr.drew = w14 at HO_601000 BK599 BK600 HI0 HK HB hHeld ⊢
    refine pu_ 1 (some 18) (bm 10 2) ?_
    refine take_ (i:=0) (N:=some 17) (v:=?_) (a':=?_) #[true,true,false,false,false,false,false,false,false,false] rfl rfl (take_ofW HT_.out HW_.out (by kernel_rfl)) (fun _ _ _ h=>h) (Or.inl ⟨by rfl,?_⟩) hHeld ?_ ?_
    rotate_left
    ·intro w' s0
     go_simp
     with_reducible rfl
    rotate_left
    ·simp only [Act.put,List.setIfInBounds_toArray,List.set_cons_zero,List.set_cons_succ,i64_w,i32_w]
     rfl
    refine join_ (σ:=Value × Nat) 2 #[true,true,true,true,true,true,true,true,false,false] (fun s_=>[(19,.agg #[.int .i64 t603,.int .i64 t604]),(20,.tuple #[.agg #[s_.1],.int .i64 t609]),(7,.pointer (some ⟨s_.2,0,none⟩)),(16,.tuple #[.agg #[s_.1],.int .i64 t609]),(21,.agg #[s_.1]),(22,.int .i64 t609)]) (fun s_ w'=>(w'.cell? ⟨gb600,0,none⟩ = some (.slice Ao13 x601000_1.length co13)) ∧ (Kd.R k55 55 w' w.heap.size (fun k_=>some k_ ≠ (.slice Ao13 x601000_1.length co13 : Value).ownBlock) s_.1 t606) ∧ (Kd.R k55 55 w' w.heap.size (fun k_=>some k_ ≠ (s_.1 : Value).ownBlock) (.slice Ao13 x601000_1.length co13) x601000_1) ∧ (w'.heap[gb599]? = some (.cells #[.slice none 0 0] 29 (0,0))) ∧ (w'.heap[gb600]? = some (.cells #[.slice Ao13 x601000_1.length co13] 29 (0,0))) ∧ (w'.heap[s_.2]? = some (.cells #[.slice none 0 0] 29 (0,0))) ∧ (w.heap.size ≤ s_.2) ∧ (w0.heap.size ≤ s_.2) ∧ (g ≠ s_.2) ∧ (s_.2 ≠ g) ∧ (gb599 ≠ s_.2) ∧ (s_.2 ≠ gb599) ∧ (gb600 ≠ s_.2) ∧ (s_.2 ≠ gb600) ∧ (IsS102 w0 w' g s0_0 t605) ∧ (KeepBut w w' g none) ∧ (Below w0.heap.size w0 w')) ?_ ?_
    rotate_left
    ·intro hCont
     refine two_ (i:=2) (j:=7) (Ni:=some 19) (Nj:=some 7) #[true,true,true,false,false,false,false,false,false,false] #[true,true,false,false,false,false,false,true,false,false] rfl rfl rfl rfl (two_of HT_.out (by kernel_rfl)) (by decide) (by decide) (fun K hK=>?_) (fun K hK=>?_)
     ·skip
      refine gR Tryz.func93 #[.pointer (some ⟨g,0,none⟩)] ?_
      with_reducible refine (spec_l20In.calls k1 g s0_0 x1001_1 t603 t604 t605 w0 _ ?side1 ?side2 A11.out).mono ?_
      (case side1=>exact m27_)
      (case side2=>exact m25_)
      rintro e w15 ⟨rfl,hi,hb,hk⟩
      refine ⟨_,rfl,?_⟩
      replace HO_601000:=am (Kd.R_mono (Kd.R_keep (IsS102.apart (show IsS102 w0 _ g s0_0 x1001_1 from m27_) (rs HO_601000) (by decide)) hk (fun _ h=>h.2)) (fun _ h=>h.1))
      replace BK599:=am (KeepBut.blk hk (g':=gb599) (o:=.cells #[.slice none 0 0] 29 (0,0)) (bk BK599) NB599_0.out (by simp))
      replace BK600:=am (KeepBut.blk hk (g':=gb600) (o:=.cells #[.slice Ao13 x601000_1.length co13] 29 (0,0)) (bk BK600) NB600_0.out (by simp))
      replace HK:=am (KeepBut.trans m26_ hk (.inl rfl))
      replace HB:=am hb
      replace HI0:=am hi
      (try clear hb)
      (try clear hb2)
      (try clear hk)
      (try clear hi)
      refine hK.out _ _ (bcell BK600 0) (fun hHeld=>?_)
      clear hK K
      refine nm_ ?_
      refine two_ (i:=3) (j:=7) (Ni:=some 20) (Nj:=some 7) #[true,true,true,true,false,false,false,false,false,false] #[true,true,true,false,false,false,false,true,false,false] rfl rfl rfl rfl (two_of HT_.out (by kernel_rfl)) (by decide) (by decide) (fun K hK=>?_) (fun K hK=>?_)
      ·skip
       refine gR Tryz.func92 #[.agg #[.slice Ao13 x601000_1.length co13],.agg #[.int .i64 t603,.int .i64 t604]] ?_
       with_reducible refine (spec_MapPut.calls k1 _ _ x601000_1 t603 t604 t606 t609 _ ?side1 ?side2 A12.out).mono ?_
       (case side1=>exact rcx HO_601000)
       (case side2=>exact (Kd.R_reads' HO_601000.out).2.1)
       rintro e w16 ⟨v607,rfl,ho0,hb⟩
       refine ⟨_,rfl,?_⟩
       have HO608:=am (Kd.R_lower (Kd.R_new' ho0 (Kd.R_lt (rs HO_601000))) (keep_size (w:=w) (g:=g) (row:=none) m26_))
       replace HO_601000:=am (Kd.R_elder' (rs HO_601000) (Kd.R_base ho0) hb)
       replace BK599:=bkB BK599 hb
       replace BK600:=bkB BK600 hb
       replace HK:=am (KeepBut.trans m26_ (KeepBut.of_below hb g none) (.inl rfl))
       replace HB:=am (below_step m25_ hb)
       replace HI0:=am (IsS102.below m27_ hb)
       (try clear hb)
       (try clear hb2)
       (try clear hk)
       (try clear hi)
       (try clear ho0)
       refine hK.out _ _ (bcell BK600 0) (fun hHeld=>?_)
       clear hK K
       refine nm_ ?_
       refine pu_ 4 (some 16) (bm 10 31) ?_
       refine pu_ 5 (some 21) (bm 10 63) ?_
       refine pu_ 6 (some 22) (bm 10 127) ?_
       refine on_ 7 (some 7) (bm 10 255) (fun K hK=>?_)
       refine box_step rfl (N:=7) rfl (cs:=#[.slice none 0 0]) (t:=29) hr_ ?_
       intro gb610 hg w17 hbox hb
       replace HO_601000:=am (Kd.R_below (rs HO_601000) hb)
       replace HO608:=am (Kd.R_below (rs HO608) hb)
       replace HB:=am (below_step m25_ hb)
       have BK610:=am hbox
       have GW610:=am ((by rw [hg];exact (keep_size (w:=w) (g:=g) (row:=none) m26_) : w.heap.size ≤ gb610))
       have GE610:=am ((Nat.le_trans HW0.out (by rw [hg];exact (keep_size (w:=w) (g:=g) (row:=none) m26_) : w.heap.size ≤ gb610) : w0.heap.size ≤ gb610))
       replace HK:=am (KeepBut.trans m26_ (KeepBut.of_below hb g none) (.inl rfl))
       have NB599_610:=neL BK599 hg
       have NB610_599:=neG BK599 hg
       replace BK599:=bkB BK599 hb
       have NB600_610:=neL BK600 hg
       have NB610_600:=neG BK600 hg
       replace BK600:=bkB BK600 hb
       have NB0_610:=am ((by rw [hg];exact Nat.ne_of_lt (IsS102.lt (show IsS102 w0 _ g s0_0 t605 from m27_)) : g ≠ gb610))
       have NB610_0:=am ((by rw [hg];exact Nat.ne_of_gt (IsS102.lt (show IsS102 w0 _ g s0_0 t605 from m27_)) : gb610 ≠ g))
       replace HI0:=am (IsS102.below m27_ hb)
       clear hb hbox hg
       refine hK.out _ _ (bcell BK600 0) (fun hHeld=>?_)
       clear hK K
       refine nm_ ?_
       exact norm_ (by simp only [putAll,Act.put,List.setIfInBounds_toArray,List.set_cons_zero,List.set_cons_succ]) (hCont (v607,gb610) _ ⟨hHeld,(by (with_reducible repeat apply ru);exact Kd.R_mono HO608.out (fun _ hk=>hk.2)),(by (with_reducible repeat apply ru);exact Kd.R_mono HO_601000.out (fun _ hk=>hk.2)),(bk BK599),(bk BK600),(bk BK610),GW610.out,GE610.out,NB0_610.out,NB610_0.out,NB599_610.out,NB610_599.out,NB600_610.out,NB610_600.out,m27_,m26_,m25_⟩)
      ·skip
       refine box_step rfl (N:=7) rfl (cs:=#[.slice none 0 0]) (t:=29) hr_ ?_
       intro gb610 hg w16 hbox hb
       replace HO_601000:=am (Kd.R_below (rs HO_601000) hb)
       replace HB:=am (below_step m25_ hb)
       have BK610:=am hbox
       have GW610:=am ((by rw [hg];exact (keep_size (w:=w) (g:=g) (row:=none) m26_) : w.heap.size ≤ gb610))
       have GE610:=am ((Nat.le_trans HW0.out (by rw [hg];exact (keep_size (w:=w) (g:=g) (row:=none) m26_) : w.heap.size ≤ gb610) : w0.heap.size ≤ gb610))
       replace HK:=am (KeepBut.trans m26_ (KeepBut.of_below hb g none) (.inl rfl))
       have NB599_610:=neL BK599 hg
       have NB610_599:=neG BK599 hg
       replace BK599:=bkB BK599 hb
       have NB600_610:=neL BK600 hg
       have NB610_600:=neG BK600 hg
       replace BK600:=bkB BK600 hb
       have NB0_610:=am ((by rw [hg];exact Nat.ne_of_lt (IsS102.lt (show IsS102 w0 _ g s0_0 t605 from m27_)) : g ≠ gb610))
       have NB610_0:=am ((by rw [hg];exact Nat.ne_of_gt (IsS102.lt (show IsS102 w0 _ g s0_0 t605 from m27_)) : gb610 ≠ g))
       replace HI0:=am (IsS102.below m27_ hb)
       clear hb hbox hg
       refine hK.out _ _ (bcell BK600 0) (fun hHeld=>?_)
       clear hK K
       refine nm_ ?_
       refine on_ 3 (some 20) (bm 10 143) (fun K hK=>?_)
       refine gR Tryz.func92 #[.agg #[.slice Ao13 x601000_1.length co13],.agg #[.int .i64 t603,.int .i64 t604]] ?_
       with_reducible refine (spec_MapPut.calls k1 _ _ x601000_1 t603 t604 t606 t609 _ ?side1 ?side2 A12.out).mono ?_
       (case side1=>exact rcx HO_601000)
       (case side2=>exact (Kd.R_reads' HO_601000.out).2.1)
       rintro e w17 ⟨v607,rfl,ho0,hb⟩
       refine ⟨_,rfl,?_⟩
       have HO608:=am (Kd.R_lower (Kd.R_new' ho0 (Kd.R_lt (rs HO_601000))) (keep_size (w:=w) (g:=g) (row:=none) m26_))
       replace HO_601000:=am (Kd.R_elder' (rs HO_601000) (Kd.R_base ho0) hb)
       replace BK599:=bkB BK599 hb
       replace BK600:=bkB BK600 hb
       replace BK610:=bkB BK610 hb
       replace HK:=am (KeepBut.trans m26_ (KeepBut.of_below hb g none) (.inl rfl))
       replace HB:=am (below_step m25_ hb)
       replace HI0:=am (IsS102.below m27_ hb)
       (try clear hb)
       (try clear hb2)
       (try clear hk)
       (try clear hi)
       (try clear ho0)
       refine hK.out _ _ (bcell BK600 0) (fun hHeld=>?_)
       clear hK K
       refine nm_ ?_
       refine pu_ 4 (some 16) (bm 10 159) ?_
       refine pu_ 5 (some 21) (bm 10 191) ?_
       refine pu_ 6 (some 22) (bm 10 255) ?_
       exact norm_ (by simp only [putAll,Act.put,List.setIfInBounds_toArray,List.set_cons_zero,List.set_cons_succ]) (hCont (v607,gb610) _ ⟨hHeld,(by (with_reducible repeat apply ru);exact Kd.R_mono HO608.out (fun _ hk=>hk.2)),(by (with_reducible repeat apply ru);exact Kd.R_mono HO_601000.out (fun _ hk=>hk.2)),(bk BK599),(bk BK600),(bk BK610),GW610.out,GE610.out,NB0_610.out,NB610_0.out,NB599_610.out,NB610_599.out,NB600_610.out,NB610_600.out,m27_,m26_,m25_⟩)
     ·skip
      refine box_step rfl (N:=7) rfl (cs:=#[.slice none 0 0]) (t:=29) hr_ ?_
      intro gb610 hg w15 hbox hb
      replace HO_601000:=am (Kd.R_below (rs HO_601000) hb)
      replace HB:=am (below_step m25_ hb)
      have BK610:=am hbox
      have GW610:=am ((by rw [hg];exact (keep_size (w:=w) (g:=g) (row:=none) m26_) : w.heap.size ≤ gb610))
      have GE610:=am ((Nat.le_trans HW0.out (by rw [hg];exact (keep_size (w:=w) (g:=g) (row:=none) m26_) : w.heap.size ≤ gb610) : w0.heap.size ≤ gb610))
      replace HK:=am (KeepBut.trans m26_ (KeepBut.of_below hb g none) (.inl rfl))
      have NB599_610:=neL BK599 hg
      have NB610_599:=neG BK599 hg
      replace BK599:=bkB BK599 hb
      have NB600_610:=neL BK600 hg
      have NB610_600:=neG BK600 hg
      replace BK600:=bkB BK600 hb
      have NB0_610:=am ((by rw [hg];exact Nat.ne_of_lt (IsS102.lt (show IsS102 w0 _ g s0_0 x1001_1 from m27_)) : g ≠ gb610))
      have NB610_0:=am ((by rw [hg];exact Nat.ne_of_gt (IsS102.lt (show IsS102 w0 _ g s0_0 x1001_1 from m27_)) : gb610 ≠ g))
      replace HI0:=am (IsS102.below m27_ hb)
      clear hb hbox hg
      refine hK.out _ _ (bcell BK600 0) (fun hHeld=>?_)
      clear hK K
      refine nm_ ?_
      refine on_ 2 (some 19) (bm 10 135) (fun K hK=>?_)
      refine gR Tryz.func93 #[.pointer (some ⟨g,0,none⟩)] ?_
      with_reducible refine (spec_l20In.calls k1 g s0_0 x1001_1 t603 t604 t605 w0 _ ?side1 ?side2 A11.out).mono ?_
      (case side1=>exact m27_)
      (case side2=>exact m25_)
      rintro e w16 ⟨rfl,hi,hb,hk⟩
      refine ⟨_,rfl,?_⟩
      replace HO_601000:=am (Kd.R_mono (Kd.R_keep (IsS102.apart (show IsS102 w0 _ g s0_0 x1001_1 from m27_) (rs HO_601000) (by decide)) hk (fun _ h=>h.2)) (fun _ h=>h.1))
      replace BK599:=am (KeepBut.blk hk (g':=gb599) (o:=.cells #[.slice none 0 0] 29 (0,0)) (bk BK599) NB599_0.out (by simp))
      replace BK600:=am (KeepBut.blk hk (g':=gb600) (o:=.cells #[.slice Ao13 x601000_1.length co13] 29 (0,0)) (bk BK600) NB600_0.out (by simp))
      replace BK610:=am (KeepBut.blk hk (g':=gb610) (o:=.cells #[.slice none 0 0] 29 (0,0)) (bk BK610) NB610_0.out (by simp))
      replace HK:=am (KeepBut.trans m26_ hk (.inl rfl))
      replace HB:=am hb
      replace HI0:=am hi
      (try clear hb)
      (try clear hb2)
      (try clear hk)
      (try clear hi)
      refine hK.out _ _ (bcell BK600 0) (fun hHeld=>?_)
      clear hK K
      refine nm_ ?_
      refine on_ 3 (some 20) (bm 10 143) (fun K hK=>?_)
      refine gR Tryz.func92 #[.agg #[.slice Ao13 x601000_1.length co13],.agg #[.int .i64 t603,.int .i64 t604]] ?_
      with_reducible refine (spec_MapPut.calls k1 _ _ x601000_1 t603 t604 t606 t609 _ ?side1 ?side2 A12.out).mono ?_
      (case side1=>exact rcx HO_601000)
      (case side2=>exact (Kd.R_reads' HO_601000.out).2.1)
      rintro e w17 ⟨v607,rfl,ho0,hb⟩
      refine ⟨_,rfl,?_⟩
      have HO608:=am (Kd.R_lower (Kd.R_new' ho0 (Kd.R_lt (rs HO_601000))) (keep_size (w:=w) (g:=g) (row:=none) m26_))
      replace HO_601000:=am (Kd.R_elder' (rs HO_601000) (Kd.R_base ho0) hb)
      replace BK599:=bkB BK599 hb
      replace BK600:=bkB BK600 hb
      replace BK610:=bkB BK610 hb
      replace HK:=am (KeepBut.trans m26_ (KeepBut.of_below hb g none) (.inl rfl))
      replace HB:=am (below_step m25_ hb)
      replace HI0:=am (IsS102.below m27_ hb)
      (try clear hb)
      (try clear hb2)
      (try clear hk)
      (try clear hi)
      (try clear ho0)
      refine hK.out _ _ (bcell BK600 0) (fun hHeld=>?_)
      clear hK K
      refine nm_ ?_
      refine pu_ 4 (some 16) (bm 10 159) ?_
      refine pu_ 5 (some 21) (bm 10 191) ?_
      refine pu_ 6 (some 22) (bm 10 255) ?_
      exact norm_ (by simp only [putAll,Act.put,List.setIfInBounds_toArray,List.set_cons_zero,List.set_cons_succ]) (hCont (v607,gb610) _ ⟨hHeld,(by (with_reducible repeat apply ru);exact Kd.R_mono HO608.out (fun _ hk=>hk.2)),(by (with_reducible repeat apply ru);exact Kd.R_mono HO_601000.out (fun _ hk=>hk.2)),(bk BK599),(bk BK600),(bk BK610),GW610.out,GE610.out,NB0_610.out,NB610_0.out,NB599_610.out,NB610_599.out,NB600_610.out,NB610_600.out,m27_,m26_,m25_⟩)
    rintro ⟨v607,gb610⟩ w18 ⟨hS_,h0_,h1_,h2_,h3_,h4_,h5_,h6_,h7_,h8_,h9_,h10_,h11_,h12_,h13_,h14_,h15_⟩
    have n0_ : Aside0 (Kd.R k55 55 w18 w.heap.size (fun k_=>some k_ ≠ (.slice Ao13 x601000_1.length co13 : Value).ownBlock) v607 t606):=⟨h0_⟩
    have n1_ : Aside0 (Kd.R k55 55 w18 w.heap.size (fun k_=>some k_ ≠ (v607 : Value).ownBlock) (.slice Ao13 x601000_1.length co13) x601000_1):=⟨h1_⟩
    have n2_ : Aside0 (w18.heap[gb599]? = some (.cells #[.slice none 0 0] 29 (0,0))):=⟨h2_⟩
    have n3_ : Aside0 (w18.heap[gb600]? = some (.cells #[.slice Ao13 x601000_1.length co13] 29 (0,0))):=⟨h3_⟩
    have n4_ : Aside0 (w18.heap[gb610]? = some (.cells #[.slice none 0 0] 29 (0,0))):=⟨h4_⟩
    have n5_ : Aside0 (w.heap.size ≤ gb610):=⟨h5_⟩
    have n6_ : Aside0 (w0.heap.size ≤ gb610):=⟨h6_⟩
    have n7_ : Aside0 (g ≠ gb610):=⟨h7_⟩
    have n8_ : Aside0 (gb610 ≠ g):=⟨h8_⟩
    have n9_ : Aside0 (gb599 ≠ gb610):=⟨h9_⟩
    have n10_ : Aside0 (gb610 ≠ gb599):=⟨h10_⟩
    have n11_ : Aside0 (gb600 ≠ gb610):=⟨h11_⟩
    have n12_ : Aside0 (gb610 ≠ gb600):=⟨h12_⟩
    have n13_ : Aside0 (IsS102 w0 w18 g s0_0 t605):=⟨h13_⟩
    have n14_ : Aside0 (KeepBut w w18 g none):=⟨h14_⟩
    have n15_ : Aside0 (Below w0.heap.size w0 w18):=⟨h15_⟩
    clear HO_601000
    clear BK599
    clear BK600
    clear HI0
    clear HK
    clear HB
    clear h0_ h1_ h2_ h3_ h4_ h5_ h6_ h7_ h8_ h9_ h10_ h11_ h12_ h13_ h14_ h15_
    have HO608:=n0_
    have HO_601000:=n1_
    have BK599:=n2_
    have BK600:=n3_
    have BK610:=n4_
    have GW610:=n5_
    have GE610:=n6_
    have NB0_610:=n7_
    have NB610_0:=n8_
    have NB599_610:=n9_
    have NB610_599:=n10_
    have NB600_610:=n11_
    have NB610_600:=n12_
    have HI0:=n13_
    have HK:=n14_
    have HB:=n15_
    clear n0_ n1_ n2_ n3_ n4_ n5_ n6_ n7_ n8_ n9_ n10_ n11_ n12_ n13_ n14_ n15_
    have hHeld : w18.cell? ⟨gb600,0,none⟩ = some (.slice Ao13 x601000_1.length co13):=hS_
    obtain ⟨Ao19,co19,eo19⟩:=Kd.R_slice HO608.out
    (first | subst eo19 | (injection eo19 with f1_ f2_ f3_;have f4_:=f1_.symm;have f5_:=f3_.symm;clear f1_ f2_ f3_;subst f4_;subst f5_))
    refine norm_ (a':=?_) ?_ ?_
    rotate_left
    ·simp only [putAll,Act.put,List.setIfInBounds_toArray,List.set_cons_zero,List.set_cons_succ]
     rfl
    refine on_ 8 none (bm 10 511) (fun K hK=>?_)
    have : w18.cell? ⟨gb610,0,none⟩ = some (.slice none 0 0):=bcell BK610 0
    have:=bfz BK610 0
    have:=NB599_610.out
    have:=NB600_610.out
    have:=NB610_599.out
    have:=NB610_600.out
    refine skip_ (w1:=?_) (by rfl) rfl ?_ ?_
    rotate_left
    ·go_simp
     rfl
    refine hK.out _ _ (((cell_far (p:=⟨gb610,_,none⟩) NB600_610.out _).trans (hHeld))) (fun hHeld=>?_)
    clear hK K
    refine pu_ 9 (some 8) (bm 10 1023) ?_
    refine done_ (done_of HT_.out (by kernel_rfl)) ?_
    have:=NB610_599.out
    have:=NB599_610.out
    have:=NB610_600.out
    have:=NB600_610.out
    have:=NB610_0.out
    have:=NB0_610.out
    have hcz24_0:=bcell BK610 0
    have hfz24_0:=blk_frozen BK610.out 0
    have:=NB600_599.out
    have:=NB599_600.out
    have:=NB600_0.out
    have:=NB0_600.out
    have hcz27_0:=bcell BK600 0
    have hfz27_0:=blk_frozen BK600.out 0
    try go_wp2
    go_roundg k1
    case measure=>have:=HK1.out;omega
    case rel=>exact ⟨(wrap64 (x6_1 - 1)),(t605),(t606),(.slice Ao19 t606.length co19),rs_,H',⟨by have:=HK1.out;omega⟩,⟨by (with_reducible repeat apply ru);exact Kd.R_mono (Kd.R_far (p:=⟨gb600,0,none⟩) (Kd.R_far (p:=⟨gb610,0,none⟩) (Kd.R_types (Kd.R_types HO608.out BK610.out (by decide)) BK600.out (by decide)) (fun _ hk=>hk.1.2) (.slice Ao19 t606.length co19)) (fun _ hk=>hk.2) (.slice Ao19 t606.length co19)) (fun _ hk=>trivial)⟩,bf_ BK599,⟨by (with_reducible repeat refine bu ?_);refine blk_put (cs:=#[.slice Ao13 x601000_1.length co13]) ?_ 0 _ rfl;(with_reducible repeat refine bu ?_);refine blk_far ?_ NB600_610.out _;(with_reducible repeat refine bu ?_);exact BK600.out⟩,⟨m27_⟩,⟨m26_⟩,⟨m25_⟩⟩
   ·rw [if_neg c10] at H
    have c10b0 : decide (0 < x6_1) = false:=decide_eq_false c10
    clear c10
    obtain ⟨⟨t611,t612⟩,A28,H⟩:=bse H
    try dsimp only at H
    by_cases c29 : t611 = true
    ·subst c29
     have H1 : ((spec_l20Rd_pick.f k1 s0_0 t612 3).bind fun bt613=>(if bt613.1 = 0 then ((spec_l20Out.f k1 s0_0 bt613.2).bind fun bt615=>(if x601000_1.length < 8796093022208 then (some ((x601000_1 ++ [(⟨bt615.1,bt615.2.1⟩ : S55)]),bt615.2.2)) else (none))) else (if bt613.1 = 1 then (if x601000_1.length < 8796093022208 then ((some (x601000_1 ++ [(⟨9,9⟩ : S55)] : List (S55))).bind fun y621=>(if y621.length < 8796093022208 then (some ((y621 ++ [(⟨9,9⟩ : S55)]),bt613.2)) else (none))) else (none)) else (spec_l20Table.l1 k1 s0_0 bt613.2 x601000_1)))) = some (r1,r2):=by rw [if_pos rfl] at H;exact H
     clear H
     have H:=H1
     clear H1
     obtain ⟨⟨t613,t614⟩,A30,H⟩:=bse H
     try dsimp only at H
     by_cases c31 : t613 = 0
     ·rw [if_pos c31] at H
      have c31b0 : (t613 == 0) = true:=beq_iff_eq.mpr c31
      have c31b1 : (t613 != 0) = false:=bne_eq_false_iff_eq.mpr c31
      clear c31
      obtain ⟨⟨t615,t616,t617⟩,A32,H⟩:=bse H
      try dsimp only at H
      by_cases c33 : x601000_1.length < 8796093022208
      ·rw [if_pos c33] at H
       have LMc33:=am c33
       clear c33
       obtain ⟨y618,hy618⟩ : ∃ y_ : List (S55),y_ = (x601000_1 ++ [(⟨t615,t616⟩ : S55)]):=⟨_,rfl⟩
       replace H : (some (y618,t617)) = some (r1,r2):=by first | (rw [hy618];with_reducible exact H) | (have H2_:=(Option.bind_some _ _).symm.trans H;rw [hy618];with_reducible exact H2_) | (have H2_:=(Option.bind_some _ _).symm.trans H;with_reducible exact H2_) | with_reducible exact H | (rw [hy618];exact H) | exact H
       have Ny618:=am hy618
       clear hy618
       simp only [Option.some.injEq,Prod.mk.injEq] at H
       obtain ⟨rfl,rfl⟩:=H
       try go_wp2_with (first | ((with_reducible refine gC 94 rfl ?_);refine gL (some 26) Tryz.func94 #[.pointer (some ⟨g,0,none⟩),.int .i64 a1] ?_;(with_reducible refine (spec_l20Rd_odd.calls k1 g s0_0 x1001_1 a1 true t612 w0 _ ?side1 ?side2 A28.out).mono ?_);(case side1=>exact m27_);(case side2=>exact m25_);rintro e w34 ⟨rfl,hi,hb,hk⟩;refine ⟨_,rfl,?_⟩;replace HO_601000:=am (Kd.R_mono (Kd.R_keep (IsS102.apart (show IsS102 w0 _ g s0_0 x1001_1 from m27_) (rs HO_601000) (by decide)) hk (fun _ h=>h.2)) (fun _ h=>h.1));replace BK599:=am (KeepBut.blk hk (g':=gb599) (o:=.cells #[.slice none 0 0] 29 (0,0)) (bk BK599) NB599_0.out (by simp));replace BK600:=am (KeepBut.blk hk (g':=gb600) (o:=.cells #[u601000] 29 (0,0)) (bk BK600) NB600_0.out (by simp));replace HK:=am (KeepBut.trans m26_ hk (.inl rfl));replace HB:=am hb;replace HI0:=am hi;(try clear hb);(try clear hk);(try clear hi)) | ((with_reducible refine gC 58 rfl ?_);refine gL (some 28) Tryz.func58 #[.pointer (some ⟨g,0,none⟩),.int .i64 3] ?_;(with_reducible refine (spec_l20Rd_pick.calls k1 g s0_0 t612 3 t613 t614 w0 _ ?side1 ?side2 A30.out).mono ?_);(case side1=>exact m27_);(case side2=>exact m25_);rintro e w35 ⟨rfl,hi,hb,hk⟩;refine ⟨_,rfl,?_⟩;replace HO_601000:=am (Kd.R_mono (Kd.R_keep (IsS102.apart (show IsS102 w0 _ g s0_0 t612 from m27_) (rs HO_601000) (by decide)) hk (fun _ h=>h.2)) (fun _ h=>h.1));replace BK599:=am (KeepBut.blk hk (g':=gb599) (o:=.cells #[.slice none 0 0] 29 (0,0)) (bk BK599) NB599_0.out (by simp));replace BK600:=am (KeepBut.blk hk (g':=gb600) (o:=.cells #[u601000] 29 (0,0)) (bk BK600) NB600_0.out (by simp));replace HK:=am (KeepBut.trans m26_ hk (.inl rfl));replace HB:=am hb;replace HI0:=am hi;(try clear hb);(try clear hk);(try clear hi)))
       replace HO_601000:=am (Kd.R_drew HO_601000.out)
       replace BK599:=am (blk_drew BK599.out)
       replace BK600:=am (blk_drew BK600.out)
       replace HI0:=am (IsS102.drew HI0.out)
       replace HK:=am (keep_drew HK.out)
       replace HB:=am (below_drew1 HB.out)
       refine start_ (n:=8) (S:=fun w'=>w'.cell? ⟨gb600,0,none⟩ = some (u601000)) (ds:=[7]) #[false,false,false,false,false,false,false,false] (by kernel_rfl) rfl rfl (bcell BK600 0) (fun hHeld=>?_);refine with_tabW spec_l20Table.tab12 spec_l20Table.bits12 (fun HT_ HW_=>?_)
       generalize w35.drew = w36 at HO_601000 BK599 BK600 HI0 HK HB hHeld ⊢
       refine pu_ 0 (some 45) (bm 8 1) ?_
       refine pu_ 2 (some 47) (bm 8 5) ?_
       refine take_ (i:=1) (N:=some 46) (v:=?_) (a':=?_) #[true,true,true,false,false,false,false,false] rfl rfl (take_ofW HT_.out HW_.out (by kernel_rfl)) (fun _ _ _ h=>h) (Or.inl ⟨by rfl,?_⟩) hHeld ?_ ?_
       rotate_left
       ·intro w' s0
        go_simp
        with_reducible rfl
       rotate_left
       ·simp only [Act.put,List.setIfInBounds_toArray,List.set_cons_zero,List.set_cons_succ,i64_w,i32_w]
        rfl
       refine on_ 3 (some 48) (bm 8 15) (fun K hK=>?_)
       refine gR Tryz.func95 #[.pointer (some ⟨g,0,none⟩)] ?_
       with_reducible refine (spec_l20Out.calls k1 g s0_0 t614 t615 t616 t617 w0 _ ?side1 ?side2 A32.out).mono ?_
       (case side1=>exact m27_)
       (case side2=>exact m25_)
       rintro e w37 ⟨rfl,hi,hb,hk⟩
       refine ⟨_,rfl,?_⟩
       replace HO_601000:=am (Kd.R_mono (Kd.R_keep (IsS102.apart (show IsS102 w0 _ g s0_0 t614 from m27_) (rs HO_601000) (by decide)) hk (fun _ h=>h.2)) (fun _ h=>h.1))
       replace BK599:=am (KeepBut.blk hk (g':=gb599) (o:=.cells #[.slice none 0 0] 29 (0,0)) (bk BK599) NB599_0.out (by simp))
       replace BK600:=am (KeepBut.blk hk (g':=gb600) (o:=.cells #[u601000] 29 (0,0)) (bk BK600) NB600_0.out (by simp))
       replace HK:=am (KeepBut.trans m26_ hk (.inl rfl))
       replace HB:=am hb
       replace HI0:=am hi
       (try clear hb)
       (try clear hb2)
       (try clear hk)
       (try clear hi)
       refine hK.out _ _ (bcell BK600 0) (fun hHeld=>?_)
       clear hK K
       refine nm_ ?_
       refine on_ 4 (some 49) (bm 8 31) (fun K hK=>?_)
       refine value_ (w1:=?_) (v:=?_) (by rfl) rfl ?_ ?_
       rotate_left 2
       ·go_simp
        constructor
        ·rfl
        ·rfl
       refine hK.out _ _ ((blk_cell (blk_alloc BK600.out _) 0).trans rfl) (fun hHeld=>?_)
       clear hK K
       refine nm_ ?_
       refine on_ 5 (some 50) (bm 8 63) (fun K hK=>?_)
       refine Kd.R_append_step k55 w.heap.size (by rfl) (.tmp 46) (.tmp 49) 27 55 (.agg #[(.int .i64 0),(.int .i64 0)]) 16 rfl Tryz.underlying27 info55 rfl (by decide) (by omega) u601000 x601000_1 (⟨t615,t616⟩ : S55) [.int .i64 t615,.int .i64 t616] (fun _=>True) (fun _=>False) rfl rfl ?aP (fun _ hk=>hk.elim) ?aF ?aO (Below.refl _ _) ?aS ?aL ?_
       (case aP=>exact k55_mkM _ _ _ (⟨t615,t616⟩ : S55))
       (case aF=>exact (fun _ _=>trivial))
       (case aO=>exact (rs HO_601000))
       (case aS=>exact (keep_size (w:=w) (g:=g) (row:=none) m26_))
       (case aL=>have:=LMc33.out;omega)
       intro v619 w38 ho hb hg hat
       rw [← Ny618.out] at ho
       replace BK599:=am (blk_grown (g:=gb599) (o:=.cells #[.slice none 0 0] 29 (0,0)) (bk BK599) hg (Kd.R_ne HO_601000.out BK599.out (by decide)))
       replace BK600:=am (blk_grown (g:=gb600) (o:=.cells #[u601000] 29 (0,0)) (bk BK600) hg (Kd.R_ne HO_601000.out BK600.out (by decide)))
       replace HB:=am (below_weaken m25_ HL.out hb)
       replace HI0:=am (IsS102.grown m27_ hg (IsS102.own_ne HI0.out HO_601000.out (by decide)))
       replace HK:=am (KeepBut.trans m26_ (KeepBut.of_grown hg g) (Kd.R_base2 HO_601000.out))
       have HO620:=am (ho)
       clear HO_601000
       clear ho hb hg hat
       obtain ⟨Ao39,co39,eo39⟩:=Kd.R_slice HO620.out
       (first | subst eo39 | (injection eo39 with f1_ f2_ f3_;have f4_:=f1_.symm;have f5_:=f3_.symm;clear f1_ f2_ f3_;subst f4_;subst f5_))
       refine hK.out _ _ (bcell BK600 0) (fun hHeld=>?_)
       clear hK K
       refine nm_ ?_
       refine pu_ 6 (some 51) (bm 8 127) ?_
       refine last_ (i:=7) (N:=none) #[true,true,true,true,true,true,true,true] rfl rfl (one_of HT_.out (by kernel_rfl)) (by decide) (fun K hK=>?_)
       have : w38.cell? ⟨gb600,0,none⟩ = some (u601000):=bcell BK600 0
       have:=bfz BK600 0
       have:=NB599_600.out
       have:=NB600_599.out
       refine skip_ (w1:=?_) (by rfl) rfl ?_ ?_
       rotate_left
       ·go_simp
        rfl
       refine hK.out _ _ ?_
       clear hK K
       refine done_ (done_of HT_.out (by kernel_rfl)) ?_
       have:=NB600_599.out
       have:=NB599_600.out
       have:=NB600_0.out
       have:=NB0_600.out
       have hcz43_0:=bcell BK600 0
       have hfz43_0:=blk_frozen BK600.out 0
       have:=NB599_0.out
       have:=NB0_599.out
       have hcz45_0:=bcell BK599 0
       have hfz45_0:=blk_frozen BK599.out 0
       try go_wp2
       refine bodyPost_ret (results_cell_row rfl _ _ gb599 29 #[.slice Ao39 y618.length co39] (0,0) _ rfl (by (with_reducible repeat refine bu ?_);refine blk_put (cs:=#[.slice none 0 0]) ?_ 0 _ rfl;(with_reducible repeat refine bu ?_);refine blk_far ?_ NB599_600.out _;(with_reducible repeat refine bu ?_);exact BK599.out) Tryz.underlying29 rfl (by kernel_rfl)) rfl ?_
       exact ⟨_,fi_,by (with_reducible repeat apply ru);exact Kd.R_mono (Kd.R_far (p:=⟨gb599,0,none⟩) (Kd.R_far (p:=⟨gb600,0,none⟩) (Kd.R_types (Kd.R_types HO620.out BK600.out (by decide)) BK599.out (by decide)) (fun _ hk=>hk.1.2) (.slice Ao39 y618.length co39)) (fun _ hk=>hk.2) (.slice Ao39 y618.length co39)) (fun _ hk=>trivial),m27_,m25_,m26_⟩
      ·rw [if_neg c33] at H
       exact absurd H (by simp)
     ·rw [if_neg c31] at H
      have c31b0 : (t613 == 0) = false:=beq_eq_false_iff_ne.mpr c31
      have c31b1 : (t613 != 0) = true:=bne_iff_ne.mpr c31
      by_cases c46 : t613 = 1
      ·rw [if_pos c46] at H
       have c46b0 : (t613 == 1) = true:=beq_iff_eq.mpr c46
       have c46b1 : (t613 != 1) = false:=bne_eq_false_iff_eq.mpr c46
       clear c46
       by_cases c47 : x601000_1.length < 8796093022208
       ·rw [if_pos c47] at H
        have LMc47:=am c47
        clear c47
        obtain ⟨y621,hy621⟩ : ∃ y_ : List (S55),y_ = (x601000_1 ++ [(⟨9,9⟩ : S55)]):=⟨_,rfl⟩
        replace H : (if y621.length < 8796093022208 then (some ((y621 ++ [(⟨9,9⟩ : S55)]),t614)) else (none)) = some (r1,r2):=by first | (rw [hy621];with_reducible exact H) | (have H2_:=(Option.bind_some _ _).symm.trans H;rw [hy621];with_reducible exact H2_) | (have H2_:=(Option.bind_some _ _).symm.trans H;with_reducible exact H2_) | with_reducible exact H | (rw [hy621];exact H) | exact H
        have Ny621:=am hy621
        clear hy621
        by_cases c48 : y621.length < 8796093022208
        ·rw [if_pos c48] at H
         have LMc48:=am c48
         clear c48
         obtain ⟨y624,hy624⟩ : ∃ y_ : List (S55),y_ = (y621 ++ [(⟨9,9⟩ : S55)]):=⟨_,rfl⟩
         replace H : (some (y624,t614)) = some (r1,r2):=by first | (rw [hy624];with_reducible exact H) | (have H2_:=(Option.bind_some _ _).symm.trans H;rw [hy624];with_reducible exact H2_) | (have H2_:=(Option.bind_some _ _).symm.trans H;with_reducible exact H2_) | with_reducible exact H | (rw [hy624];exact H) | exact H
         have Ny624:=am hy624
         clear hy624
         simp only [Option.some.injEq,Prod.mk.injEq] at H
         obtain ⟨rfl,rfl⟩:=H
         go_wp2_with (first | ((with_reducible refine gC 94 rfl ?_);refine gL (some 26) Tryz.func94 #[.pointer (some ⟨g,0,none⟩),.int .i64 a1] ?_;(with_reducible refine (spec_l20Rd_odd.calls k1 g s0_0 x1001_1 a1 true t612 w0 _ ?side1 ?side2 A28.out).mono ?_);(case side1=>exact m27_);(case side2=>exact m25_);rintro e w49 ⟨rfl,hi,hb,hk⟩;refine ⟨_,rfl,?_⟩;replace HO_601000:=am (Kd.R_mono (Kd.R_keep (IsS102.apart (show IsS102 w0 _ g s0_0 x1001_1 from m27_) (rs HO_601000) (by decide)) hk (fun _ h=>h.2)) (fun _ h=>h.1));replace BK599:=am (KeepBut.blk hk (g':=gb599) (o:=.cells #[.slice none 0 0] 29 (0,0)) (bk BK599) NB599_0.out (by simp));replace BK600:=am (KeepBut.blk hk (g':=gb600) (o:=.cells #[u601000] 29 (0,0)) (bk BK600) NB600_0.out (by simp));replace HK:=am (KeepBut.trans m26_ hk (.inl rfl));replace HB:=am hb;replace HI0:=am hi;(try clear hb);(try clear hk);(try clear hi)) | ((with_reducible refine gC 58 rfl ?_);refine gL (some 28) Tryz.func58 #[.pointer (some ⟨g,0,none⟩),.int .i64 3] ?_;(with_reducible refine (spec_l20Rd_pick.calls k1 g s0_0 t612 3 t613 t614 w0 _ ?side1 ?side2 A30.out).mono ?_);(case side1=>exact m27_);(case side2=>exact m25_);rintro e w50 ⟨rfl,hi,hb,hk⟩;refine ⟨_,rfl,?_⟩;replace HO_601000:=am (Kd.R_mono (Kd.R_keep (IsS102.apart (show IsS102 w0 _ g s0_0 t612 from m27_) (rs HO_601000) (by decide)) hk (fun _ h=>h.2)) (fun _ h=>h.1));replace BK599:=am (KeepBut.blk hk (g':=gb599) (o:=.cells #[.slice none 0 0] 29 (0,0)) (bk BK599) NB599_0.out (by simp));replace BK600:=am (KeepBut.blk hk (g':=gb600) (o:=.cells #[u601000] 29 (0,0)) (bk BK600) NB600_0.out (by simp));replace HK:=am (KeepBut.trans m26_ hk (.inl rfl));replace HB:=am hb;replace HI0:=am hi;(try clear hb);(try clear hk);(try clear hi);have:=NB600_599.out;have:=NB599_600.out;have:=NB600_0.out;have:=NB0_600.out;have hcz53_0:=bcell BK600 0;have hfz53_0:=blk_frozen BK600.out 0) | ((with_reducible refine gate_builtin (b:=.append) (xs:=#[.tmp 55,.tmp 57]) rfl ?_);at_builtin;refine Kd.R_append k55 w.heap.size rfl (.tmp 55) (.tmp 57) 27 55 (.agg #[(.int .i64 0),(.int .i64 0)]) 16 rfl Tryz.underlying27 info55 rfl (by decide) (by omega) u601000 x601000_1 (⟨9,9⟩ : S55) [.int .i64 9,.int .i64 9] (fun _=>True) (fun _=>False) rfl rfl ?aP (fun _ hk=>hk.elim) ?aF ?aO (Below.refl _ _) ?aS ?aL ?_;(case aP=>exact k55_mkM _ _ _ (⟨9,9⟩ : S55));(case aF=>exact (fun _ _=>trivial));(case aO=>exact (rs HO_601000));(case aS=>exact (keep_size (w:=w) (g:=g) (row:=none) m26_));(case aL=>have:=LMc47.out;omega);intro v622 w54 ho hb hg hat;rw [← Ny621.out] at ho;replace BK599:=am (blk_grown (g:=gb599) (o:=.cells #[.slice none 0 0] 29 (0,0)) (bk BK599) hg (Kd.R_ne HO_601000.out BK599.out (by decide)));replace BK600:=am (blk_grown (g:=gb600) (o:=.cells #[u601000] 29 (0,0)) (bk BK600) hg (Kd.R_ne HO_601000.out BK600.out (by decide)));replace HB:=am (below_weaken m25_ HL.out hb);replace HI0:=am (IsS102.grown m27_ hg (IsS102.own_ne HI0.out HO_601000.out (by decide)));replace HK:=am (KeepBut.trans m26_ (KeepBut.of_grown hg g) (Kd.R_base2 HO_601000.out));have HO623:=am (ho);clear HO_601000;clear ho hb hg hat) | ((with_reducible refine gate_builtin (b:=.append) (xs:=#[.tmp 58,.tmp 60]) rfl ?_);at_builtin;refine Kd.R_append k55 w.heap.size rfl (.tmp 58) (.tmp 60) 27 55 (.agg #[(.int .i64 0),(.int .i64 0)]) 16 rfl Tryz.underlying27 info55 rfl (by decide) (by omega) v622 y621 (⟨9,9⟩ : S55) [.int .i64 9,.int .i64 9] (fun _=>True) (fun _=>False) rfl rfl ?aP (fun _ hk=>hk.elim) ?aF ?aO (Below.refl _ _) ?aS ?aL ?_;(case aP=>exact k55_mkM _ _ _ (⟨9,9⟩ : S55));(case aF=>exact (fun _ _=>trivial));(case aO=>exact (rs HO623));(case aS=>exact (keep_size (w:=w) (g:=g) (row:=none) m26_));(case aL=>have:=LMc48.out;omega);intro v625 w55 ho hb hg hat;rw [← Ny624.out] at ho;replace BK599:=am (blk_grown (g:=gb599) (o:=.cells #[.slice none 0 0] 29 (0,0)) (bk BK599) hg (Kd.R_ne HO623.out BK599.out (by decide)));replace BK600:=am (blk_grown (g:=gb600) (o:=.cells #[u601000] 29 (0,0)) (bk BK600) hg (Kd.R_ne HO623.out BK600.out (by decide)));replace HB:=am (below_weaken m25_ HL.out hb);replace HI0:=am (IsS102.grown m27_ hg (IsS102.own_ne HI0.out HO623.out (by decide)));replace HK:=am (KeepBut.trans m26_ (KeepBut.of_grown hg g) (Kd.R_base2 HO623.out));have HO626:=am (ho);clear HO623;clear ho hb hg hat;obtain ⟨Ao56,co56,eo56⟩:=Kd.R_slice HO626.out;subst eo56;have hcz57_0:=bcell BK600 0;have hfz57_0:=blk_frozen BK600.out 0;have:=NB599_0.out;have:=NB0_599.out;have hcz59_0:=bcell BK599 0;have hfz59_0:=blk_frozen BK599.out 0))
         refine bodyPost_ret (results_cell_row rfl _ _ gb599 29 #[.slice Ao56 y624.length co56] (0,0) _ rfl (by (with_reducible repeat refine bu ?_);refine blk_put (cs:=#[.slice none 0 0]) ?_ 0 _ rfl;(with_reducible repeat refine bu ?_);refine blk_far ?_ NB599_600.out _;(with_reducible repeat refine bu ?_);exact BK599.out) Tryz.underlying29 rfl (by kernel_rfl)) rfl ?_
         exact ⟨_,fi_,by (with_reducible repeat apply ru);exact Kd.R_mono (Kd.R_far (p:=⟨gb599,0,none⟩) (Kd.R_far (p:=⟨gb600,0,none⟩) (Kd.R_types (Kd.R_types HO626.out BK600.out (by decide)) BK599.out (by decide)) (fun _ hk=>hk.1.2) (.slice Ao56 y624.length co56)) (fun _ hk=>hk.2) (.slice Ao56 y624.length co56)) (fun _ hk=>trivial),m27_,m25_,m26_⟩
        ·rw [if_neg c48] at H
         exact absurd H (by simp)
       ·rw [if_neg c47] at H
        exact absurd H (by simp)
      ·rw [if_neg c46] at H
       have c46b0 : (t613 == 1) = false:=beq_eq_false_iff_ne.mpr c46
       have c46b1 : (t613 != 1) = true:=bne_iff_ne.mpr c46
       have H':=am H
       clear H
       go_wp2_with (first | ((with_reducible refine gC 94 rfl ?_);refine gL (some 26) Tryz.func94 #[.pointer (some ⟨g,0,none⟩),.int .i64 a1] ?_;(with_reducible refine (spec_l20Rd_odd.calls k1 g s0_0 x1001_1 a1 true t612 w0 _ ?side1 ?side2 A28.out).mono ?_);(case side1=>exact m27_);(case side2=>exact m25_);rintro e w60 ⟨rfl,hi,hb,hk⟩;refine ⟨_,rfl,?_⟩;replace HO_601000:=am (Kd.R_mono (Kd.R_keep (IsS102.apart (show IsS102 w0 _ g s0_0 x1001_1 from m27_) (rs HO_601000) (by decide)) hk (fun _ h=>h.2)) (fun _ h=>h.1));replace BK599:=am (KeepBut.blk hk (g':=gb599) (o:=.cells #[.slice none 0 0] 29 (0,0)) (bk BK599) NB599_0.out (by simp));replace BK600:=am (KeepBut.blk hk (g':=gb600) (o:=.cells #[u601000] 29 (0,0)) (bk BK600) NB600_0.out (by simp));replace HK:=am (KeepBut.trans m26_ hk (.inl rfl));replace HB:=am hb;replace HI0:=am hi;(try clear hb);(try clear hk);(try clear hi)) | ((with_reducible refine gC 58 rfl ?_);refine gL (some 28) Tryz.func58 #[.pointer (some ⟨g,0,none⟩),.int .i64 3] ?_;(with_reducible refine (spec_l20Rd_pick.calls k1 g s0_0 t612 3 t613 t614 w0 _ ?side1 ?side2 A30.out).mono ?_);(case side1=>exact m27_);(case side2=>exact m25_);rintro e w61 ⟨rfl,hi,hb,hk⟩;refine ⟨_,rfl,?_⟩;replace HO_601000:=am (Kd.R_mono (Kd.R_keep (IsS102.apart (show IsS102 w0 _ g s0_0 t612 from m27_) (rs HO_601000) (by decide)) hk (fun _ h=>h.2)) (fun _ h=>h.1));replace BK599:=am (KeepBut.blk hk (g':=gb599) (o:=.cells #[.slice none 0 0] 29 (0,0)) (bk BK599) NB599_0.out (by simp));replace BK600:=am (KeepBut.blk hk (g':=gb600) (o:=.cells #[u601000] 29 (0,0)) (bk BK600) NB600_0.out (by simp));replace HK:=am (KeepBut.trans m26_ hk (.inl rfl));replace HB:=am hb;replace HI0:=am hi;(try clear hb);(try clear hk);(try clear hi)))
       go_loopg [] k1 (fun kq w'=>∃ (x601000_2 : List (S55)) (u601000 : Value),Aside0 (spec_l20Table.l1 kq s0_0 t614 x601000_2 = some (r1,r2)) ∧ Aside0 (kq ≤ k1) ∧ Aside0 (Kd.R k55 55 w' w.heap.size (fun _=>True) u601000 x601000_2) ∧ Aside0 (w'.heap[gb599]? = some (.cells #[(.slice none 0 0)] 29 (0,0))) ∧ Aside0 (w'.heap[gb600]? = some (.cells #[u601000] 29 (0,0))) ∧ Aside0 (IsS102 w0 w' g s0_0 t614) ∧ Aside0 (KeepBut w w' g none) ∧ Aside0 (Below w0.heap.size w0 w'))
       case atStart=>exact ⟨(x601000_1),(u601000),H',⟨Nat.le_refl _⟩,⟨by (with_reducible repeat apply ru);exact HO_601000.out⟩,⟨bk BK599⟩,⟨bk BK600⟩,⟨m27_⟩,⟨m26_⟩,⟨m25_⟩⟩
       case round=>
        clear H'
        try clear c1
        try clear c2
        try clear p2
        try clear c3
        try clear c4
        try clear c5
        try clear p6
        try clear c9
        try clear c10
        try clear c10b0
        try clear c21
        try clear c22
        try clear c23
        try clear c25
        try clear c26
        try clear c29
        try clear c31
        try clear c31b0
        try clear c31b1
        try clear c33
        try clear c41
        try clear c42
        try clear c44
        try clear c46
        try clear c46b0
        try clear c46b1
        try clear c47
        try clear c48
        try clear c51
        try clear c52
        try clear c58
        try clear hcz24_0
        try clear hcz27_0
        try clear hcz43_0
        try clear hcz45_0
        try clear hcz53_0
        try clear hcz57_0
        try clear hcz59_0
        try clear hfz24_0
        try clear hfz27_0
        try clear hfz43_0
        try clear hfz45_0
        try clear hfz53_0
        try clear hfz57_0
        try clear hfz59_0
        obtain ⟨x601000_2,u601000,HA,HK2,HO_601000,BK599,BK600,HI0,HK,HB⟩:=hrel
        cases gk with
        | zero=>exact absurd HA.out (by simp [spec_l20Table.l1])
        | succ k2=>
         have H:=HA.out
         clear HA
         simp only [spec_l20Table.l1] at H
         by_cases c62 : (x601000_2.length : Int) ≤ 6
         ·rw [if_pos c62] at H
          have c62b0 : decide ((x601000_2.length : Int) ≤ 6) = true:=decide_eq_true c62
          have c62b1 : decide (x601000_2.length ≤ 6) = true:=decide_eq_true (by omega)
          clear c62
          by_cases c63 : x601000_2.length < 8796093022208
          ·rw [if_pos c63] at H
           have LMc63:=am c63
           clear c63
           obtain ⟨y627,hy627⟩ : ∃ y_ : List (S55),y_ = (x601000_2 ++ [(⟨8,wrap64 (1 + (x601000_2.length : Int))⟩ : S55)]):=⟨_,rfl⟩
           replace H : (spec_l20Table.l1 k2 s0_0 t614 y627) = some (r1,r2):=by first | (rw [hy627];with_reducible exact H) | (have H2_:=(Option.bind_some _ _).symm.trans H;rw [hy627];with_reducible exact H2_) | (have H2_:=(Option.bind_some _ _).symm.trans H;with_reducible exact H2_) | with_reducible exact H | (rw [hy627];exact H) | exact H
           have Ny627:=am hy627
           clear hy627
           have H':=am H
           clear H
           have:=NB600_599.out
           have:=NB599_600.out
           have:=NB600_0.out
           have:=NB0_600.out
           have:=bcell BK600 0
           have:=bfz BK600 0
           obtain ⟨Ao67,co67,eo67⟩:=Kd.R_slice HO_601000.out
           subst eo67
           go_wp2_with (first | ((with_reducible refine gate_builtin (b:=.append) (xs:=#[.tmp 34,.tmp 40]) rfl ?_);at_builtin;refine Kd.R_append k55 w.heap.size rfl (.tmp 34) (.tmp 40) 27 55 (.agg #[(.int .i64 0),(.int .i64 0)]) 16 rfl Tryz.underlying27 info55 rfl (by decide) (by omega) (.slice Ao67 x601000_2.length co67) x601000_2 (⟨8,wrap64 (1 + (x601000_2.length : Int))⟩ : S55) [.int .i64 8,.int .i64 (wrap64 (1 + (x601000_2.length : Int)))] (fun _=>True) (fun _=>False) rfl rfl ?aP (fun _ hk=>hk.elim) ?aF ?aO (Below.refl _ _) ?aS ?aL ?_;(case aP=>exact k55_mkM _ _ _ (⟨8,wrap64 (1 + (x601000_2.length : Int))⟩ : S55));(case aF=>exact (fun _ _=>trivial));(case aO=>exact (rs HO_601000));(case aS=>exact (keep_size (w:=w) (g:=g) (row:=none) m26_));(case aL=>have:=LMc63.out;omega);intro v628 w68 ho hb hg hat;rw [← Ny627.out] at ho;replace BK599:=am (blk_grown (g:=gb599) (o:=.cells #[.slice none 0 0] 29 (0,0)) (bk BK599) hg (Kd.R_ne HO_601000.out BK599.out (by decide)));replace BK600:=am (blk_grown (g:=gb600) (o:=.cells #[.slice Ao67 x601000_2.length co67] 29 (0,0)) (bk BK600) hg (Kd.R_ne HO_601000.out BK600.out (by decide)));replace HB:=am (below_weaken m25_ HL.out hb);replace HI0:=am (IsS102.grown m27_ hg (IsS102.own_ne HI0.out HO_601000.out (by decide)));replace HK:=am (KeepBut.trans m26_ (KeepBut.of_grown hg g) (Kd.R_base2 HO_601000.out));have HO629:=am (ho);clear HO_601000;clear ho hb hg hat;obtain ⟨Ao69,co69,eo69⟩:=Kd.R_slice HO629.out;subst eo69;have:=bcell BK600 0;have:=bfz BK600 0))
           go_roundg k2
           case measure=>have:=HK1.out;have:=HK2.out;omega
           case rel=>exact ⟨(y627),(.slice Ao69 y627.length co69),H',⟨by have:=HK1.out;have:=HK2.out;omega⟩,⟨by (with_reducible repeat apply ru);exact Kd.R_mono (Kd.R_far (p:=⟨gb600,0,none⟩) (Kd.R_types HO629.out BK600.out (by decide)) (fun _ hk=>hk.2) (.slice Ao69 y627.length co69)) (fun _ hk=>trivial)⟩,bf_ BK599,⟨by (with_reducible repeat refine bu ?_);refine blk_put (cs:=#[.slice Ao67 x601000_2.length co67]) ?_ 0 _ rfl;(with_reducible repeat refine bu ?_);exact BK600.out⟩,⟨m27_⟩,⟨m26_⟩,⟨m25_⟩⟩
          ·rw [if_neg c63] at H
           exact absurd H (by simp)
         ·rw [if_neg c62] at H
          have c62b0 : decide ((x601000_2.length : Int) ≤ 6) = false:=decide_eq_false c62
          have c62b1 : decide (x601000_2.length ≤ 6) = false:=decide_eq_false (by omega)
          clear c62
          simp only [Option.some.injEq,Prod.mk.injEq] at H
          obtain ⟨rfl,rfl⟩:=H
          have:=NB600_599.out
          have:=NB599_600.out
          have:=NB600_0.out
          have:=NB0_600.out
          have:=bcell BK600 0
          have:=bfz BK600 0
          obtain ⟨Ao74,co74,eo74⟩:=Kd.R_slice HO_601000.out
          subst eo74
          have:=NB599_0.out
          have:=NB0_599.out
          have:=bcell BK599 0
          have:=bfz BK599 0
          go_wp2
          refine bodyPost_ret (results_cell_row rfl _ _ gb599 29 #[.slice Ao74 x601000_2.length co74] (0,0) _ rfl (by (with_reducible repeat refine bu ?_);refine blk_put (cs:=#[.slice none 0 0]) ?_ 0 _ rfl;(with_reducible repeat refine bu ?_);exact BK599.out) Tryz.underlying29 rfl (by kernel_rfl)) rfl ?_
          exact ⟨_,fi_,by (with_reducible repeat apply ru);exact Kd.R_mono (Kd.R_far (p:=⟨gb599,0,none⟩) (Kd.R_types HO_601000.out BK599.out (by decide)) (fun _ hk=>hk.2) (.slice Ao74 x601000_2.length co74)) (fun _ hk=>trivial),m27_,m25_,m26_⟩
    ·replace c29:=Bool.eq_false_iff.mpr c29
     subst c29
     have H1 : (some (x601000_1,t612)) = some (r1,r2):=by rw [if_neg (show ¬ (false = true) by decide)] at H;exact H
     clear H
     have H:=H1
     clear H1
     simp only [Option.some.injEq,Prod.mk.injEq] at H
     obtain ⟨rfl,rfl⟩:=H
     go_wp2_with (first | ((with_reducible refine gC 94 rfl ?_);refine gL (some 26) Tryz.func94 #[.pointer (some ⟨g,0,none⟩),.int .i64 a1] ?_;(with_reducible refine (spec_l20Rd_odd.calls k1 g s0_0 x1001_1 a1 false t612 w0 _ ?side1 ?side2 A28.out).mono ?_);(case side1=>exact m27_);(case side2=>exact m25_);rintro e w77 ⟨rfl,hi,hb,hk⟩;refine ⟨_,rfl,?_⟩;replace HO_601000:=am (Kd.R_mono (Kd.R_keep (IsS102.apart (show IsS102 w0 _ g s0_0 x1001_1 from m27_) (rs HO_601000) (by decide)) hk (fun _ h=>h.2)) (fun _ h=>h.1));replace BK599:=am (KeepBut.blk hk (g':=gb599) (o:=.cells #[.slice none 0 0] 29 (0,0)) (bk BK599) NB599_0.out (by simp));replace BK600:=am (KeepBut.blk hk (g':=gb600) (o:=.cells #[u601000] 29 (0,0)) (bk BK600) NB600_0.out (by simp));replace HK:=am (KeepBut.trans m26_ hk (.inl rfl));replace HB:=am hb;replace HI0:=am hi;(try clear hb);(try clear hk);(try clear hi);have:=NB600_599.out;have:=NB599_600.out;have:=NB600_0.out;have:=NB0_600.out;have:=bcell BK600 0;have:=bfz BK600 0;obtain ⟨Ao81,co81,eo81⟩:=Kd.R_slice HO_601000.out;subst eo81;have:=NB599_0.out;have:=NB0_599.out;have:=bcell BK599 0;have:=bfz BK599 0))
     refine bodyPost_ret (results_cell_row rfl _ _ gb599 29 #[.slice Ao81 x601000_1.length co81] (0,0) _ rfl (by (with_reducible repeat refine bu ?_);refine blk_put (cs:=#[.slice none 0 0]) ?_ 0 _ rfl;(with_reducible repeat refine bu ?_);exact BK599.out) Tryz.underlying29 rfl (by kernel_rfl)) rfl ?_
     exact ⟨_,fi_,by (with_reducible repeat apply ru);exact Kd.R_mono (Kd.R_far (p:=⟨gb599,0,none⟩) (Kd.R_types HO_601000.out BK599.out (by decide)) (fun _ hk=>hk.2) (.slice Ao81 x601000_1.length co81)) (fun _ hk=>trivial),m27_,m25_,m26_⟩
def spec_l20Line.f (k : Nat) (s0_0 : List Int) (s0_1 : Int) : Option (ByteArray × Int):=(spec_l20Rd_pick.f k s0_0 s0_1 3).bind fun bt630=>(if bt630.1 = 0 then ((spec_l20In.f k s0_0 bt630.2).bind fun bt632=>((spec_LinPort.f k bt632.1 bt632.2.1).bind fun t635=>(some (t635,bt632.2.2)))) else (if bt630.1 = 1 then ((some (([(⟨#[]⟩ : ByteArray),(⟨#[108,105,115,116]⟩ : ByteArray),(⟨#[117,115,101,114,32,97]⟩ : ByteArray),(⟨#[112,111,114,116,32,53,48,32,53,48,48]⟩ : ByteArray),(⟨#[112,111,114,116,32,49,48,48,32,57]⟩ : ByteArray),(⟨#[112,111,114,116,32,48,49,32,50]⟩ : ByteArray),(⟨#[112,111,114,116,32,49]⟩ : ByteArray),(⟨#[97,98,99,100,101,102,103,104,105,106,32,107,108,109,110,111]⟩ : ByteArray),(⟨#[112,111,114,116]⟩ : ByteArray),(⟨#[112,111,114,116,32,49,32,50,32,51]⟩ : ByteArray)] : List ByteArray) : List ByteArray)).bind fun y636=>((spec_l20Rd_pick.f k s0_0 bt630.2 10).bind fun bt639=>(if 0 ≤ bt639.1 then (if bt639.1 < (y636.length : Int) then (some (rdOf ByteArray.empty y636 bt639.1,bt639.2)) else (none)) else (none)))) else ((some (([(⟨#[97]⟩ : ByteArray),(⟨#[98,98]⟩ : ByteArray),(⟨#[103,101,116,32,102,105,108,101,49]⟩ : ByteArray),(⟨#[113,117,105,116]⟩ : ByteArray)] : List ByteArray) : List ByteArray)).bind fun y642=>((spec_l20Rd_pick.f k s0_0 bt630.2 4).bind fun bt645=>(if 0 ≤ bt645.1 then (if bt645.1 < (y642.length : Int) then (some (rdOf ByteArray.empty y642 bt645.1,bt645.2)) else (none)) else (none))))))
theorem spec_l20Line.mono : ∀ a0 a1 k,LeO (spec_l20Line.f k a0 a1) (spec_l20Line.f (k + 1) a0 a1):=by
 intro a0 a1 k
 unfold spec_l20Line.f
 repeat' first | (with_reducible first | exact spec_LinPort.mono _ _ _ | exact spec_l20In.mono _ _ _ | exact spec_l20Rd_pick.mono _ _ _ _ | exact LeO.refl _ | exact LeO.none _ | refine LeO.ite ?_ ?_ | refine LeO.bind ?_ (fun _=>?_)) | exact spec_LinPort.mono _ _ _ | exact spec_l20In.mono _ _ _ | exact spec_l20Rd_pick.mono _ _ _ _ | exact LeO.none _ | refine LeO.ite ?_ ?_ | refine LeO.bind ?_ (fun _=>?_)
set_option maxHeartbeats 8000000 in
set_option maxRecDepth 100000 in
theorem spec_l20Line.calls (k : Nat) (g : Nat) (s0_0 : List Int) (s0_1 : Int) (r1 : ByteArray) (r2 : Int) (w0 w : World) (hI : IsS102 w0 w g s0_0 s0_1) (hB : Below w0.heap.size w0 w) (h : spec_l20Line.f k s0_0 s0_1 = some (r1,r2)) :
  Calls Tryz.prog 115 #[.pointer (some ⟨g,0,none⟩)] w fun e w'=>e = .returned (.string r1) ∧ IsS102 w0 w' g s0_0 r2 ∧ Below w0.heap.size w0 w' ∧ KeepBut w w' g none:=by
 have HI0:=am hI
 have HK:=am (KeepBut.refl w g none)
 have HL:=am hB.size
 clear hI
 have HW0:=am hB.size
 have HB:=am hB
 clear hB
 have H : ((spec_l20Rd_pick.f k s0_0 s0_1 3).bind fun bt630=>(if bt630.1 = 0 then ((spec_l20In.f k s0_0 bt630.2).bind fun bt632=>((spec_LinPort.f k bt632.1 bt632.2.1).bind fun t635=>(some (t635,bt632.2.2)))) else (if bt630.1 = 1 then ((some (([(⟨#[]⟩ : ByteArray),(⟨#[108,105,115,116]⟩ : ByteArray),(⟨#[117,115,101,114,32,97]⟩ : ByteArray),(⟨#[112,111,114,116,32,53,48,32,53,48,48]⟩ : ByteArray),(⟨#[112,111,114,116,32,49,48,48,32,57]⟩ : ByteArray),(⟨#[112,111,114,116,32,48,49,32,50]⟩ : ByteArray),(⟨#[112,111,114,116,32,49]⟩ : ByteArray),(⟨#[97,98,99,100,101,102,103,104,105,106,32,107,108,109,110,111]⟩ : ByteArray),(⟨#[112,111,114,116]⟩ : ByteArray),(⟨#[112,111,114,116,32,49,32,50,32,51]⟩ : ByteArray)] : List ByteArray) : List ByteArray)).bind fun y636=>((spec_l20Rd_pick.f k s0_0 bt630.2 10).bind fun bt639=>(if 0 ≤ bt639.1 then (if bt639.1 < (y636.length : Int) then (some (rdOf ByteArray.empty y636 bt639.1,bt639.2)) else (none)) else (none)))) else ((some (([(⟨#[97]⟩ : ByteArray),(⟨#[98,98]⟩ : ByteArray),(⟨#[103,101,116,32,102,105,108,101,49]⟩ : ByteArray),(⟨#[113,117,105,116]⟩ : ByteArray)] : List ByteArray) : List ByteArray)).bind fun y642=>((spec_l20Rd_pick.f k s0_0 bt630.2 4).bind fun bt645=>(if 0 ≤ bt645.1 then (if bt645.1 < (y642.length : Int) then (some (rdOf ByteArray.empty y642 bt645.1,bt645.2)) else (none)) else (none))))))) = some (r1,r2):=h
 clear h
 obtain ⟨⟨t630,t631⟩,A2,H⟩:=bse H
 try dsimp only at H
 by_cases c3 : t630 = 0
 ·rw [if_pos c3] at H
  have c3b0 : (t630 == 0) = true:=beq_iff_eq.mpr c3
  have c3b1 : (t630 != 0) = false:=bne_eq_false_iff_eq.mpr c3
  clear c3
  obtain ⟨⟨t632,t633,t634⟩,A4,H⟩:=bse H
  try dsimp only at H
  obtain ⟨t635,A5,H⟩:=bse H
  try dsimp only at H
  simp only [Option.some.injEq,Prod.mk.injEq] at H
  obtain ⟨rfl,rfl⟩:=H
  go_enter Tryz.func115,Tryz.ntmps115
  go_wp2_with (first | ((with_reducible refine gC 58 rfl ?_);refine gL (some 4) Tryz.func58 #[.pointer (some ⟨g,0,none⟩),.int .i64 3] ?_;(with_reducible refine (spec_l20Rd_pick.calls k g s0_0 s0_1 3 t630 t631 w0 _ ?side1 ?side2 A2.out).mono ?_);(case side1=>exact m8_);(case side2=>exact m9_);rintro e w6 ⟨rfl,hi,hb,hk⟩;refine ⟨_,rfl,?_⟩;replace HK:=am (KeepBut.trans m10_ hk (.inl rfl));replace HB:=am hb;replace HI0:=am hi;(try clear hb);(try clear hk);(try clear hi)) | ((with_reducible refine gC 93 rfl ?_);refine gL (some 8) Tryz.func93 #[.pointer (some ⟨g,0,none⟩)] ?_;(with_reducible refine (spec_l20In.calls k g s0_0 t631 t632 t633 t634 w0 _ ?side1 ?side2 A4.out).mono ?_);(case side1=>exact m8_);(case side2=>exact m9_);rintro e w7 ⟨rfl,hi,hb,hk⟩;refine ⟨_,rfl,?_⟩;replace HK:=am (KeepBut.trans m10_ hk (.inl rfl));replace HB:=am hb;replace HI0:=am hi;(try clear hb);(try clear hk);(try clear hi)) | ((with_reducible refine gC 113 rfl ?_);refine gL (some 9) Tryz.func113 #[.agg #[.int .i64 t632,.int .i64 t633]] ?_;(with_reducible refine (spec_LinPort.calls k t632 t633 t635 _ A5.out).mono ?_);rintro e w8 ⟨rfl,hb⟩;refine ⟨_,rfl,?_⟩;replace HK:=am (KeepBut.trans m10_ (KeepBut.of_below hb g none) (.inl rfl));replace HB:=am (below_step m9_ hb);replace HI0:=am (IsS102.below m8_ hb);(try clear hb)))
  go_ret
  exact ⟨fi_,m8_,m9_,m10_⟩
 ·rw [if_neg c3] at H
  have c3b0 : (t630 == 0) = false:=beq_eq_false_iff_ne.mpr c3
  have c3b1 : (t630 != 0) = true:=bne_iff_ne.mpr c3
  by_cases c9 : t630 = 1
  ·rw [if_pos c9] at H
   have c9b0 : (t630 == 1) = true:=beq_iff_eq.mpr c9
   have c9b1 : (t630 != 1) = false:=bne_eq_false_iff_eq.mpr c9
   clear c9
   obtain ⟨y636,hy636⟩ : ∃ y_ : List ByteArray,y_ = (([(⟨#[]⟩ : ByteArray),(⟨#[108,105,115,116]⟩ : ByteArray),(⟨#[117,115,101,114,32,97]⟩ : ByteArray),(⟨#[112,111,114,116,32,53,48,32,53,48,48]⟩ : ByteArray),(⟨#[112,111,114,116,32,49,48,48,32,57]⟩ : ByteArray),(⟨#[112,111,114,116,32,48,49,32,50]⟩ : ByteArray),(⟨#[112,111,114,116,32,49]⟩ : ByteArray),(⟨#[97,98,99,100,101,102,103,104,105,106,32,107,108,109,110,111]⟩ : ByteArray),(⟨#[112,111,114,116]⟩ : ByteArray),(⟨#[112,111,114,116,32,49,32,50,32,51]⟩ : ByteArray)] : List ByteArray)):=⟨_,rfl⟩
   replace H : ((spec_l20Rd_pick.f k s0_0 t631 10).bind fun bt639=>(if 0 ≤ bt639.1 then (if bt639.1 < (y636.length : Int) then (some (rdOf ByteArray.empty y636 bt639.1,bt639.2)) else (none)) else (none))) = some (r1,r2):=by first | (rw [hy636];with_reducible exact H) | (have H2_:=(Option.bind_some _ _).symm.trans H;rw [hy636];with_reducible exact H2_) | (have H2_:=(Option.bind_some _ _).symm.trans H;with_reducible exact H2_) | with_reducible exact H | (rw [hy636];exact H) | exact H
   have Ny636:=am hy636
   clear hy636
   obtain ⟨⟨t639,t640⟩,A10,H⟩:=bse H
   try dsimp only at H
   by_cases c11 : 0 ≤ t639
   ·rw [if_pos c11] at H
    have c11b0 : decide (0 ≤ t639) = true:=decide_eq_true c11
    clear c11
    by_cases c12 : t639 < (y636.length : Int)
    ·rw [if_pos c12] at H
     have c12b0 : decide (t639 < (y636.length : Int)) = true:=decide_eq_true c12
     clear c12
     simp only [Option.some.injEq,Prod.mk.injEq] at H
     obtain ⟨rfl,rfl⟩:=H
     go_enter Tryz.func115,Tryz.ntmps115
     go_wp2_with (first | ((with_reducible refine gC 58 rfl ?_);refine gL (some 4) Tryz.func58 #[.pointer (some ⟨g,0,none⟩),.int .i64 3] ?_;(with_reducible refine (spec_l20Rd_pick.calls k g s0_0 s0_1 3 t630 t631 w0 _ ?side1 ?side2 A2.out).mono ?_);(case side1=>exact m8_);(case side2=>exact m9_);rintro e w13 ⟨rfl,hi,hb,hk⟩;refine ⟨_,rfl,?_⟩;replace HK:=am (KeepBut.trans m10_ hk (.inl rfl));replace HB:=am hb;replace HI0:=am hi;(try clear hb);(try clear hk);(try clear hi)) | ((with_reducible refine gD 12 rfl ?_);refine Kd.R_lit Kd.string _ 9 rfl (N:=12) rfl (xs:=([(⟨#[]⟩ : ByteArray),(⟨#[108,105,115,116]⟩ : ByteArray),(⟨#[117,115,101,114,32,97]⟩ : ByteArray),(⟨#[112,111,114,116,32,53,48,32,53,48,48]⟩ : ByteArray),(⟨#[112,111,114,116,32,49,48,48,32,57]⟩ : ByteArray),(⟨#[112,111,114,116,32,48,49,32,50]⟩ : ByteArray),(⟨#[112,111,114,116,32,49]⟩ : ByteArray),(⟨#[97,98,99,100,101,102,103,104,105,106,32,107,108,109,110,111]⟩ : ByteArray),(⟨#[112,111,114,116]⟩ : ByteArray),(⟨#[112,111,114,116,32,49,32,50,32,51]⟩ : ByteArray)] : List ByteArray)) (inner:=[.string (⟨#[]⟩ : ByteArray),.string (⟨#[108,105,115,116]⟩ : ByteArray),.string (⟨#[117,115,101,114,32,97]⟩ : ByteArray),.string (⟨#[112,111,114,116,32,53,48,32,53,48,48]⟩ : ByteArray),.string (⟨#[112,111,114,116,32,49,48,48,32,57]⟩ : ByteArray),.string (⟨#[112,111,114,116,32,48,49,32,50]⟩ : ByteArray),.string (⟨#[112,111,114,116,32,49]⟩ : ByteArray),.string (⟨#[97,98,99,100,101,102,103,104,105,106,32,107,108,109,110,111]⟩ : ByteArray),.string (⟨#[112,111,114,116]⟩ : ByteArray),.string (⟨#[112,111,114,116,32,49,32,50,32,51]⟩ : ByteArray)]) (ok:=fun _=>True) (okp:=fun _=>True) hr_ ?hp (fun _ hk=>hk) trivial (Below.refl _ _) (Nat.le_refl _) (by simp) ?_;(case hp=>exact (Reps.one (show Kd.M Kd.string _ _ _ (⟨#[]⟩ : ByteArray) [.string (⟨#[]⟩ : ByteArray)] from rfl) (Reps.one (show Kd.M Kd.string _ _ _ (⟨#[108,105,115,116]⟩ : ByteArray) [.string (⟨#[108,105,115,116]⟩ : ByteArray)] from rfl) (Reps.one (show Kd.M Kd.string _ _ _ (⟨#[117,115,101,114,32,97]⟩ : ByteArray) [.string (⟨#[117,115,101,114,32,97]⟩ : ByteArray)] from rfl) (Reps.one (show Kd.M Kd.string _ _ _ (⟨#[112,111,114,116,32,53,48,32,53,48,48]⟩ : ByteArray) [.string (⟨#[112,111,114,116,32,53,48,32,53,48,48]⟩ : ByteArray)] from rfl) (Reps.one (show Kd.M Kd.string _ _ _ (⟨#[112,111,114,116,32,49,48,48,32,57]⟩ : ByteArray) [.string (⟨#[112,111,114,116,32,49,48,48,32,57]⟩ : ByteArray)] from rfl) (Reps.one (show Kd.M Kd.string _ _ _ (⟨#[112,111,114,116,32,48,49,32,50]⟩ : ByteArray) [.string (⟨#[112,111,114,116,32,48,49,32,50]⟩ : ByteArray)] from rfl) (Reps.one (show Kd.M Kd.string _ _ _ (⟨#[112,111,114,116,32,49]⟩ : ByteArray) [.string (⟨#[112,111,114,116,32,49]⟩ : ByteArray)] from rfl) (Reps.one (show Kd.M Kd.string _ _ _ (⟨#[97,98,99,100,101,102,103,104,105,106,32,107,108,109,110,111]⟩ : ByteArray) [.string (⟨#[97,98,99,100,101,102,103,104,105,106,32,107,108,109,110,111]⟩ : ByteArray)] from rfl) (Reps.one (show Kd.M Kd.string _ _ _ (⟨#[112,111,114,116]⟩ : ByteArray) [.string (⟨#[112,111,114,116]⟩ : ByteArray)] from rfl) (Reps.one (show Kd.M Kd.string _ _ _ (⟨#[112,111,114,116,32,49,32,50,32,51]⟩ : ByteArray) [.string (⟨#[112,111,114,116,32,49,32,50,32,51]⟩ : ByteArray)] from rfl) (Reps.none _ _))))))))))));intro v637 w14 ho15 hb hg_ hnew_;clear hg_ hnew_;(first | rw [← Ny636.out] at ho15 | (simp only [Int.reduceToNat] at ho15;rw [← Ny636.out] at ho15));have HO638:=am (Kd.R_lower ho15 (keep_size (w:=w) (g:=g) (row:=none) m10_));replace HK:=am (KeepBut.trans m10_ (KeepBut.of_below hb g none) (.inl rfl));replace HB:=am (below_step m9_ hb);replace HI0:=am (IsS102.below m8_ hb);clear hb ho15) | ((with_reducible refine gC 58 rfl ?_);refine gL (some 14) Tryz.func58 #[.pointer (some ⟨g,0,none⟩),.int .i64 10] ?_;(with_reducible refine (spec_l20Rd_pick.calls k g s0_0 t631 10 t639 t640 w0 _ ?side1 ?side2 A10.out).mono ?_);(case side1=>exact m8_);(case side2=>exact m9_);rintro e w16 ⟨rfl,hi,hb,hk⟩;refine ⟨_,rfl,?_⟩;replace HO638:=am (Kd.R_mono (Kd.R_keep (IsS102.apart (show IsS102 w0 _ g s0_0 t631 from m8_) (rs HO638) (by decide)) hk (fun _ h=>h.2)) (fun _ h=>h.1));replace HK:=am (KeepBut.trans m10_ hk (.inl rfl));replace HB:=am hb;replace HI0:=am hi;(try clear hb);(try clear hk);(try clear hi);obtain ⟨Ao17,co17,eo17⟩:=Kd.R_slice HO638.out;subst eo17;have p641 : 0 ≤ (t639 : Int):=of_decide_eq_true da_;have q641 : t639 < (y636.length : Int):=of_decide_eq_true da_;obtain ⟨ad641,e641,hx641_0⟩:=Kd.at_string (Kd.R_reads' HO638.out).2.2 t639 p641 q641;cases e641;replace p641:=eq_true p641;replace q641:=eq_true q641))
     go_ret
     exact ⟨fi_,m8_,m9_,m10_⟩
    ·rw [if_neg c12] at H
     exact absurd H (by simp)
   ·rw [if_neg c11] at H
    exact absurd H (by simp)
  ·rw [if_neg c9] at H
   have c9b0 : (t630 == 1) = false:=beq_eq_false_iff_ne.mpr c9
   have c9b1 : (t630 != 1) = true:=bne_iff_ne.mpr c9
   obtain ⟨y642,hy642⟩ : ∃ y_ : List ByteArray,y_ = (([(⟨#[97]⟩ : ByteArray),(⟨#[98,98]⟩ : ByteArray),(⟨#[103,101,116,32,102,105,108,101,49]⟩ : ByteArray),(⟨#[113,117,105,116]⟩ : ByteArray)] : List ByteArray)):=⟨_,rfl⟩
   replace H : ((spec_l20Rd_pick.f k s0_0 t631 4).bind fun bt645=>(if 0 ≤ bt645.1 then (if bt645.1 < (y642.length : Int) then (some (rdOf ByteArray.empty y642 bt645.1,bt645.2)) else (none)) else (none))) = some (r1,r2):=by first | (rw [hy642];with_reducible exact H) | (have H2_:=(Option.bind_some _ _).symm.trans H;rw [hy642];with_reducible exact H2_) | (have H2_:=(Option.bind_some _ _).symm.trans H;with_reducible exact H2_) | with_reducible exact H | (rw [hy642];exact H) | exact H
   have Ny642:=am hy642
   clear hy642
   obtain ⟨⟨t645,t646⟩,A18,H⟩:=bse H
   try dsimp only at H
   by_cases c19 : 0 ≤ t645
   ·rw [if_pos c19] at H
    have c19b0 : decide (0 ≤ t645) = true:=decide_eq_true c19
    clear c19
    by_cases c20 : t645 < (y642.length : Int)
    ·rw [if_pos c20] at H
     have c20b0 : decide (t645 < (y642.length : Int)) = true:=decide_eq_true c20
     clear c20
     simp only [Option.some.injEq,Prod.mk.injEq] at H
     obtain ⟨rfl,rfl⟩:=H
     go_enter Tryz.func115,Tryz.ntmps115
     go_wp2_with (first | ((with_reducible refine gC 58 rfl ?_);refine gL (some 4) Tryz.func58 #[.pointer (some ⟨g,0,none⟩),.int .i64 3] ?_;(with_reducible refine (spec_l20Rd_pick.calls k g s0_0 s0_1 3 t630 t631 w0 _ ?side1 ?side2 A2.out).mono ?_);(case side1=>exact m8_);(case side2=>exact m9_);rintro e w21 ⟨rfl,hi,hb,hk⟩;refine ⟨_,rfl,?_⟩;replace HK:=am (KeepBut.trans m10_ hk (.inl rfl));replace HB:=am hb;replace HI0:=am hi;(try clear hb);(try clear hk);(try clear hi)) | ((with_reducible refine gD 17 rfl ?_);refine Kd.R_lit Kd.string _ 9 rfl (N:=17) rfl (xs:=([(⟨#[97]⟩ : ByteArray),(⟨#[98,98]⟩ : ByteArray),(⟨#[103,101,116,32,102,105,108,101,49]⟩ : ByteArray),(⟨#[113,117,105,116]⟩ : ByteArray)] : List ByteArray)) (inner:=[.string (⟨#[97]⟩ : ByteArray),.string (⟨#[98,98]⟩ : ByteArray),.string (⟨#[103,101,116,32,102,105,108,101,49]⟩ : ByteArray),.string (⟨#[113,117,105,116]⟩ : ByteArray)]) (ok:=fun _=>True) (okp:=fun _=>True) hr_ ?hp (fun _ hk=>hk) trivial (Below.refl _ _) (Nat.le_refl _) (by simp) ?_;(case hp=>exact (Reps.one (show Kd.M Kd.string _ _ _ (⟨#[97]⟩ : ByteArray) [.string (⟨#[97]⟩ : ByteArray)] from rfl) (Reps.one (show Kd.M Kd.string _ _ _ (⟨#[98,98]⟩ : ByteArray) [.string (⟨#[98,98]⟩ : ByteArray)] from rfl) (Reps.one (show Kd.M Kd.string _ _ _ (⟨#[103,101,116,32,102,105,108,101,49]⟩ : ByteArray) [.string (⟨#[103,101,116,32,102,105,108,101,49]⟩ : ByteArray)] from rfl) (Reps.one (show Kd.M Kd.string _ _ _ (⟨#[113,117,105,116]⟩ : ByteArray) [.string (⟨#[113,117,105,116]⟩ : ByteArray)] from rfl) (Reps.none _ _))))));intro v643 w22 ho23 hb hg_ hnew_;clear hg_ hnew_;(first | rw [← Ny642.out] at ho23 | (simp only [Int.reduceToNat] at ho23;rw [← Ny642.out] at ho23));have HO644:=am (Kd.R_lower ho23 (keep_size (w:=w) (g:=g) (row:=none) m10_));replace HK:=am (KeepBut.trans m10_ (KeepBut.of_below hb g none) (.inl rfl));replace HB:=am (below_step m9_ hb);replace HI0:=am (IsS102.below m8_ hb);clear hb ho23) | ((with_reducible refine gC 58 rfl ?_);refine gL (some 19) Tryz.func58 #[.pointer (some ⟨g,0,none⟩),.int .i64 4] ?_;(with_reducible refine (spec_l20Rd_pick.calls k g s0_0 t631 4 t645 t646 w0 _ ?side1 ?side2 A18.out).mono ?_);(case side1=>exact m8_);(case side2=>exact m9_);rintro e w24 ⟨rfl,hi,hb,hk⟩;refine ⟨_,rfl,?_⟩;replace HO644:=am (Kd.R_mono (Kd.R_keep (IsS102.apart (show IsS102 w0 _ g s0_0 t631 from m8_) (rs HO644) (by decide)) hk (fun _ h=>h.2)) (fun _ h=>h.1));replace HK:=am (KeepBut.trans m10_ hk (.inl rfl));replace HB:=am hb;replace HI0:=am hi;(try clear hb);(try clear hk);(try clear hi);obtain ⟨Ao25,co25,eo25⟩:=Kd.R_slice HO644.out;subst eo25;have p647 : 0 ≤ (t645 : Int):=of_decide_eq_true da_;have q647 : t645 < (y642.length : Int):=of_decide_eq_true da_;obtain ⟨ad647,e647,hx647_0⟩:=Kd.at_string (Kd.R_reads' HO644.out).2.2 t645 p647 q647;cases e647;replace p647:=eq_true p647;replace q647:=eq_true q647))
     go_ret
     exact ⟨fi_,m8_,m9_,m10_⟩
    ·rw [if_neg c20] at H
     exact absurd H (by simp)
   ·rw [if_neg c19] at H
    exact absurd H (by simp)
def spec_l20Stream.l0 : Nat → ByteArray → Int → List Int → Int → Option (ByteArray × Int)
 | 0,_,_,_,_=>none
 | k + 1,x3,x4,x1000,x1001=>if x4 > 0 then ((spec_l20Line.f k x1000 x1001).bind fun bt650=>(if x3.size + bt650.1.size ≤ 9223372036854775807 then (if (x3 ++ bt650.1).size + 1 ≤ 9223372036854775807 then (if (((x3 ++ bt650.1) ++ (⟨#[59]⟩ : ByteArray)).size : Int) ≤ 120 then (spec_l20Stream.l0 k ((x3 ++ bt650.1) ++ (⟨#[59]⟩ : ByteArray)) (wrap64 (x4 - 1)) x1000 bt650.2) else (spec_l20Stream.l0 k x3 (wrap64 (x4 - 1)) x1000 bt650.2)) else (none)) else (none))) else ((spec_l20Rd_pick.f k x1000 x1001 3).bind fun bt652=>(if bt652.1 = 0 then ((spec_l20Line.f k x1000 bt652.2).bind fun bt654=>(if (wrap64 ((x3.size : Int) + (bt654.1.size : Int))) ≤ 120 then (if x3.size + bt654.1.size ≤ 9223372036854775807 then (some (x3 ++ bt654.1,bt654.2)) else (none)) else (some (x3,bt654.2)))) else (some (x3,bt652.2))))
def spec_l20Stream.f (k : Nat) (s0_0 : List Int) (s0_1 : Int) : Option (ByteArray × Int):=(spec_l20Rd_pick.f k s0_0 s0_1 9).bind fun bt648=>(spec_l20Stream.l0 k (⟨#[]⟩ : ByteArray) bt648.1 s0_0 bt648.2)
theorem spec_l20Stream.mono_l : ∀ k,(∀ y0 y1 y2 y3,LeO (spec_l20Stream.l0 k y0 y1 y2 y3) (spec_l20Stream.l0 (k + 1) y0 y1 y2 y3))
 | 0=>fun _ _ _ _ r h=>by simp [spec_l20Stream.l0] at h
 | k + 1=>by
  have ih0:=spec_l20Stream.mono_l k
  ·intro y0 y1 y2 y3
   unfold spec_l20Stream.l0
   repeat' first | (with_reducible first | exact ih0 _ _ _ _ | exact spec_l20Line.mono _ _ _ | exact spec_l20Rd_pick.mono _ _ _ _ | exact LeO.refl _ | exact LeO.none _ | refine LeO.ite ?_ ?_ | refine LeO.bind ?_ (fun _=>?_)) | exact ih0 _ _ _ _ | exact spec_l20Line.mono _ _ _ | exact spec_l20Rd_pick.mono _ _ _ _ | exact LeO.none _ | refine LeO.ite ?_ ?_ | refine LeO.bind ?_ (fun _=>?_)
theorem spec_l20Stream.mono : ∀ a0 a1 k,LeO (spec_l20Stream.f k a0 a1) (spec_l20Stream.f (k + 1) a0 a1):=by
 intro a0 a1 k
 have ih0:=spec_l20Stream.mono_l k
 unfold spec_l20Stream.f
 repeat' first | (with_reducible first | exact ih0 _ _ _ _ | exact spec_l20Line.mono _ _ _ | exact spec_l20Rd_pick.mono _ _ _ _ | exact LeO.refl _ | exact LeO.none _ | refine LeO.ite ?_ ?_ | refine LeO.bind ?_ (fun _=>?_)) | exact ih0 _ _ _ _ | exact spec_l20Line.mono _ _ _ | exact spec_l20Rd_pick.mono _ _ _ _ | exact LeO.none _ | refine LeO.ite ?_ ?_ | refine LeO.bind ?_ (fun _=>?_)
set_option maxHeartbeats 8000000 in
set_option maxRecDepth 100000 in
theorem spec_l20Stream.calls (k : Nat) (g : Nat) (s0_0 : List Int) (s0_1 : Int) (r1 : ByteArray) (r2 : Int) (w0 w : World) (hI : IsS102 w0 w g s0_0 s0_1) (hB : Below w0.heap.size w0 w) (h : spec_l20Stream.f k s0_0 s0_1 = some (r1,r2)) :
  Calls Tryz.prog 96 #[.pointer (some ⟨g,0,none⟩)] w fun e w'=>e = .returned (.string r1) ∧ IsS102 w0 w' g s0_0 r2 ∧ Below w0.heap.size w0 w' ∧ KeepBut w w' g none:=by
 have HI0:=am hI
 have HK:=am (KeepBut.refl w g none)
 have HL:=am hB.size
 clear hI
 have HW0:=am hB.size
 have HB:=am hB
 clear hB
 have H : ((spec_l20Rd_pick.f k s0_0 s0_1 9).bind fun bt648=>(spec_l20Stream.l0 k (⟨#[]⟩ : ByteArray) bt648.1 s0_0 bt648.2)) = some (r1,r2):=h
 clear h
 obtain ⟨⟨t648,t649⟩,A2,H⟩:=bse H
 try dsimp only at H
 have H':=am H
 clear H
 go_enter Tryz.func96,Tryz.ntmps96
 go_wp2_with (first | ((with_reducible refine gC 58 rfl ?_);refine gL (some 8) Tryz.func58 #[.pointer (some ⟨g,0,none⟩),.int .i64 9] ?_;(with_reducible refine (spec_l20Rd_pick.calls k g s0_0 s0_1 9 t648 t649 w0 _ ?side1 ?side2 A2.out).mono ?_);(case side1=>exact m8_);(case side2=>exact m9_);rintro e w3 ⟨rfl,hi,hb,hk⟩;refine ⟨_,rfl,?_⟩;replace HK:=am (KeepBut.trans m10_ hk (.inl rfl));replace HB:=am hb;replace HI0:=am hi;(try clear hb);(try clear hk);(try clear hi)))
 go_loopg [3,4] k (fun kq v3 v4 w'=>∃ (x3_1 : ByteArray) (x4_1 : Int) (x1001_1 : Int),v3 = .string x3_1 ∧ v4 = .int .i64 x4_1 ∧ Aside0 (spec_l20Stream.l0 kq x3_1 x4_1 s0_0 x1001_1 = some (r1,r2)) ∧ Aside0 (kq ≤ k) ∧ Aside0 (IsS102 w0 w' g s0_0 x1001_1) ∧ Aside0 (KeepBut w w' g none) ∧ Aside0 (Below w0.heap.size w0 w'))
 case atStart=>exact ⟨((⟨#[]⟩ : ByteArray)),(t648),(t649),rs_,rs_,H',⟨Nat.le_refl _⟩,⟨m8_⟩,⟨m10_⟩,⟨m9_⟩⟩
 case round=>
  clear H'
  try clear p2
  obtain ⟨x3_1,x4_1,x1001_1,rfl,rfl,HA,HK1,HI0,HK,HB⟩:=hrel
  cases gk with
  | zero=>exact absurd HA.out (by simp [spec_l20Stream.l0])
  | succ k1=>
   have H:=HA.out
   clear HA
   simp only [spec_l20Stream.l0] at H
   by_cases c4 : x4_1 > 0
   ·rw [if_pos c4] at H
    have c4b0 : decide (0 < x4_1) = true:=decide_eq_true c4
    clear c4
    obtain ⟨⟨t650,t651⟩,A5,H⟩:=bse H
    try dsimp only at H
    by_cases c6 : x3_1.size + t650.size ≤ 9223372036854775807
    ·rw [if_pos c6] at H
     have c6b0:=eq_true c6
     have c6b1 : decide (x3_1.size + t650.size ≤ 9223372036854775807) = true:=decide_eq_true c6
     try have c6b2 : (9223372036854775807 < x3_1.size + t650.size) = False:=eq_false (Nat.not_lt.2 c6)
     by_cases c7 : (x3_1 ++ t650).size + 1 ≤ 9223372036854775807
     ·rw [if_pos c7] at H
      have c7b0:=eq_true c7
      have c7b1 : decide ((x3_1 ++ t650).size + 1 ≤ 9223372036854775807) = true:=decide_eq_true c7
      try have c7b2 : (9223372036854775807 < (x3_1 ++ t650).size + 1) = False:=eq_false (Nat.not_lt.2 c7)
      try have c7b3 : (9223372036854775807 < x3_1.size + t650.size + 1) = False:=(by have z_:=c7b2;simp only [ByteArray.size_append] at z_;exact z_)
      by_cases c8 : (((x3_1 ++ t650) ++ (⟨#[59]⟩ : ByteArray)).size : Int) ≤ 120
      ·rw [if_pos c8] at H
       have c8b0 : decide ((((x3_1 ++ t650) ++ (⟨#[59]⟩ : ByteArray)).size : Int) ≤ 120) = true:=decide_eq_true c8
       have c8b1 : decide (((x3_1 ++ t650) ++ (⟨#[59]⟩ : ByteArray)).size ≤ 120) = true:=decide_eq_true (by omega)
       try have c8b3 : decide ((x3_1.size : Int) + (t650.size : Int) + 1 ≤ 120) = true:=(by have z_:=c8b0;simp only [ByteArray.size_append,Int.natCast_add] at z_;exact z_)
       clear c8
       have H':=am H
       clear H
       go_wp2_with (first | ((with_reducible refine gC 115 rfl ?_);refine gL (some 15) Tryz.func115 #[.pointer (some ⟨g,0,none⟩)] ?_;(with_reducible refine (spec_l20Line.calls k1 g s0_0 x1001_1 t650 t651 w0 _ ?side1 ?side2 A5.out).mono ?_);(case side1=>exact m8_);(case side2=>exact m9_);rintro e w9 ⟨rfl,hi,hb,hk⟩;refine ⟨_,rfl,?_⟩;replace HK:=am (KeepBut.trans m10_ hk (.inl rfl));replace HB:=am hb;replace HI0:=am hi;(try clear hb);(try clear hk);(try clear hi)))
       go_roundg k1
       case measure=>have:=HK1.out;omega
       case rel=>exact ⟨((x3_1 ++ t650) ++ (⟨#[59]⟩ : ByteArray)),(wrap64 (x4_1 - 1)),(t651),rs_,rs_,H',⟨by have:=HK1.out;omega⟩,⟨m8_⟩,⟨m10_⟩,⟨m9_⟩⟩
      ·rw [if_neg c8] at H
       have c8b0 : decide ((((x3_1 ++ t650) ++ (⟨#[59]⟩ : ByteArray)).size : Int) ≤ 120) = false:=decide_eq_false c8
       have c8b1 : decide (((x3_1 ++ t650) ++ (⟨#[59]⟩ : ByteArray)).size ≤ 120) = false:=decide_eq_false (by omega)
       try have c8b3 : decide ((x3_1.size : Int) + (t650.size : Int) + 1 ≤ 120) = false:=(by have z_:=c8b0;simp only [ByteArray.size_append,Int.natCast_add] at z_;exact z_)
       clear c8
       have H':=am H
       clear H
       go_wp2_with (first | ((with_reducible refine gC 115 rfl ?_);refine gL (some 15) Tryz.func115 #[.pointer (some ⟨g,0,none⟩)] ?_;(with_reducible refine (spec_l20Line.calls k1 g s0_0 x1001_1 t650 t651 w0 _ ?side1 ?side2 A5.out).mono ?_);(case side1=>exact m8_);(case side2=>exact m9_);rintro e w10 ⟨rfl,hi,hb,hk⟩;refine ⟨_,rfl,?_⟩;replace HK:=am (KeepBut.trans m10_ hk (.inl rfl));replace HB:=am hb;replace HI0:=am hi;(try clear hb);(try clear hk);(try clear hi)))
       go_roundg k1
       case measure=>have:=HK1.out;omega
       case rel=>exact ⟨(x3_1),(wrap64 (x4_1 - 1)),(t651),rs_,rs_,H',⟨by have:=HK1.out;omega⟩,⟨m8_⟩,⟨m10_⟩,⟨m9_⟩⟩
     ·rw [if_neg c7] at H
      exact absurd H (by simp)
    ·rw [if_neg c6] at H
     exact absurd H (by simp)
   ·rw [if_neg c4] at H
    have c4b0 : decide (0 < x4_1) = false:=decide_eq_false c4
    clear c4
    obtain ⟨⟨t652,t653⟩,A11,H⟩:=bse H
    try dsimp only at H
    by_cases c12 : t652 = 0
    ·rw [if_pos c12] at H
     have c12b0 : (t652 == 0) = true:=beq_iff_eq.mpr c12
     have c12b1 : (t652 != 0) = false:=bne_eq_false_iff_eq.mpr c12
     clear c12
     obtain ⟨⟨t654,t655⟩,A13,H⟩:=bse H
     try dsimp only at H
     by_cases c14 : (wrap64 ((x3_1.size : Int) + (t654.size : Int))) ≤ 120
     ·rw [if_pos c14] at H
      have c14b0 : decide ((wrap64 ((x3_1.size : Int) + (t654.size : Int))) ≤ 120) = true:=decide_eq_true c14
      clear c14
      by_cases c15 : x3_1.size + t654.size ≤ 9223372036854775807
      ·rw [if_pos c15] at H
       have c15b0:=eq_true c15
       have c15b1 : decide (x3_1.size + t654.size ≤ 9223372036854775807) = true:=decide_eq_true c15
       try have c15b2 : (9223372036854775807 < x3_1.size + t654.size) = False:=eq_false (Nat.not_lt.2 c15)
       try have c15b5 : decide ((x3_1.size : Int) + (t654.size : Int) ≤ 120) = true:=(by have z_:=of_decide_eq_true c14b0;have y_:=of_decide_eq_true c15b1;unfold wrap64 at z_;exact decide_eq_true (by omega))
       simp only [Option.some.injEq,Prod.mk.injEq] at H
       obtain ⟨rfl,rfl⟩:=H
       go_wp2_with (first | ((with_reducible refine gC 58 rfl ?_);refine gL (some 23) Tryz.func58 #[.pointer (some ⟨g,0,none⟩),.int .i64 3] ?_;(with_reducible refine (spec_l20Rd_pick.calls k1 g s0_0 x1001_1 3 t652 t653 w0 _ ?side1 ?side2 A11.out).mono ?_);(case side1=>exact m8_);(case side2=>exact m9_);rintro e w16 ⟨rfl,hi,hb,hk⟩;refine ⟨_,rfl,?_⟩;replace HK:=am (KeepBut.trans m10_ hk (.inl rfl));replace HB:=am hb;replace HI0:=am hi;(try clear hb);(try clear hk);(try clear hi)) | ((with_reducible refine gC 115 rfl ?_);refine gL (some 26) Tryz.func115 #[.pointer (some ⟨g,0,none⟩)] ?_;(with_reducible refine (spec_l20Line.calls k1 g s0_0 t653 t654 t655 w0 _ ?side1 ?side2 A13.out).mono ?_);(case side1=>exact m8_);(case side2=>exact m9_);rintro e w17 ⟨rfl,hi,hb,hk⟩;refine ⟨_,rfl,?_⟩;replace HK:=am (KeepBut.trans m10_ hk (.inl rfl));replace HB:=am hb;replace HI0:=am hi;(try clear hb);(try clear hk);(try clear hi)))
       go_ret
       exact ⟨fi_,m8_,m9_,m10_⟩
      ·rw [if_neg c15] at H
       exact absurd H (by simp)
     ·rw [if_neg c14] at H
      have c14b0 : decide ((wrap64 ((x3_1.size : Int) + (t654.size : Int))) ≤ 120) = false:=decide_eq_false c14
      clear c14
      simp only [Option.some.injEq,Prod.mk.injEq] at H
      obtain ⟨rfl,rfl⟩:=H
      go_wp2_with (first | ((with_reducible refine gC 58 rfl ?_);refine gL (some 23) Tryz.func58 #[.pointer (some ⟨g,0,none⟩),.int .i64 3] ?_;(with_reducible refine (spec_l20Rd_pick.calls k1 g s0_0 x1001_1 3 t652 t653 w0 _ ?side1 ?side2 A11.out).mono ?_);(case side1=>exact m8_);(case side2=>exact m9_);rintro e w18 ⟨rfl,hi,hb,hk⟩;refine ⟨_,rfl,?_⟩;replace HK:=am (KeepBut.trans m10_ hk (.inl rfl));replace HB:=am hb;replace HI0:=am hi;(try clear hb);(try clear hk);(try clear hi)) | ((with_reducible refine gC 115 rfl ?_);refine gL (some 26) Tryz.func115 #[.pointer (some ⟨g,0,none⟩)] ?_;(with_reducible refine (spec_l20Line.calls k1 g s0_0 t653 t654 t655 w0 _ ?side1 ?side2 A13.out).mono ?_);(case side1=>exact m8_);(case side2=>exact m9_);rintro e w19 ⟨rfl,hi,hb,hk⟩;refine ⟨_,rfl,?_⟩;replace HK:=am (KeepBut.trans m10_ hk (.inl rfl));replace HB:=am hb;replace HI0:=am hi;(try clear hb);(try clear hk);(try clear hi)))
      go_ret
      exact ⟨fi_,m8_,m9_,m10_⟩
    ·rw [if_neg c12] at H
     have c12b0 : (t652 == 0) = false:=beq_eq_false_iff_ne.mpr c12
     have c12b1 : (t652 != 0) = true:=bne_iff_ne.mpr c12
     simp only [Option.some.injEq,Prod.mk.injEq] at H
     obtain ⟨rfl,rfl⟩:=H
     go_wp2_with (first | ((with_reducible refine gC 58 rfl ?_);refine gL (some 23) Tryz.func58 #[.pointer (some ⟨g,0,none⟩),.int .i64 3] ?_;(with_reducible refine (spec_l20Rd_pick.calls k1 g s0_0 x1001_1 3 t652 t653 w0 _ ?side1 ?side2 A11.out).mono ?_);(case side1=>exact m8_);(case side2=>exact m9_);rintro e w20 ⟨rfl,hi,hb,hk⟩;refine ⟨_,rfl,?_⟩;replace HK:=am (KeepBut.trans m10_ hk (.inl rfl));replace HB:=am hb;replace HI0:=am hi;(try clear hb);(try clear hk);(try clear hi)))
     go_ret
     exact ⟨fi_,m8_,m9_,m10_⟩
end
end Go.Proofs.YtakfmcpjnkagmaaGreatDoor.P
