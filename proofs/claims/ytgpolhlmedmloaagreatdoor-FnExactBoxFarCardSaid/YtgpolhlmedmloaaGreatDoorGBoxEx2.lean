import Derived.Test.YtgpolhlmedmloaaGreatDoorGBoxEx1
import Derived.Deep.Slices
import Derived.ChangeArms
import Derived.WideShapes
namespace Go.Proofs.YtgpolhlmedmloaaGreatDoor.P
open Go.Proofs.YtgpolhlmedmloaaGreatDoorUBoxE.PrintLast Go.Proofs.YtgpolhlmedmloaaGreatDoorUBoxE.PrintMore Go.Proofs.YtgpolhlmedmloaaGreatDoorUBoxE.PrintWords Go.RowKit
set_option linter.unusedVariables false
set_option linter.unusedSimpArgs false
section
attribute [local go_sem] max2_int min2_int max_two min_two max_three min_three max_four min_four
def laws_eqRulRule.f (a0_0 : Bool) (a0_1 : Int) (a0_2 : Int) (a0_3 : Int) (a0_4 : Int) (a0_5 : Int) (a0_6 : Int) (a1_0 : Bool) (a1_1 : Int) (a1_2 : Int) (a1_3 : Int) (a1_4 : Int) (a1_5 : Int) (a1_6 : Int) : Option (Bool):=if (a0_0 != a1_0) = true then (some false) else (if a0_1 = a1_1 then (if a0_2 = a1_2 then (if a0_3 = a1_3 then (if a0_4 = a1_4 then (if a0_5 = a1_5 then (if a0_6 = a1_6 then (some true) else (some false)) else (some false)) else (some false)) else (some false)) else (some false)) else (some false))
set_option maxHeartbeats 8000000 in
set_option maxRecDepth 100000 in
theorem laws_eqRulRule.calls (a0_0 : Bool) (a0_1 : Int) (a0_2 : Int) (a0_3 : Int) (a0_4 : Int) (a0_5 : Int) (a0_6 : Int) (a1_0 : Bool) (a1_1 : Int) (a1_2 : Int) (a1_3 : Int) (a1_4 : Int) (a1_5 : Int) (a1_6 : Int) (r : Bool) (w : World) (h : laws_eqRulRule.f a0_0 a0_1 a0_2 a0_3 a0_4 a0_5 a0_6 a1_0 a1_1 a1_2 a1_3 a1_4 a1_5 a1_6 = some r) :
  Calls Tryz.prog 121 #[.agg #[.bool a0_0,.int .i64 a0_1,.int .i64 a0_2,.int .i64 a0_3,.int .i64 a0_4,.int .i64 a0_5,.int .i64 a0_6],.agg #[.bool a1_0,.int .i64 a1_1,.int .i64 a1_2,.int .i64 a1_3,.int .i64 a1_4,.int .i64 a1_5,.int .i64 a1_6]] w fun e w'=>e = .returned (.bool r) ∧ Below w.heap.size w w':=by
 have hu35:=Tryz.underlying35;have HB:=am (Below.refl w.heap.size w);have H : (if (a0_0 != a1_0) = true then (some false) else (if a0_1 = a1_1 then (if a0_2 = a1_2 then (if a0_3 = a1_3 then (if a0_4 = a1_4 then (if a0_5 = a1_5 then (if a0_6 = a1_6 then (some true) else (some false)) else (some false)) else (some false)) else (some false)) else (some false)) else (some false))) = some r:=h;clear h
 by_cases c3 : (a0_0 != a1_0) = true
 ·rw [if_pos c3] at H;have c3b0 : (a0_0 != a1_0) = true:=c3;(try (have c3b1 : decide (a0_0 = a1_0) = false:=by simpa using c3));(try (have c3b2 : (a0_0 == a1_0) = false:=by simpa using c3));(try (have c3b3 : ¬ (a0_0 = a1_0):=by simpa using c3));clear c3;obtain rfl:=Option.some.inj H
  go_enter Tryz.func121,Tryz.ntmps121
  go_wp2_with (first | ((with_reducible refine gD 2 rfl ?_);refine box_event rfl (N:=2) rfl (cs:=#[.bool a0_0,.int .i64 a0_1,.int .i64 a0_2,.int .i64 a0_3,.int .i64 a0_4,.int .i64 a0_5,.int .i64 a0_6]) (t:=35) hr_ ?_;intro gb0 hg w4 hbox hb;have BK0:=am hbox;have GW0:=gwE HB hg;have GE0:=gwE HB hg;replace HB:=hbS HB hb;clear hb hbox hg) | ((with_reducible refine gD 3 rfl ?_);refine box_event rfl (N:=3) rfl (cs:=#[.bool a1_0,.int .i64 a1_1,.int .i64 a1_2,.int .i64 a1_3,.int .i64 a1_4,.int .i64 a1_5,.int .i64 a1_6]) (t:=35) hr_ ?_;intro gb1 hg w5 hbox hb;have BK1:=am hbox;have GW1:=gwE HB hg;have GE1:=gwE HB hg;replace HB:=hbS HB hb;have NB0_1:=neL BK0 hg;have NB1_0:=neG BK0 hg;replace BK0:=bkB BK0 hb;clear hb hbox hg;have:=NB0_1.out;have:=NB1_0.out;have ⟨_,_,_,_,_,_,_,_,_,_,_,_,_,_⟩:=cf7 BK0;have ⟨_,_,_,_,_,_,_,_,_,_,_,_,_,_⟩:=cf7 BK1))
  go_ret
  exact ⟨fi_,m4_⟩
 ·rw [if_neg c3] at H;have c3b0 : (a0_0 != a1_0) = false:=by simpa using c3
  (try (have c3b1 : decide (a0_0 = a1_0) = true:=by simpa using c3));(try (have c3b2 : (a0_0 == a1_0) = true:=by simpa using c3));clear c3
  by_cases c9 : a0_1 = a1_1
  ·rw [if_pos c9] at H;have c9b0 : (a0_1 == a1_1) = true:=beq_iff_eq.mpr c9;have c9b1 : (a0_1 != a1_1) = false:=bne_eq_false_iff_eq.mpr c9;clear c9
   by_cases c10 : a0_2 = a1_2
   ·rw [if_pos c10] at H;have c10b0 : (a0_2 == a1_2) = true:=beq_iff_eq.mpr c10;have c10b1 : (a0_2 != a1_2) = false:=bne_eq_false_iff_eq.mpr c10;clear c10
    by_cases c11 : a0_3 = a1_3
    ·rw [if_pos c11] at H;have c11b0 : (a0_3 == a1_3) = true:=beq_iff_eq.mpr c11;have c11b1 : (a0_3 != a1_3) = false:=bne_eq_false_iff_eq.mpr c11;clear c11
     by_cases c12 : a0_4 = a1_4
     ·rw [if_pos c12] at H;have c12b0 : (a0_4 == a1_4) = true:=beq_iff_eq.mpr c12;have c12b1 : (a0_4 != a1_4) = false:=bne_eq_false_iff_eq.mpr c12;clear c12
      by_cases c13 : a0_5 = a1_5
      ·rw [if_pos c13] at H;have c13b0 : (a0_5 == a1_5) = true:=beq_iff_eq.mpr c13;have c13b1 : (a0_5 != a1_5) = false:=bne_eq_false_iff_eq.mpr c13;clear c13
       by_cases c14 : a0_6 = a1_6
       ·rw [if_pos c14] at H;have c14b0 : (a0_6 == a1_6) = true:=beq_iff_eq.mpr c14;have c14b1 : (a0_6 != a1_6) = false:=bne_eq_false_iff_eq.mpr c14;clear c14;obtain rfl:=Option.some.inj H
        go_enter Tryz.func121,Tryz.ntmps121
        go_wp2_with (first | ((with_reducible refine gD 2 rfl ?_);refine box_event rfl (N:=2) rfl (cs:=#[.bool a0_0,.int .i64 a0_1,.int .i64 a0_2,.int .i64 a0_3,.int .i64 a0_4,.int .i64 a0_5,.int .i64 a0_6]) (t:=35) hr_ ?_;intro gb0 hg w15 hbox hb;have BK0:=am hbox;have GW0:=gwE HB hg;have GE0:=gwE HB hg;replace HB:=hbS HB hb;clear hb hbox hg) | ((with_reducible refine gD 3 rfl ?_);refine box_event rfl (N:=3) rfl (cs:=#[.bool a1_0,.int .i64 a1_1,.int .i64 a1_2,.int .i64 a1_3,.int .i64 a1_4,.int .i64 a1_5,.int .i64 a1_6]) (t:=35) hr_ ?_;intro gb1 hg w16 hbox hb;have BK1:=am hbox;have GW1:=gwE HB hg;have GE1:=gwE HB hg;replace HB:=hbS HB hb;have NB0_1:=neL BK0 hg;have NB1_0:=neG BK0 hg;replace BK0:=bkB BK0 hb;clear hb hbox hg;have:=NB0_1.out;have:=NB1_0.out;have ⟨_,_,_,_,_,_,_,_,_,_,_,_,_,_⟩:=cf7 BK0;have ⟨_,_,_,_,_,_,_,_,_,_,_,_,_,_⟩:=cf7 BK1))
        go_ret
        exact ⟨fi_,m4_⟩
       ·rw [if_neg c14] at H;have c14b0 : (a0_6 == a1_6) = false:=beq_eq_false_iff_ne.mpr c14;have c14b1 : (a0_6 != a1_6) = true:=bne_iff_ne.mpr c14;obtain rfl:=Option.some.inj H
        go_enter Tryz.func121,Tryz.ntmps121
        go_wp2_with (first | ((with_reducible refine gD 2 rfl ?_);refine box_event rfl (N:=2) rfl (cs:=#[.bool a0_0,.int .i64 a0_1,.int .i64 a0_2,.int .i64 a0_3,.int .i64 a0_4,.int .i64 a0_5,.int .i64 a0_6]) (t:=35) hr_ ?_;intro gb0 hg w20 hbox hb;have BK0:=am hbox;have GW0:=gwE HB hg;have GE0:=gwE HB hg;replace HB:=hbS HB hb;clear hb hbox hg) | ((with_reducible refine gD 3 rfl ?_);refine box_event rfl (N:=3) rfl (cs:=#[.bool a1_0,.int .i64 a1_1,.int .i64 a1_2,.int .i64 a1_3,.int .i64 a1_4,.int .i64 a1_5,.int .i64 a1_6]) (t:=35) hr_ ?_;intro gb1 hg w21 hbox hb;have BK1:=am hbox;have GW1:=gwE HB hg;have GE1:=gwE HB hg;replace HB:=hbS HB hb;have NB0_1:=neL BK0 hg;have NB1_0:=neG BK0 hg;replace BK0:=bkB BK0 hb;clear hb hbox hg;have:=NB0_1.out;have:=NB1_0.out;have ⟨_,_,_,_,_,_,_,_,_,_,_,_,_,_⟩:=cf7 BK0;have ⟨_,_,_,_,_,_,_,_,_,_,_,_,_,_⟩:=cf7 BK1))
        go_ret
        exact ⟨fi_,m4_⟩
      ·rw [if_neg c13] at H;have c13b0 : (a0_5 == a1_5) = false:=beq_eq_false_iff_ne.mpr c13;have c13b1 : (a0_5 != a1_5) = true:=bne_iff_ne.mpr c13;obtain rfl:=Option.some.inj H
       go_enter Tryz.func121,Tryz.ntmps121
       go_wp2_with (first | ((with_reducible refine gD 2 rfl ?_);refine box_event rfl (N:=2) rfl (cs:=#[.bool a0_0,.int .i64 a0_1,.int .i64 a0_2,.int .i64 a0_3,.int .i64 a0_4,.int .i64 a0_5,.int .i64 a0_6]) (t:=35) hr_ ?_;intro gb0 hg w25 hbox hb;have BK0:=am hbox;have GW0:=gwE HB hg;have GE0:=gwE HB hg;replace HB:=hbS HB hb;clear hb hbox hg) | ((with_reducible refine gD 3 rfl ?_);refine box_event rfl (N:=3) rfl (cs:=#[.bool a1_0,.int .i64 a1_1,.int .i64 a1_2,.int .i64 a1_3,.int .i64 a1_4,.int .i64 a1_5,.int .i64 a1_6]) (t:=35) hr_ ?_;intro gb1 hg w26 hbox hb;have BK1:=am hbox;have GW1:=gwE HB hg;have GE1:=gwE HB hg;replace HB:=hbS HB hb;have NB0_1:=neL BK0 hg;have NB1_0:=neG BK0 hg;replace BK0:=bkB BK0 hb;clear hb hbox hg;have:=NB0_1.out;have:=NB1_0.out;have ⟨_,_,_,_,_,_,_,_,_,_,_,_,_,_⟩:=cf7 BK0;have ⟨_,_,_,_,_,_,_,_,_,_,_,_,_,_⟩:=cf7 BK1))
       go_ret
       exact ⟨fi_,m4_⟩
     ·rw [if_neg c12] at H;have c12b0 : (a0_4 == a1_4) = false:=beq_eq_false_iff_ne.mpr c12;have c12b1 : (a0_4 != a1_4) = true:=bne_iff_ne.mpr c12;obtain rfl:=Option.some.inj H
      go_enter Tryz.func121,Tryz.ntmps121
      go_wp2_with (first | ((with_reducible refine gD 2 rfl ?_);refine box_event rfl (N:=2) rfl (cs:=#[.bool a0_0,.int .i64 a0_1,.int .i64 a0_2,.int .i64 a0_3,.int .i64 a0_4,.int .i64 a0_5,.int .i64 a0_6]) (t:=35) hr_ ?_;intro gb0 hg w30 hbox hb;have BK0:=am hbox;have GW0:=gwE HB hg;have GE0:=gwE HB hg;replace HB:=hbS HB hb;clear hb hbox hg) | ((with_reducible refine gD 3 rfl ?_);refine box_event rfl (N:=3) rfl (cs:=#[.bool a1_0,.int .i64 a1_1,.int .i64 a1_2,.int .i64 a1_3,.int .i64 a1_4,.int .i64 a1_5,.int .i64 a1_6]) (t:=35) hr_ ?_;intro gb1 hg w31 hbox hb;have BK1:=am hbox;have GW1:=gwE HB hg;have GE1:=gwE HB hg;replace HB:=hbS HB hb;have NB0_1:=neL BK0 hg;have NB1_0:=neG BK0 hg;replace BK0:=bkB BK0 hb;clear hb hbox hg;have:=NB0_1.out;have:=NB1_0.out;have ⟨_,_,_,_,_,_,_,_,_,_,_,_,_,_⟩:=cf7 BK0;have ⟨_,_,_,_,_,_,_,_,_,_,_,_,_,_⟩:=cf7 BK1))
      go_ret
      exact ⟨fi_,m4_⟩
    ·rw [if_neg c11] at H;have c11b0 : (a0_3 == a1_3) = false:=beq_eq_false_iff_ne.mpr c11;have c11b1 : (a0_3 != a1_3) = true:=bne_iff_ne.mpr c11;obtain rfl:=Option.some.inj H
     go_enter Tryz.func121,Tryz.ntmps121
     go_wp2_with (first | ((with_reducible refine gD 2 rfl ?_);refine box_event rfl (N:=2) rfl (cs:=#[.bool a0_0,.int .i64 a0_1,.int .i64 a0_2,.int .i64 a0_3,.int .i64 a0_4,.int .i64 a0_5,.int .i64 a0_6]) (t:=35) hr_ ?_;intro gb0 hg w35 hbox hb;have BK0:=am hbox;have GW0:=gwE HB hg;have GE0:=gwE HB hg;replace HB:=hbS HB hb;clear hb hbox hg) | ((with_reducible refine gD 3 rfl ?_);refine box_event rfl (N:=3) rfl (cs:=#[.bool a1_0,.int .i64 a1_1,.int .i64 a1_2,.int .i64 a1_3,.int .i64 a1_4,.int .i64 a1_5,.int .i64 a1_6]) (t:=35) hr_ ?_;intro gb1 hg w36 hbox hb;have BK1:=am hbox;have GW1:=gwE HB hg;have GE1:=gwE HB hg;replace HB:=hbS HB hb;have NB0_1:=neL BK0 hg;have NB1_0:=neG BK0 hg;replace BK0:=bkB BK0 hb;clear hb hbox hg;have:=NB0_1.out;have:=NB1_0.out;have ⟨_,_,_,_,_,_,_,_,_,_,_,_,_,_⟩:=cf7 BK0;have ⟨_,_,_,_,_,_,_,_,_,_,_,_,_,_⟩:=cf7 BK1))
     go_ret
     exact ⟨fi_,m4_⟩
   ·rw [if_neg c10] at H;have c10b0 : (a0_2 == a1_2) = false:=beq_eq_false_iff_ne.mpr c10;have c10b1 : (a0_2 != a1_2) = true:=bne_iff_ne.mpr c10;obtain rfl:=Option.some.inj H
    go_enter Tryz.func121,Tryz.ntmps121
    go_wp2_with (first | ((with_reducible refine gD 2 rfl ?_);refine box_event rfl (N:=2) rfl (cs:=#[.bool a0_0,.int .i64 a0_1,.int .i64 a0_2,.int .i64 a0_3,.int .i64 a0_4,.int .i64 a0_5,.int .i64 a0_6]) (t:=35) hr_ ?_;intro gb0 hg w40 hbox hb;have BK0:=am hbox;have GW0:=gwE HB hg;have GE0:=gwE HB hg;replace HB:=hbS HB hb;clear hb hbox hg) | ((with_reducible refine gD 3 rfl ?_);refine box_event rfl (N:=3) rfl (cs:=#[.bool a1_0,.int .i64 a1_1,.int .i64 a1_2,.int .i64 a1_3,.int .i64 a1_4,.int .i64 a1_5,.int .i64 a1_6]) (t:=35) hr_ ?_;intro gb1 hg w41 hbox hb;have BK1:=am hbox;have GW1:=gwE HB hg;have GE1:=gwE HB hg;replace HB:=hbS HB hb;have NB0_1:=neL BK0 hg;have NB1_0:=neG BK0 hg;replace BK0:=bkB BK0 hb;clear hb hbox hg;have:=NB0_1.out;have:=NB1_0.out;have ⟨_,_,_,_,_,_,_,_,_,_,_,_,_,_⟩:=cf7 BK0;have ⟨_,_,_,_,_,_,_,_,_,_,_,_,_,_⟩:=cf7 BK1))
    go_ret
    exact ⟨fi_,m4_⟩
  ·rw [if_neg c9] at H;have c9b0 : (a0_1 == a1_1) = false:=beq_eq_false_iff_ne.mpr c9;have c9b1 : (a0_1 != a1_1) = true:=bne_iff_ne.mpr c9;obtain rfl:=Option.some.inj H
   go_enter Tryz.func121,Tryz.ntmps121
   go_wp2_with (first | ((with_reducible refine gD 2 rfl ?_);refine box_event rfl (N:=2) rfl (cs:=#[.bool a0_0,.int .i64 a0_1,.int .i64 a0_2,.int .i64 a0_3,.int .i64 a0_4,.int .i64 a0_5,.int .i64 a0_6]) (t:=35) hr_ ?_;intro gb0 hg w45 hbox hb;have BK0:=am hbox;have GW0:=gwE HB hg;have GE0:=gwE HB hg;replace HB:=hbS HB hb;clear hb hbox hg) | ((with_reducible refine gD 3 rfl ?_);refine box_event rfl (N:=3) rfl (cs:=#[.bool a1_0,.int .i64 a1_1,.int .i64 a1_2,.int .i64 a1_3,.int .i64 a1_4,.int .i64 a1_5,.int .i64 a1_6]) (t:=35) hr_ ?_;intro gb1 hg w46 hbox hb;have BK1:=am hbox;have GW1:=gwE HB hg;have GE1:=gwE HB hg;replace HB:=hbS HB hb;have NB0_1:=neL BK0 hg;have NB1_0:=neG BK0 hg;replace BK0:=bkB BK0 hb;clear hb hbox hg;have:=NB0_1.out;have:=NB1_0.out;have ⟨_,_,_,_,_,_,_,_,_,_,_,_,_,_⟩:=cf7 BK0;have ⟨_,_,_,_,_,_,_,_,_,_,_,_,_,_⟩:=cf7 BK1))
   go_ret
   exact ⟨fi_,m4_⟩
def laws_eqRulRuleS.l0 : Nat → List (S35) → List (S35) → Int → Option (Bool)
 | 0,_,_,_=>none
 | k + 1,x0,x1,x5=>if x5 < (x0.length : Int) then (if 0 ≤ x5 then (if x5 < (x1.length : Int) then ((laws_eqRulRule.f ((rd_T35 x0 x5).f0) ((rd_T35 x0 x5).f1) ((rd_T35 x0 x5).f2) ((rd_T35 x0 x5).f3) ((rd_T35 x0 x5).f4) ((rd_T35 x0 x5).f5) ((rd_T35 x0 x5).f6) ((rd_T35 x1 x5).f0) ((rd_T35 x1 x5).f1) ((rd_T35 x1 x5).f2) ((rd_T35 x1 x5).f3) ((rd_T35 x1 x5).f4) ((rd_T35 x1 x5).f5) ((rd_T35 x1 x5).f6)).bind fun t654=>(if t654 = true then (laws_eqRulRuleS.l0 k x0 x1 (wrap64 (x5 + 1))) else (some false))) else (none)) else (none)) else (some true)
def laws_eqRulRuleS.f (k : Nat) (l0 : List (S35)) (l1 : List (S35)) : Option (Bool):=if (l0.length : Int) = (l1.length : Int) then (laws_eqRulRuleS.l0 k l0 l1 0) else (some false)
def laws_eqRulRuleS.T6 : Bool × List (List Nat × List Nat):=(true,[([],[]),([],[]),([0,1],[0,1]),([2],[2]),([],[]),([],[]),([4,5],[4,5]),([6],[6]),([3,7],[3,7]),([8],[8])])
def laws_eqRulRuleS.B6 : List Nat:=[0,0,3,7,0,0,48,112,255,511]
theorem laws_eqRulRuleS.tab6 : rtab .any (opsOf Tryz.f61 6) = laws_eqRulRuleS.T6:=by kernel_rfl
theorem laws_eqRulRuleS.bits6 : waitsOk laws_eqRulRuleS.T6.2 laws_eqRulRuleS.B6 = true:=by kernel_rfl
set_option maxHeartbeats 8000000 in
set_option maxRecDepth 100000 in
theorem laws_eqRulRuleS.calls (k : Nat) (A0 : Option Addr) (c0 : Nat) (l0 : List (S35)) (A1 : Option Addr) (c1 : Nat) (l1 : List (S35)) (r : Bool) (w : World) (hr0 : Kd.C k35 w A0 l0.length l0) (hc0 : l0.length ≤ c0) (hr1 : Kd.C k35 w A1 l1.length l1) (hc1 : l1.length ≤ c1) (h : laws_eqRulRuleS.f k l0 l1 = some r) :
  Calls Tryz.prog 61 #[.slice A0 l0.length c0,.slice A1 l1.length c1] w fun e w'=>e = .returned (.bool r) ∧ Below w.heap.size w w':=by
 have hu35:=Tryz.underlying35;have HR0:=am hr0;have HC0:=am hc0;clear hr0 hc0;have HR1:=am hr1;have HC1:=am hc1;clear hr1 hc1;have HB:=am (Below.refl w.heap.size w);have H : (if (l0.length : Int) = (l1.length : Int) then (laws_eqRulRuleS.l0 k l0 l1 0) else (some false)) = some r:=h;clear h
 by_cases c3 : (l0.length : Int) = (l1.length : Int)
 ·rw [if_pos c3] at H;have c3b0 : ((l0.length : Int) == (l1.length : Int)) = true:=beq_iff_eq.mpr c3;have c3b1 : ((l0.length : Int) != (l1.length : Int)) = false:=bne_eq_false_iff_eq.mpr c3;have c3b2 : (l0.length == l1.length) = true:=by first | simpa using c3 | (simp at c3 ⊢;omega)
  clear c3;have H':=am H;clear H
  go_enter Tryz.func61,Tryz.ntmps61
  go_wp2
  go_loopg [5] k (fun kq v5 w'=>∃ (x5_1 : Int),v5 = .int .i64 x5_1 ∧ Aside0 (laws_eqRulRuleS.l0 kq l0 l1 x5_1 = some r) ∧ Aside0 (kq ≤ k) ∧ Aside0 (Below w.heap.size w w'))
  case atStart=>exact ⟨(0),rs_,H',⟨Nat.le_refl _⟩,⟨m0_⟩⟩
  case round=>
   clear H';(try clear c1);(try clear p2);(try clear c3);(try clear c3b0);(try clear c3b1);(try clear c3b2);obtain ⟨x5_1,rfl,HA,HK1,HB⟩:=hrel
   cases gk with
   | zero=>exact absurd HA.out (by simp [laws_eqRulRuleS.l0])
   | succ k1=>
    have H:=HA.out;clear HA;simp only [laws_eqRulRuleS.l0] at H
    by_cases c4 : x5_1 < (l0.length : Int)
    ·rw [if_pos c4] at H;have c4b0 : decide (x5_1 < (l0.length : Int)) = true:=decide_eq_true c4;clear c4
     by_cases c5 : 0 ≤ x5_1
     ·rw [if_pos c5] at H;have c5b0 : decide (0 ≤ x5_1) = true:=decide_eq_true c5;clear c5
      by_cases c6 : x5_1 < (l1.length : Int)
      ·rw [if_pos c6] at H;have c6b0 : decide (x5_1 < (l1.length : Int)) = true:=decide_eq_true c6;clear c6;obtain ⟨t7,A7,H⟩:=bse H
       try dsimp only at H
       by_cases c8 : t7 = true
       ·subst c8;rw [if_pos rfl] at H;have H':=am H;clear H
        try go_wp2
        replace HB:=am (below_drew1 HB.out);have p8 : 0 ≤ (x5_1 : Int):=of_decide_eq_true da_;have q8 : x5_1 < (l0.length : Int):=of_decide_eq_true da_;obtain ⟨ad8,e8,hx8_0,hx8_1,hx8_2,hx8_3,hx8_4,hx8_5,hx8_6⟩:=at_T35 HR0.out x5_1 p8 q8;have hw8_6:=hx8_6;have hw8_5:=hx8_5;have hw8_4:=hx8_4;have hw8_3:=hx8_3;have hw8_2:=hx8_2;have hw8_1:=hx8_1;have hw8_0:=hx8_0;cases e8;replace hx8_0:=bcl HB hx8_0;replace hx8_1:=bcl HB hx8_1;replace hx8_2:=bcl HB hx8_2;replace hx8_3:=bcl HB hx8_3;replace hx8_4:=bcl HB hx8_4;replace hx8_5:=bcl HB hx8_5;replace hx8_6:=bcl HB hx8_6;replace p8:=eq_true p8;replace q8:=eq_true q8;have p9 : 0 ≤ (x5_1 : Int):=of_decide_eq_true da_;have q9 : x5_1 < (l1.length : Int):=of_decide_eq_true da_;obtain ⟨ad9,e9,hx9_0,hx9_1,hx9_2,hx9_3,hx9_4,hx9_5,hx9_6⟩:=at_T35 HR1.out x5_1 p9 q9;have hw9_6:=hx9_6;have hw9_5:=hx9_5;have hw9_4:=hx9_4;have hw9_3:=hx9_3;have hw9_2:=hx9_2;have hw9_1:=hx9_1;have hw9_0:=hx9_0;cases e9;replace hx9_0:=bcl HB hx9_0;replace hx9_1:=bcl HB hx9_1;replace hx9_2:=bcl HB hx9_2;replace hx9_3:=bcl HB hx9_3;replace hx9_4:=bcl HB hx9_4;replace hx9_5:=bcl HB hx9_5;replace hx9_6:=bcl HB hx9_6;replace p9:=eq_true p9;replace q9:=eq_true q9;refine start_ (n:=10) (S:=fun w'=>w'.cell? (ad8.add ((x5_1).toNat * 7)) = some (.bool ((rd_T35 l0 x5_1).f0)) ∧ w'.cell? ⟨(ad8.add ((x5_1).toNat * 7)).block,(ad8.add ((x5_1).toNat * 7)).off + 1,none⟩ = some (.int .i64 ((rd_T35 l0 x5_1).f1)) ∧ w'.cell? ⟨(ad8.add ((x5_1).toNat * 7)).block,(ad8.add ((x5_1).toNat * 7)).off + 2,none⟩ = some (.int .i64 ((rd_T35 l0 x5_1).f2)) ∧ w'.cell? ⟨(ad8.add ((x5_1).toNat * 7)).block,(ad8.add ((x5_1).toNat * 7)).off + 3,none⟩ = some (.int .i64 ((rd_T35 l0 x5_1).f3)) ∧ w'.cell? ⟨(ad8.add ((x5_1).toNat * 7)).block,(ad8.add ((x5_1).toNat * 7)).off + 4,none⟩ = some (.int .i64 ((rd_T35 l0 x5_1).f4)) ∧ w'.cell? ⟨(ad8.add ((x5_1).toNat * 7)).block,(ad8.add ((x5_1).toNat * 7)).off + 5,none⟩ = some (.int .i64 ((rd_T35 l0 x5_1).f5)) ∧ w'.cell? ⟨(ad8.add ((x5_1).toNat * 7)).block,(ad8.add ((x5_1).toNat * 7)).off + 6,none⟩ = some (.int .i64 ((rd_T35 l0 x5_1).f6)) ∧ w'.cell? (ad9.add ((x5_1).toNat * 7)) = some (.bool ((rd_T35 l1 x5_1).f0)) ∧ w'.cell? ⟨(ad9.add ((x5_1).toNat * 7)).block,(ad9.add ((x5_1).toNat * 7)).off + 1,none⟩ = some (.int .i64 ((rd_T35 l1 x5_1).f1)) ∧ w'.cell? ⟨(ad9.add ((x5_1).toNat * 7)).block,(ad9.add ((x5_1).toNat * 7)).off + 2,none⟩ = some (.int .i64 ((rd_T35 l1 x5_1).f2)) ∧ w'.cell? ⟨(ad9.add ((x5_1).toNat * 7)).block,(ad9.add ((x5_1).toNat * 7)).off + 3,none⟩ = some (.int .i64 ((rd_T35 l1 x5_1).f3)) ∧ w'.cell? ⟨(ad9.add ((x5_1).toNat * 7)).block,(ad9.add ((x5_1).toNat * 7)).off + 4,none⟩ = some (.int .i64 ((rd_T35 l1 x5_1).f4)) ∧ w'.cell? ⟨(ad9.add ((x5_1).toNat * 7)).block,(ad9.add ((x5_1).toNat * 7)).off + 5,none⟩ = some (.int .i64 ((rd_T35 l1 x5_1).f5)) ∧ w'.cell? ⟨(ad9.add ((x5_1).toNat * 7)).block,(ad9.add ((x5_1).toNat * 7)).off + 6,none⟩ = some (.int .i64 ((rd_T35 l1 x5_1).f6))) (ds:=[]) #[false,false,false,false,false,false,false,false,false,false] (by kernel_rfl) rfl rfl ⟨(bcl HB hw8_0),(bcl HB hw8_1),(bcl HB hw8_2),(bcl HB hw8_3),(bcl HB hw8_4),(bcl HB hw8_5),(bcl HB hw8_6),(bcl HB hw9_0),(bcl HB hw9_1),(bcl HB hw9_2),(bcl HB hw9_3),(bcl HB hw9_4),(bcl HB hw9_5),(bcl HB hw9_6)⟩ (fun hHeld=>?_);refine with_tabW laws_eqRulRuleS.tab6 laws_eqRulRuleS.bits6 (fun HT_ HW_=>?_)
        generalize wr.drew = w9 at HB hx8_0 hx8_1 hx8_2 hx8_3 hx8_4 hx8_5 hx8_6 hx9_0 hx9_1 hx9_2 hx9_3 hx9_4 hx9_5 hx9_6 hHeld ⊢;refine pu_ 0 (some 17) (bm 10 1) ?_;refine pu_ 1 (some 18) (bm 10 3) ?_;refine pu_ 2 (some 19) (bm 10 7) ?_;refine pu_ 4 (some 21) (bm 10 23) ?_;refine pu_ 5 (some 22) (bm 10 55) ?_;refine pu_ 6 (some 23) (bm 10 119) ?_;refine tk_ 3 (some 20) (bm 10 127) rfl (.inl ⟨rfl,m29_⟩) ?_;refine tk_ 7 (some 24) (bm 10 255) rfl (.inl ⟨rfl,m29_⟩) ?_;refine on_ 8 (some 25) (bm 10 511) (fun K hK=>?_);refine gR Tryz.func121 #[.agg #[.bool ((rd_T35 l0 x5_1).f0),.int .i64 ((rd_T35 l0 x5_1).f1),.int .i64 ((rd_T35 l0 x5_1).f2),.int .i64 ((rd_T35 l0 x5_1).f3),.int .i64 ((rd_T35 l0 x5_1).f4),.int .i64 ((rd_T35 l0 x5_1).f5),.int .i64 ((rd_T35 l0 x5_1).f6)],.agg #[.bool ((rd_T35 l1 x5_1).f0),.int .i64 ((rd_T35 l1 x5_1).f1),.int .i64 ((rd_T35 l1 x5_1).f2),.int .i64 ((rd_T35 l1 x5_1).f3),.int .i64 ((rd_T35 l1 x5_1).f4),.int .i64 ((rd_T35 l1 x5_1).f5),.int .i64 ((rd_T35 l1 x5_1).f6)]] ?_
        with_reducible refine (laws_eqRulRule.calls ((rd_T35 l0 x5_1).f0) ((rd_T35 l0 x5_1).f1) ((rd_T35 l0 x5_1).f2) ((rd_T35 l0 x5_1).f3) ((rd_T35 l0 x5_1).f4) ((rd_T35 l0 x5_1).f5) ((rd_T35 l0 x5_1).f6) ((rd_T35 l1 x5_1).f0) ((rd_T35 l1 x5_1).f1) ((rd_T35 l1 x5_1).f2) ((rd_T35 l1 x5_1).f3) ((rd_T35 l1 x5_1).f4) ((rd_T35 l1 x5_1).f5) ((rd_T35 l1 x5_1).f6) true _ A7.out).mono ?_
        rintro e w10 ⟨rfl,hb⟩;refine ⟨_,rfl,?_⟩;replace HB:=hbS HB hb;(try clear hb);(try clear hb2);(try clear hk);(try clear hi);refine hK.out _ _ ⟨(bcl HB hw8_0),(bcl HB hw8_1),(bcl HB hw8_2),(bcl HB hw8_3),(bcl HB hw8_4),(bcl HB hw8_5),(bcl HB hw8_6),(bcl HB hw9_0),(bcl HB hw9_1),(bcl HB hw9_2),(bcl HB hw9_3),(bcl HB hw9_4),(bcl HB hw9_5),(bcl HB hw9_6)⟩ (fun hHeld=>?_);clear hK K;refine nm_ ?_;refine pu_ 9 (some 26) (bm 10 1023) ?_;refine done_ (done_of HT_.out (by kernel_rfl)) ?_
        try go_wp2
        go_roundg k1
        case measure=>have:=HK1.out;omega
        case rel=>exact ⟨(wrap64 (x5_1 + 1)),rs_,H',⟨by have:=HK1.out;omega⟩,⟨m0_⟩⟩
       ·replace c8:=Bool.eq_false_iff.mpr c8;subst c8;rw [if_neg nft_] at H;obtain rfl:=Option.some.inj H
        try go_wp2
        replace HB:=am (below_drew1 HB.out);have p8 : 0 ≤ (x5_1 : Int):=of_decide_eq_true da_;have q8 : x5_1 < (l0.length : Int):=of_decide_eq_true da_;obtain ⟨ad8,e8,hx8_0,hx8_1,hx8_2,hx8_3,hx8_4,hx8_5,hx8_6⟩:=at_T35 HR0.out x5_1 p8 q8;have hw8_6:=hx8_6;have hw8_5:=hx8_5;have hw8_4:=hx8_4;have hw8_3:=hx8_3;have hw8_2:=hx8_2;have hw8_1:=hx8_1;have hw8_0:=hx8_0;cases e8;replace hx8_0:=bcl HB hx8_0;replace hx8_1:=bcl HB hx8_1;replace hx8_2:=bcl HB hx8_2;replace hx8_3:=bcl HB hx8_3;replace hx8_4:=bcl HB hx8_4;replace hx8_5:=bcl HB hx8_5;replace hx8_6:=bcl HB hx8_6;replace p8:=eq_true p8;replace q8:=eq_true q8;have p9 : 0 ≤ (x5_1 : Int):=of_decide_eq_true da_;have q9 : x5_1 < (l1.length : Int):=of_decide_eq_true da_;obtain ⟨ad9,e9,hx9_0,hx9_1,hx9_2,hx9_3,hx9_4,hx9_5,hx9_6⟩:=at_T35 HR1.out x5_1 p9 q9;have hw9_6:=hx9_6;have hw9_5:=hx9_5;have hw9_4:=hx9_4;have hw9_3:=hx9_3;have hw9_2:=hx9_2;have hw9_1:=hx9_1;have hw9_0:=hx9_0;cases e9;replace hx9_0:=bcl HB hx9_0;replace hx9_1:=bcl HB hx9_1;replace hx9_2:=bcl HB hx9_2;replace hx9_3:=bcl HB hx9_3;replace hx9_4:=bcl HB hx9_4;replace hx9_5:=bcl HB hx9_5;replace hx9_6:=bcl HB hx9_6;replace p9:=eq_true p9;replace q9:=eq_true q9;refine start_ (n:=10) (S:=fun w'=>w'.cell? (ad8.add ((x5_1).toNat * 7)) = some (.bool ((rd_T35 l0 x5_1).f0)) ∧ w'.cell? ⟨(ad8.add ((x5_1).toNat * 7)).block,(ad8.add ((x5_1).toNat * 7)).off + 1,none⟩ = some (.int .i64 ((rd_T35 l0 x5_1).f1)) ∧ w'.cell? ⟨(ad8.add ((x5_1).toNat * 7)).block,(ad8.add ((x5_1).toNat * 7)).off + 2,none⟩ = some (.int .i64 ((rd_T35 l0 x5_1).f2)) ∧ w'.cell? ⟨(ad8.add ((x5_1).toNat * 7)).block,(ad8.add ((x5_1).toNat * 7)).off + 3,none⟩ = some (.int .i64 ((rd_T35 l0 x5_1).f3)) ∧ w'.cell? ⟨(ad8.add ((x5_1).toNat * 7)).block,(ad8.add ((x5_1).toNat * 7)).off + 4,none⟩ = some (.int .i64 ((rd_T35 l0 x5_1).f4)) ∧ w'.cell? ⟨(ad8.add ((x5_1).toNat * 7)).block,(ad8.add ((x5_1).toNat * 7)).off + 5,none⟩ = some (.int .i64 ((rd_T35 l0 x5_1).f5)) ∧ w'.cell? ⟨(ad8.add ((x5_1).toNat * 7)).block,(ad8.add ((x5_1).toNat * 7)).off + 6,none⟩ = some (.int .i64 ((rd_T35 l0 x5_1).f6)) ∧ w'.cell? (ad9.add ((x5_1).toNat * 7)) = some (.bool ((rd_T35 l1 x5_1).f0)) ∧ w'.cell? ⟨(ad9.add ((x5_1).toNat * 7)).block,(ad9.add ((x5_1).toNat * 7)).off + 1,none⟩ = some (.int .i64 ((rd_T35 l1 x5_1).f1)) ∧ w'.cell? ⟨(ad9.add ((x5_1).toNat * 7)).block,(ad9.add ((x5_1).toNat * 7)).off + 2,none⟩ = some (.int .i64 ((rd_T35 l1 x5_1).f2)) ∧ w'.cell? ⟨(ad9.add ((x5_1).toNat * 7)).block,(ad9.add ((x5_1).toNat * 7)).off + 3,none⟩ = some (.int .i64 ((rd_T35 l1 x5_1).f3)) ∧ w'.cell? ⟨(ad9.add ((x5_1).toNat * 7)).block,(ad9.add ((x5_1).toNat * 7)).off + 4,none⟩ = some (.int .i64 ((rd_T35 l1 x5_1).f4)) ∧ w'.cell? ⟨(ad9.add ((x5_1).toNat * 7)).block,(ad9.add ((x5_1).toNat * 7)).off + 5,none⟩ = some (.int .i64 ((rd_T35 l1 x5_1).f5)) ∧ w'.cell? ⟨(ad9.add ((x5_1).toNat * 7)).block,(ad9.add ((x5_1).toNat * 7)).off + 6,none⟩ = some (.int .i64 ((rd_T35 l1 x5_1).f6))) (ds:=[]) #[false,false,false,false,false,false,false,false,false,false] (by kernel_rfl) rfl rfl ⟨(bcl HB hw8_0),(bcl HB hw8_1),(bcl HB hw8_2),(bcl HB hw8_3),(bcl HB hw8_4),(bcl HB hw8_5),(bcl HB hw8_6),(bcl HB hw9_0),(bcl HB hw9_1),(bcl HB hw9_2),(bcl HB hw9_3),(bcl HB hw9_4),(bcl HB hw9_5),(bcl HB hw9_6)⟩ (fun hHeld=>?_);refine with_tabW laws_eqRulRuleS.tab6 laws_eqRulRuleS.bits6 (fun HT_ HW_=>?_)
        generalize wr.drew = w11 at HB hx8_0 hx8_1 hx8_2 hx8_3 hx8_4 hx8_5 hx8_6 hx9_0 hx9_1 hx9_2 hx9_3 hx9_4 hx9_5 hx9_6 hHeld ⊢;refine pu_ 0 (some 17) (bm 10 1) ?_;refine pu_ 1 (some 18) (bm 10 3) ?_;refine pu_ 2 (some 19) (bm 10 7) ?_;refine pu_ 4 (some 21) (bm 10 23) ?_;refine pu_ 5 (some 22) (bm 10 55) ?_;refine pu_ 6 (some 23) (bm 10 119) ?_;refine tk_ 3 (some 20) (bm 10 127) rfl (.inl ⟨rfl,m29_⟩) ?_;refine tk_ 7 (some 24) (bm 10 255) rfl (.inl ⟨rfl,m29_⟩) ?_;refine on_ 8 (some 25) (bm 10 511) (fun K hK=>?_);refine gR Tryz.func121 #[.agg #[.bool ((rd_T35 l0 x5_1).f0),.int .i64 ((rd_T35 l0 x5_1).f1),.int .i64 ((rd_T35 l0 x5_1).f2),.int .i64 ((rd_T35 l0 x5_1).f3),.int .i64 ((rd_T35 l0 x5_1).f4),.int .i64 ((rd_T35 l0 x5_1).f5),.int .i64 ((rd_T35 l0 x5_1).f6)],.agg #[.bool ((rd_T35 l1 x5_1).f0),.int .i64 ((rd_T35 l1 x5_1).f1),.int .i64 ((rd_T35 l1 x5_1).f2),.int .i64 ((rd_T35 l1 x5_1).f3),.int .i64 ((rd_T35 l1 x5_1).f4),.int .i64 ((rd_T35 l1 x5_1).f5),.int .i64 ((rd_T35 l1 x5_1).f6)]] ?_
        with_reducible refine (laws_eqRulRule.calls ((rd_T35 l0 x5_1).f0) ((rd_T35 l0 x5_1).f1) ((rd_T35 l0 x5_1).f2) ((rd_T35 l0 x5_1).f3) ((rd_T35 l0 x5_1).f4) ((rd_T35 l0 x5_1).f5) ((rd_T35 l0 x5_1).f6) ((rd_T35 l1 x5_1).f0) ((rd_T35 l1 x5_1).f1) ((rd_T35 l1 x5_1).f2) ((rd_T35 l1 x5_1).f3) ((rd_T35 l1 x5_1).f4) ((rd_T35 l1 x5_1).f5) ((rd_T35 l1 x5_1).f6) false _ A7.out).mono ?_
        rintro e w12 ⟨rfl,hb⟩;refine ⟨_,rfl,?_⟩;replace HB:=hbS HB hb;(try clear hb);(try clear hb2);(try clear hk);(try clear hi);refine hK.out _ _ ⟨(bcl HB hw8_0),(bcl HB hw8_1),(bcl HB hw8_2),(bcl HB hw8_3),(bcl HB hw8_4),(bcl HB hw8_5),(bcl HB hw8_6),(bcl HB hw9_0),(bcl HB hw9_1),(bcl HB hw9_2),(bcl HB hw9_3),(bcl HB hw9_4),(bcl HB hw9_5),(bcl HB hw9_6)⟩ (fun hHeld=>?_);clear hK K;refine nm_ ?_;refine pu_ 9 (some 26) (bm 10 1023) ?_;refine done_ (done_of HT_.out (by kernel_rfl)) ?_
        try go_wp2
        go_ret
        exact ⟨fi_,m0_⟩
      ·rw [if_neg c6] at H;exact absurd H (by simp)
     ·rw [if_neg c5] at H;exact absurd H (by simp)
    ·rw [if_neg c4] at H;have c4b0 : decide (x5_1 < (l0.length : Int)) = false:=decide_eq_false c4;clear c4;obtain rfl:=Option.some.inj H
     go_wp2
     go_ret
     exact ⟨fi_,m0_⟩
 ·rw [if_neg c3] at H;have c3b0 : ((l0.length : Int) == (l1.length : Int)) = false:=beq_eq_false_iff_ne.mpr c3;have c3b1 : ((l0.length : Int) != (l1.length : Int)) = true:=bne_iff_ne.mpr c3;have c3b2 : (l0.length == l1.length) = false:=by first | simpa using c3 | (simp at c3 ⊢;omega)
  obtain rfl:=Option.some.inj H
  go_enter Tryz.func61,Tryz.ntmps61
  go_wp2
  go_ret
  exact ⟨fi_,m0_⟩
end
theorem wj (i : Nat) (h : i ≤ 100000000) : wrap64 ((i : Int) + 1) = ((i + 1 : Nat) : Int):=by rw [w64 _ (by omega)];push_cast;rfl
def convR (x : S144) : S35:=⟨x.f0,x.f1,x.f2,x.f3,x.f4,x.f5,x.f6⟩
theorem rd80_get {l : List S144} {i : Nat} (h : i < l.length) : rd_T144 l (i : Int) = l[i]:=by
  unfold rd_T144
  simp [List.getD,h]
theorem toRulRuleS_a (l : List S144) (hl : l.length ≤ 1048576) : Ans (fun k=>laws_toRulRuleS.f k l) (fun r=>r = l.map convR):=by
  unfold laws_toRulRuleS.f
  have e0 : (((l.length : Int)) : Int).toNat = l.length:=by omega
  refine Ans.pos (by omega) (Ans.pos (by omega) ?_)
  rw [e0]
  have L : ∀ (m i : Nat),i + m = l.length → Ans (fun k=>laws_toRulRuleS.l0 k l ((l.take i).map convR ++ List.replicate m z35) (i : Int)) (fun r=>r = l.map convR):=by
    intro m
    induction m with
    | zero=>
      intro i hi
      refine Ans.succ ?_
      unfold laws_toRulRuleS.l0
      exact Ans.neg (by omega) (Ans.pure (by rw [List.take_of_length_le (by omega)];simp))
    | succ m ih=>
      intro i hi
      refine Ans.succ ?_
      unfold laws_toRulRuleS.l0 laws_toRulRule.f
      have hil : i < l.length:=by omega
      refine Ans.pos (by omega) (Ans.pos (by omega) (Ans.bsome (Ans.pos ?_ ?_)))
      · simp only [List.length_append,List.length_map,List.length_take,List.length_replicate]
        omega
      · have e1 : ((i : Int)).toNat = i:=by omega
        dsimp only
        rw [e1,wj i (by omega),rd80_get hil]
        have e2 : ((l.take i).map convR ++ List.replicate (m + 1) z35).set i ⟨l[i].f0,l[i].f1,l[i].f2,l[i].f3,l[i].f4,l[i].f5,l[i].f6⟩ = (l.take (i + 1)).map convR ++ List.replicate m z35:=by
          have hlen : ((l.take i).map convR).length = i:=by rw [List.length_map,List.length_take];omega
          rw [List.set_append_right _ _ (by omega),hlen,Nat.sub_self,List.replicate_succ,List.set_cons_zero,List.take_succ_eq_append_getElem hil,List.map_append]
          simp [convR]
        rw [e2]
        exact ih (i + 1) (by omega)
  have:=L l.length 0 (by omega)
  simpa using this
theorem eqRulRule_same (x : S35) : laws_eqRulRule.f x.f0 x.f1 x.f2 x.f3 x.f4 x.f5 x.f6 x.f0 x.f1 x.f2 x.f3 x.f4 x.f5 x.f6 = some true:=by
  unfold laws_eqRulRule.f
  simp
theorem eqRulRuleS_a (l : List S35) (hl : l.length ≤ 1048576) : Ans (fun k=>laws_eqRulRuleS.f k l l) (fun r=>r = true):=by
  unfold laws_eqRulRuleS.f
  refine Ans.pos rfl ?_
  have L : ∀ (m i : Nat),i + m = l.length → Ans (fun k=>laws_eqRulRuleS.l0 k l l (i : Int)) (fun r=>r = true):=by
    intro m
    induction m with
    | zero=>
      intro i hi
      refine Ans.succ ?_
      unfold laws_eqRulRuleS.l0
      exact Ans.neg (by omega) (Ans.pure rfl)
    | succ m ih=>
      intro i hi
      refine Ans.succ ?_
      unfold laws_eqRulRuleS.l0
      rw [eqRulRule_same,wj i (by omega)]
      exact Ans.pos (by omega) (Ans.pos (by omega) (Ans.pos (by omega) (Ans.bsome (Ans.pos rfl (ih (i + 1) (by omega))))))
  exact L l.length 0 (by omega)
end Go.Proofs.YtgpolhlmedmloaaGreatDoor.P
namespace Go.Proofs.YtgpolhlmedmloaaGreatDoor.P
open Go.RowKit Go.Proofs.YtgpolhlmedmloaaGreatDoorUBoxE.PrintWords Go.Proofs.YtgpolhlmedmloaaGreatDoorUBoxE.PrintLast Go.Proofs.YtgpolhlmedmloaaGreatDoorUBoxE.PrintMore
set_option linter.unusedVariables false
set_option linter.unusedSimpArgs false
theorem list_of {α : Type} {n : Nat} {Q : Nat → α → Prop} (h : ∀ i,i < n → ∃ y,Q i y) : ∃ l : List α,l.length = n ∧ ∀ (j : Nat) (p : α),l[j]? = some p → Q j p:=by
  induction n with
  | zero=>exact ⟨[],rfl,fun j p hj=>by simp at hj⟩
  | succ n ih=>
    obtain ⟨l,hl,hq⟩:=ih (fun i hi=>h i (by omega))
    obtain ⟨y,hy⟩:=h n (by omega)
    refine ⟨l ++ [y],by simp [hl],fun j p hj=>?_⟩
    by_cases hjn : j < n
    · rw [List.getElem?_append_left (by omega)] at hj
      exact hq j p hj
    · rw [List.getElem?_append_right (by omega)] at hj
      have : j - l.length = 0:=by
        rcases Nat.eq_zero_or_pos (j - l.length) with h0 | h0
        · exact h0
        · rw [List.getElem?_eq_none (by simp;omega)] at hj;cases hj
      rw [this] at hj
      simp at hj
      subst hj
      have : j = n:=by omega
      subst this
      exact hy
structure Reads {α : Type} (P : Program) (d : Kd α) (good : α → Prop) (e : TypeId) : Prop where
  size : P.cellsOf e = d.sz
  ofTrod : ∀ {H : Type} {enc : TypeId × Value → H} {w : World} {base : Nat} {spare : Nat → Bool} {held : Bool} {n : Nat} {cs : List Value} {x : DataW H × List MemPlace},DataW.trod enc P w base spare held n e cs = some x → ∃ y,d.K w y cs ∧ good y
section
variable {α : Type} {P : Program} {d : Kd α} {good : α → Prop} {H : Type} {enc : TypeId × Value → H} {w : World} {base : Nat} {spare : Nat → Bool} {held : Bool}
theorem row_of {t e : TypeId} {fuel : Nat} {a : Option Addr} {len cap : Nat} {x : DataW H × List MemPlace} (ht : P.underlying t = some (.slice e)) (R : Reads P d good e) (h : DataW.trod enc P w base spare held fuel t [.slice a len cap] = some x) :
    ∃ l : List α,l.length = len ∧ Kd.C d w a l.length l ∧ l.length ≤ cap ∧ l.length ≤ maxLen ∧ ∀ (j : Nat) (p : α),l[j]? = some p → good p:=by
  rcases Deep.open_slice ht h with ⟨hcs,_⟩ | ⟨ad,len',cap',m,n,D,Pl,hcs,hb,hl,hm,hmm,hx,hel⟩
  · simp at hcs
    obtain ⟨rfl,rfl,rfl⟩:=hcs
    exact ⟨[],rfl,Kd.C_nil d w,Nat.le_refl _,by simp,fun j p hj=>by simp at hj⟩
  · simp at hcs
    obtain ⟨rfl,rfl,rfl⟩:=hcs
    have hlm : len ≤ m:=by rw [hmm];split <;> omega
    obtain ⟨l,h1,h2⟩:=list_of (n:=len) (Q:=fun i y=>good y ∧ ∃ c,c.length = d.sz ∧ d.K w y c ∧ ∀ q u,c[q]? = some u → w.cell? (ad.add (i * d.sz + q)) = some u) (fun i hi=>by
      obtain ⟨cs,hc,htr⟩:=hel i (by omega)
      obtain ⟨y,hy,hg⟩:=R.ofTrod htr
      rw [R.size] at hc
      refine ⟨y,hg,cs,?_,hy,?_⟩
      · exact (World.cells?_some hc).2.1
      · intro q u hq
        have hlen:=(World.cells?_some hc).2.1
        have hlt : q < d.sz:=by rw [← hlen];exact (List.getElem?_eq_some_iff.1 hq).1
        have hcell:=(World.cells?_some hc).2.2 q hlt
        rw [hq] at hcell
        rw [Deep.add_add] at hcell
        exact hcell)
    have hml : (maxLen : Nat) ≤ 9223372036854775807:=by decide
    refine ⟨l,h1,⟨rfl,by omega,fun _=>⟨ad,rfl,fun j p hj=>(h2 j p hj).2⟩⟩,by omega,by omega,fun j p hj=>(h2 j p hj).1⟩
theorem row_any {t e : TypeId} {fuel : Nat} {v : Value} {x : DataW H × List MemPlace} (ht : P.underlying t = some (.slice e)) (R : Reads P d good e) (h : DataW.trod enc P w base spare held fuel t [v] = some x) :
    ∃ (a : Option Addr) (cap : Nat) (l : List α),v = .slice a l.length cap ∧ Kd.C d w a l.length l ∧ l.length ≤ cap ∧ l.length ≤ maxLen ∧ ∀ (j : Nat) (p : α),l[j]? = some p → good p:=by
  have hv : ∃ a len cap,v = .slice a len cap:=by
    rcases Deep.open_slice ht h with ⟨hcs,_⟩ | ⟨ad,len',cap',m,n,D,Pl,hcs,_⟩
    · exact ⟨none,0,0,by simpa using hcs⟩
    · exact ⟨some ad,len',cap',by simpa using hcs⟩
  obtain ⟨a,len,cap,rfl⟩:=hv
  obtain ⟨l,rfl,h1,h2,h3,h4⟩:=row_of ht R h
  exact ⟨a,cap,l,rfl,h1,h2,h3,h4⟩
end
theorem field_at {H : Type} {enc : TypeId × Value → H} {P : Program} {w : World} {base : Nat} {spare : Nat → Bool} {held : Bool} {t : TypeId} {fs : Array Field} {fuel : Nat} {cs : List Value} {x : DataW H × List MemPlace} (ht : P.underlying t = some (.struct fs)) (h : DataW.trod enc P w base spare held fuel t cs = some x) :
    cs.length = P.cellsOf t ∧ ∃ n,∀ (i : Nat) (f : Field),fs[i]? = some f → ∃ z,DataW.trod enc P w base spare held n f.type ((cs.drop f.offset).take (P.cellsOf f.type)) = some z:=by
  obtain ⟨xs,n,_,_,hl,hxs,hf⟩:=DataW.trod_struct ht h
  refine ⟨hl,n,fun i f hi=>?_⟩
  have hlt : i < xs.length:=by
    rw [hxs]
    exact (Array.getElem?_eq_some_iff.1 hi).1
  exact ⟨_,(hf i f hi).trans (List.getElem?_eq_getElem hlt)⟩
theorem len2 {α : Type} {cs : List α} (h : cs.length = 2) : ∃ u v,cs = [u,v]:=by
  match cs,h with
  | [u,v],_=>exact ⟨u,v,rfl⟩
theorem len7 {α : Type} {cs : List α} (h : cs.length = 7) : ∃ u0 u1 u2 u3 u4 u5 u6,cs = [u0,u1,u2,u3,u4,u5,u6]:=by
  match cs,h with
  | [u0,u1,u2,u3,u4,u5,u6],_=>exact ⟨u0,u1,u2,u3,u4,u5,u6,rfl⟩
def goodI (n : Int) : Prop:=(Lit.int .i64 n).wf = true
theorem reads_end : Reads Tryz.prog k57 (fun x=>goodI x.f0 ∧ goodI x.f1) 57:=by
  refine ⟨by kernel_rfl,@fun H enc w base spare held fuel cs x h=>?_⟩
  obtain ⟨hl,n,hf⟩:=field_at Tryz.underlying57 h
  have c2 : Tryz.prog.cellsOf 57 = 2:=by kernel_rfl
  have c1 : Tryz.prog.cellsOf 3 = 1:=by kernel_rfl
  rw [c2] at hl
  obtain ⟨z0,h0⟩:=hf 0 _ rfl
  obtain ⟨z1,h1⟩:=hf 1 _ rfl
  replace h0 : DataW.trod _ _ _ _ _ _ n 3 ((_ : List Value).drop 0 |>.take (Tryz.prog.cellsOf 3)) = some z0:=h0
  replace h1 : DataW.trod _ _ _ _ _ _ n 3 ((_ : List Value).drop 1 |>.take (Tryz.prog.cellsOf 3)) = some z1:=h1
  rw [c1] at h0 h1
  obtain ⟨a,ha,_,wa⟩:=DataW.trod_int Tryz.underlying3 h0
  obtain ⟨b,hb,_,wb⟩:=DataW.trod_int Tryz.underlying3 h1
  obtain ⟨u,v,rfl⟩ : ∃ u v,cs = [u,v]:=len2 hl
  simp at ha hb
  subst ha;subst hb
  exact ⟨⟨a,b⟩,k57_mk _ ⟨a,b⟩,wa,wb⟩
theorem reads_rule : Reads Tryz.prog k144 (fun _=>True) 144:=by
  refine ⟨by kernel_rfl,@fun H enc w base spare held fuel cs x h=>?_⟩
  obtain ⟨hl,n,hf⟩:=field_at Tryz.underlying144 h
  have c7 : Tryz.prog.cellsOf 144 = 7:=by kernel_rfl
  have c1 : Tryz.prog.cellsOf 3 = 1:=by kernel_rfl
  have c4 : Tryz.prog.cellsOf 4 = 1:=by kernel_rfl
  rw [c7] at hl
  obtain ⟨z0,h0⟩:=hf 0 _ rfl
  obtain ⟨z1,h1⟩:=hf 1 _ rfl
  obtain ⟨z2,h2⟩:=hf 2 _ rfl
  obtain ⟨z3,h3⟩:=hf 3 _ rfl
  obtain ⟨z4,h4⟩:=hf 4 _ rfl
  obtain ⟨z5,h5⟩:=hf 5 _ rfl
  obtain ⟨z6,h6⟩:=hf 6 _ rfl
  replace h0 : DataW.trod _ _ _ _ _ _ n 4 ((_ : List Value).drop 0 |>.take (Tryz.prog.cellsOf 4)) = some z0:=h0
  replace h1 : DataW.trod _ _ _ _ _ _ n 3 ((_ : List Value).drop 1 |>.take (Tryz.prog.cellsOf 3)) = some z1:=h1
  replace h2 : DataW.trod _ _ _ _ _ _ n 3 ((_ : List Value).drop 2 |>.take (Tryz.prog.cellsOf 3)) = some z2:=h2
  replace h3 : DataW.trod _ _ _ _ _ _ n 3 ((_ : List Value).drop 3 |>.take (Tryz.prog.cellsOf 3)) = some z3:=h3
  replace h4 : DataW.trod _ _ _ _ _ _ n 3 ((_ : List Value).drop 4 |>.take (Tryz.prog.cellsOf 3)) = some z4:=h4
  replace h5 : DataW.trod _ _ _ _ _ _ n 3 ((_ : List Value).drop 5 |>.take (Tryz.prog.cellsOf 3)) = some z5:=h5
  replace h6 : DataW.trod _ _ _ _ _ _ n 3 ((_ : List Value).drop 6 |>.take (Tryz.prog.cellsOf 3)) = some z6:=h6
  rw [c4] at h0
  rw [c1] at h1 h2 h3 h4 h5 h6
  obtain ⟨b,hb,_⟩:=DataW.trod_bool Tryz.underlying4 h0
  obtain ⟨a1,ha1,_⟩:=DataW.trod_int Tryz.underlying3 h1
  obtain ⟨a2,ha2,_⟩:=DataW.trod_int Tryz.underlying3 h2
  obtain ⟨a3,ha3,_⟩:=DataW.trod_int Tryz.underlying3 h3
  obtain ⟨a4,ha4,_⟩:=DataW.trod_int Tryz.underlying3 h4
  obtain ⟨a5,ha5,_⟩:=DataW.trod_int Tryz.underlying3 h5
  obtain ⟨a6,ha6,_⟩:=DataW.trod_int Tryz.underlying3 h6
  obtain ⟨u0,u1,u2,u3,u4,u5,u6,rfl⟩ : ∃ u0 u1 u2 u3 u4 u5 u6,cs = [u0,u1,u2,u3,u4,u5,u6]:=len7 hl
  simp at hb ha1 ha2 ha3 ha4 ha5 ha6
  subst hb;subst ha1;subst ha2;subst ha3;subst ha4;subst ha5;subst ha6
  exact ⟨⟨b,a1,a2,a3,a4,a5,a6⟩,k144_mk _ ⟨b,a1,a2,a3,a4,a5,a6⟩,trivial⟩
end Go.Proofs.YtgpolhlmedmloaaGreatDoor.P
namespace Go.Proofs.YtgpolhlmedmloaaGreatDoor.P
open Go.Proofs.YtgpolhlmedmloaaGreatDoorUBoxE.PrintLast Go.Proofs.YtgpolhlmedmloaaGreatDoorUBoxE.PrintMore Go.Proofs.YtgpolhlmedmloaaGreatDoorUBoxE.PrintWords Go.RowKit
set_option linter.unusedVariables false
set_option linter.unusedSimpArgs false
def goodC0 (x : S139) : Prop:=goodI x.f0.f0 ∧ goodI x.f0.f1 ∧ x.f2.size ≤ maxLen ∧ x.f3.size ≤ maxLen ∧ x.f4.size ≤ maxLen
theorem reads_conn : Reads Tryz.prog k139 goodC0 139:=by
  refine ⟨by kernel_rfl,@fun H enc w base spare held fuel cs x h=>?_⟩
  obtain ⟨hl,n,hf⟩:=field_at Tryz.underlying139 h
  have c7 : Tryz.prog.cellsOf 139 = 7:=by kernel_rfl
  have c2 : Tryz.prog.cellsOf 57 = 2:=by kernel_rfl
  have c9 : Tryz.prog.cellsOf 9 = 1:=by kernel_rfl
  rw [c7] at hl
  obtain ⟨u0,u1,u2,u3,u4,u5,u6,rfl⟩ : ∃ u0 u1 u2 u3 u4 u5 u6,cs = [u0,u1,u2,u3,u4,u5,u6]:=len7 hl
  obtain ⟨z0,h0⟩:=hf 0 _ rfl
  obtain ⟨z1,h1⟩:=hf 1 _ rfl
  obtain ⟨z2,h2⟩:=hf 2 _ rfl
  obtain ⟨z3,h3⟩:=hf 3 _ rfl
  obtain ⟨z4,h4⟩:=hf 4 _ rfl
  replace h0 : DataW.trod enc Tryz.prog w base spare held n 57 (([u0,u1,u2,u3,u4,u5,u6] : List Value).drop 0 |>.take (Tryz.prog.cellsOf 57)) = some z0:=h0
  replace h1 : DataW.trod enc Tryz.prog w base spare held n 57 (([u0,u1,u2,u3,u4,u5,u6] : List Value).drop 2 |>.take (Tryz.prog.cellsOf 57)) = some z1:=h1
  replace h2 : DataW.trod enc Tryz.prog w base spare held n 9 (([u0,u1,u2,u3,u4,u5,u6] : List Value).drop 4 |>.take (Tryz.prog.cellsOf 9)) = some z2:=h2
  replace h3 : DataW.trod enc Tryz.prog w base spare held n 9 (([u0,u1,u2,u3,u4,u5,u6] : List Value).drop 5 |>.take (Tryz.prog.cellsOf 9)) = some z3:=h3
  replace h4 : DataW.trod enc Tryz.prog w base spare held n 9 (([u0,u1,u2,u3,u4,u5,u6] : List Value).drop 6 |>.take (Tryz.prog.cellsOf 9)) = some z4:=h4
  rw [c2] at h0 h1
  rw [c9] at h2 h3 h4
  obtain ⟨y0,k0,g0⟩:=reads_end.ofTrod h0
  obtain ⟨y1,k1,g1⟩:=reads_end.ofTrod h1
  obtain ⟨s2,e2,_,t2⟩:=DataW.trod_string Tryz.underlying9 h2
  obtain ⟨s3,e3,_,t3⟩:=DataW.trod_string Tryz.underlying9 h3
  obtain ⟨s4,e4,_,t4⟩:=DataW.trod_string Tryz.underlying9 h4
  have q0:=k57_open k0
  have q1:=k57_open k1
  simp at q0 q1 e2 e3 e4
  obtain ⟨rfl,rfl⟩:=q0
  obtain ⟨rfl,rfl⟩:=q1
  subst e2;subst e3;subst e4
  exact ⟨⟨⟨y0.f0,y0.f1⟩,⟨y1.f0,y1.f1⟩,s2,s3,s4⟩,k139_mk _ ⟨⟨y0.f0,y0.f1⟩,⟨y1.f0,y1.f1⟩,s2,s3,s4⟩,g0.1,g0.2,t2,t3,t4⟩
theorem open_box {H : Type} {enc : TypeId × Value → H} {w : World} {base : Nat} {spare : Nat → Bool} {held : Bool} {fuel : Nat} {c : Array Value} {x : DataW H × List MemPlace} (h : DataW.trod enc Tryz.prog w base spare held fuel 46 c.toList = some x) :
    ∃ (a0 : Option Addr) (p0 : Nat) (l0 : List S144) (a1 : Option Addr) (p1 : Nat) (l1 : List S57) (a2 : Option Addr) (p2 : Nat) (l2 : List S139),c = #[.slice a0 l0.length p0,.slice a1 l1.length p1,.slice a2 l2.length p2] ∧
      Kd.C k144 w a0 l0.length l0 ∧ l0.length ≤ p0 ∧ l0.length ≤ maxLen ∧ Kd.C k57 w a1 l1.length l1 ∧ l1.length ≤ p1 ∧ l1.length ≤ maxLen ∧ Kd.C k139 w a2 l2.length l2 ∧ l2.length ≤ p2 ∧ l2.length ≤ maxLen ∧ ∀ x ∈ l2,goodC0 x:=by
  obtain ⟨hl,n,hf⟩:=field_at Tryz.underlying46 h
  have c3 : Tryz.prog.cellsOf 46 = 3:=by kernel_rfl
  have e0 : Tryz.prog.cellsOf 40 = 1:=by kernel_rfl
  have e1 : Tryz.prog.cellsOf 43 = 1:=by kernel_rfl
  have e1' : Tryz.prog.cellsOf 41 = 1:=by kernel_rfl
  have e2 : Tryz.prog.cellsOf 44 = 1:=by kernel_rfl
  rw [c3] at hl
  obtain ⟨u0,u1,u2,hc⟩ : ∃ u0 u1 u2,c.toList = [u0,u1,u2]:=by
    match c.toList,hl with
    | [u0,u1,u2],_=>exact ⟨u0,u1,u2,rfl⟩
  obtain rfl : c = #[u0,u1,u2]:=by
    rw [← Array.toArray_toList (xs:=c),hc]
  obtain ⟨z0,h0⟩:=hf 0 _ rfl
  obtain ⟨z1,h1⟩:=hf 1 _ rfl
  obtain ⟨z2,h2⟩:=hf 2 _ rfl
  replace h0 : DataW.trod enc Tryz.prog w base spare held n 40 (([u0,u1,u2] : List Value).drop 0 |>.take (Tryz.prog.cellsOf 40)) = some z0:=h0
  replace h1 : DataW.trod enc Tryz.prog w base spare held n 43 (([u0,u1,u2] : List Value).drop 1 |>.take (Tryz.prog.cellsOf 43)) = some z1:=h1
  replace h2 : DataW.trod enc Tryz.prog w base spare held n 44 (([u0,u1,u2] : List Value).drop 2 |>.take (Tryz.prog.cellsOf 44)) = some z2:=h2
  rw [e0] at h0
  rw [e1] at h1
  rw [e2] at h2
  replace h0 : DataW.trod enc Tryz.prog w base spare held n 40 [u0] = some z0:=h0
  replace h1 : DataW.trod enc Tryz.prog w base spare held n 43 [u1] = some z1:=h1
  replace h2 : DataW.trod enc Tryz.prog w base spare held n 44 [u2] = some z2:=h2
  obtain ⟨_,n',hg⟩:=field_at Tryz.underlying43 h1
  obtain ⟨z3,h3⟩:=hg 0 _ rfl
  replace h3 : DataW.trod enc Tryz.prog w base spare held n' 41 (([u1] : List Value).drop 0 |>.take (Tryz.prog.cellsOf 41)) = some z3:=h3
  rw [e1'] at h3
  replace h3 : DataW.trod enc Tryz.prog w base spare held n' 41 [u1] = some z3:=h3
  obtain ⟨a0,p0,l0,rfl,q1,q2,q3,_⟩:=row_any Tryz.underlying40 reads_rule h0
  obtain ⟨a1,p1,l1,rfl,r1,r2,r3,_⟩:=row_any Tryz.underlying41 reads_end h3
  obtain ⟨a2,p2,l2,rfl,s1,s2,s3,s4⟩:=row_any Tryz.underlying44 reads_conn h2
  refine ⟨a0,p0,l0,a1,p1,l1,a2,p2,l2,rfl,q1,q2,q3,r1,r2,r3,s1,s2,s3,fun x hx=>?_⟩
  obtain ⟨j,hj,e⟩:=List.mem_iff_getElem.mp hx
  exact s4 j x (by rw [List.getElem?_eq_getElem hj,e])
section
attribute [local go_sem] max2_int min2_int max_two min_two max_three min_three max_four min_four
def spec_l1Plain.l0 : Nat → Int → ByteArray → Option (ByteArray)
 | 0,_,_=>none
 | k + 1,x0,x3=>if x0 > 9 then ((some (([(wrap64 (48 + (Int.tmod x0 10))) % 256] : List Int) : List Int)).bind fun y466=>(if (strOfNums y466).size + x3.size ≤ 9223372036854775807 then (spec_l1Plain.l0 k (wrap64 (Int.tdiv x0 10)) ((strOfNums y466) ++ x3)) else (none))) else ((some (([(wrap64 (48 + x0)) % 256] : List Int) : List Int)).bind fun y469=>(if (strOfNums y469).size + x3.size ≤ 9223372036854775807 then (some ((strOfNums y469) ++ x3)) else (none)))
def spec_l1Plain.f (k : Nat) (a0 : Int) : Option (ByteArray):=spec_l1Plain.l0 k a0 (⟨#[]⟩ : ByteArray)
theorem spec_l1Plain.mono_l : ∀ k,(∀ y0 y1,LeO (spec_l1Plain.l0 k y0 y1) (spec_l1Plain.l0 (k + 1) y0 y1))
 | 0=>fun _ _ r h=>by simp [spec_l1Plain.l0] at h
 | k + 1=>by
  have ih0:=spec_l1Plain.mono_l k
  ·intro y0 y1;unfold spec_l1Plain.l0
   repeat' first | (with_reducible first | exact ih0 _ _ | exact LeO.refl _ | exact LeO.none _ | refine LeO.ite ?_ ?_ | refine LeO.bind ?_ (fun _=>?_)) | exact ih0 _ _ | exact LeO.none _ | refine LeO.ite ?_ ?_ | refine LeO.bind ?_ (fun _=>?_)
theorem spec_l1Plain.mono : ∀ a0 k,LeO (spec_l1Plain.f k a0) (spec_l1Plain.f (k + 1) a0):=by
 intro a0 k;have ih0:=spec_l1Plain.mono_l k;unfold spec_l1Plain.f
 repeat' first | (with_reducible first | exact ih0 _ _ | exact LeO.refl _ | exact LeO.none _ | refine LeO.ite ?_ ?_ | refine LeO.bind ?_ (fun _=>?_)) | exact ih0 _ _ | exact LeO.none _ | refine LeO.ite ?_ ?_ | refine LeO.bind ?_ (fun _=>?_)
set_option maxHeartbeats 8000000 in
set_option maxRecDepth 100000 in
theorem spec_l1Plain.calls (k : Nat) (a0 : Int) (r : ByteArray) (w : World) (h : spec_l1Plain.f k a0 = some r) :
  Calls Tryz.prog 217 #[.int .i64 a0] w fun e w'=>e = .returned (.string r) ∧ Below w.heap.size w w':=by
 have HB:=am (Below.refl w.heap.size w);have H : (spec_l1Plain.l0 k a0 (⟨#[]⟩ : ByteArray)) = some r:=h;clear h;have H':=am H;clear H
 go_enter Tryz.func217,Tryz.ntmps217
 go_wp2
 go_loopg [0,3] k (fun kq v0 v3 w'=>∃ (x0_1 : Int) (x3_1 : ByteArray),v0 = .int .i64 x0_1 ∧ v3 = .string x3_1 ∧ Aside0 (spec_l1Plain.l0 kq x0_1 x3_1 = some r) ∧ Aside0 (kq ≤ k) ∧ Aside0 (Below w.heap.size w w'))
 case atStart=>exact ⟨(a0),((⟨#[]⟩ : ByteArray)),rs_,rs_,H',⟨Nat.le_refl _⟩,⟨m0_⟩⟩
 case round=>
  clear H';obtain ⟨x0_1,x3_1,rfl,rfl,HA,HK1,HB⟩:=hrel
  cases gk with
  | zero=>exact absurd HA.out (by simp [spec_l1Plain.l0])
  | succ k1=>
   have H:=HA.out;clear HA;simp only [spec_l1Plain.l0] at H
   by_cases c2 : x0_1 > 9
   ·rw [if_pos c2] at H;have c2b0 : decide (9 < x0_1) = true:=decide_eq_true c2;clear c2;obtain ⟨y1,hy1⟩ : ∃ y_ : List Int,y_ = (([(wrap64 (48 + (Int.tmod x0_1 10))) % 256] : List Int)):=⟨_,rfl⟩;replace H : (if (strOfNums y1).size + x3_1.size ≤ 9223372036854775807 then (spec_l1Plain.l0 k1 (wrap64 (Int.tdiv x0_1 10)) ((strOfNums y1) ++ x3_1)) else (none)) = some r:=by first | (rw [hy1];with_reducible exact H) | (have H2_:=(Option.bind_some _ _).symm.trans H;rw [hy1];with_reducible exact H2_) | (have H2_:=(Option.bind_some _ _).symm.trans H;with_reducible exact H2_) | with_reducible exact H | (rw [hy1];exact H) | exact H
    have Ny1:=am hy1;clear hy1
    by_cases c3 : (strOfNums y1).size + x3_1.size ≤ 9223372036854775807
    ·rw [if_pos c3] at H;have c3b0:=eq_true c3;have c3b1 : decide ((strOfNums y1).size + x3_1.size ≤ 9223372036854775807) = true:=decide_eq_true c3
     try have c3b2 : (9223372036854775807 < (strOfNums y1).size + x3_1.size) = False:=eq_false (Nat.not_lt.2 c3)
     have H':=am H;clear H
     go_wp2_with (first | ((with_reducible refine gD 10 rfl ?_);refine Kd.R_lit (Kd.int .u8) _ 5 rfl (N:=10) rfl (xs:=([(wrap64 (48 + (Int.tmod x0_1 10))) % 256] : List Int)) (inner:=[.int .u8 ((wrap64 (48 + (Int.tmod x0_1 10))) % 256)]) (ok:=fun _=>True) (okp:=fun _=>True) hr_ ?hp (fun _ hk=>hk) trivial (Below.refl _ _) (Nat.le_refl _) (by simp) ?_;(case hp=>exact (Reps.one (show Kd.M (Kd.int .u8) _ _ _ ((wrap64 (48 + (Int.tmod x0_1 10))) % 256) [.int .u8 ((wrap64 (48 + (Int.tmod x0_1 10))) % 256)] from rfl) (Reps.none _ _)));intro v2 w4 ho5 hb hg_ hnew_;clear hg_ hnew_;(first | rw [← Ny1.out] at ho5 | (simp only [Int.reduceToNat] at ho5;rw [← Ny1.out] at ho5));have HO4:=am (Kd.R_lower ho5 (below_size (bl HB)));replace HB:=hbS HB hb;clear hb ho5;have hcv6:=own_string (P:=Tryz.prog) Tryz.underlying22 Tryz.underlying5 Tryz.underlying9 (Kd.own_of_R HO4.out)))
     go_roundg k1
     case measure=>have:=HK1.out;omega
     case rel=>exact ⟨(wrap64 (Int.tdiv x0_1 10)),((strOfNums y1) ++ x3_1),rs_,rs_,H',⟨by have:=HK1.out;omega⟩,⟨m0_⟩⟩
    ·rw [if_neg c3] at H;exact absurd H (by simp)
   ·rw [if_neg c2] at H;have c2b0 : decide (9 < x0_1) = false:=decide_eq_false c2;clear c2;obtain ⟨y5,hy5⟩ : ∃ y_ : List Int,y_ = (([(wrap64 (48 + x0_1)) % 256] : List Int)):=⟨_,rfl⟩;replace H : (if (strOfNums y5).size + x3_1.size ≤ 9223372036854775807 then (some ((strOfNums y5) ++ x3_1)) else (none)) = some r:=by first | (rw [hy5];with_reducible exact H) | (have H2_:=(Option.bind_some _ _).symm.trans H;rw [hy5];with_reducible exact H2_) | (have H2_:=(Option.bind_some _ _).symm.trans H;with_reducible exact H2_) | with_reducible exact H | (rw [hy5];exact H) | exact H
    have Ny5:=am hy5;clear hy5
    by_cases c7 : (strOfNums y5).size + x3_1.size ≤ 9223372036854775807
    ·rw [if_pos c7] at H;have c7b0:=eq_true c7;have c7b1 : decide ((strOfNums y5).size + x3_1.size ≤ 9223372036854775807) = true:=decide_eq_true c7
     try have c7b2 : (9223372036854775807 < (strOfNums y5).size + x3_1.size) = False:=eq_false (Nat.not_lt.2 c7)
     obtain rfl:=Option.some.inj H
     go_wp2_with (first | ((with_reducible refine gD 19 rfl ?_);refine Kd.R_lit (Kd.int .u8) _ 5 rfl (N:=19) rfl (xs:=([(wrap64 (48 + x0_1)) % 256] : List Int)) (inner:=[.int .u8 ((wrap64 (48 + x0_1)) % 256)]) (ok:=fun _=>True) (okp:=fun _=>True) hr_ ?hp (fun _ hk=>hk) trivial (Below.refl _ _) (Nat.le_refl _) (by simp) ?_;(case hp=>exact (Reps.one (show Kd.M (Kd.int .u8) _ _ _ ((wrap64 (48 + x0_1)) % 256) [.int .u8 ((wrap64 (48 + x0_1)) % 256)] from rfl) (Reps.none _ _)));intro v6 w8 ho9 hb hg_ hnew_;clear hg_ hnew_;(first | rw [← Ny5.out] at ho9 | (simp only [Int.reduceToNat] at ho9;rw [← Ny5.out] at ho9));have HO7:=am (Kd.R_lower ho9 (below_size (bl HB)));replace HB:=hbS HB hb;clear hb ho9;have hcv10:=own_string (P:=Tryz.prog) Tryz.underlying22 Tryz.underlying5 Tryz.underlying9 (Kd.own_of_R HO7.out)))
     go_ret
     exact ⟨fi_,m0_⟩
    ·rw [if_neg c7] at H;exact absurd H (by simp)
def spec_EndOk.f (a0_0 : Int) (a0_1 : Int) : Option (Bool):=(spec_EndInside.f a0_0 a0_1).bind fun t463=>(if t463 = true then (some true) else ((spec_EndOutside.f a0_0 a0_1).bind fun t464=>(if t464 = true then (some true) else (if a0_0 = 50 then ((spec_l1In.f a0_1 1 999).bind fun t465=>(some t465)) else (some false)))))
set_option maxHeartbeats 8000000 in
set_option maxRecDepth 100000 in
theorem spec_EndOk.calls (a0_0 : Int) (a0_1 : Int) (r : Bool) (w : World) (h : spec_EndOk.f a0_0 a0_1 = some r) :
  Calls Tryz.prog 93 #[.agg #[.int .i64 a0_0,.int .i64 a0_1]] w fun e w'=>e = .returned (.bool r) ∧ Below w.heap.size w w':=by
 have hu54:=Tryz.underlying54;have HB:=am (Below.refl w.heap.size w);have H : ((spec_EndInside.f a0_0 a0_1).bind fun t0=>(if t0 = true then (some true) else ((spec_EndOutside.f a0_0 a0_1).bind fun t1=>(if t1 = true then (some true) else (if a0_0 = 50 then ((spec_l1In.f a0_1 1 999).bind fun t2=>(some t2)) else (some false)))))) = some r:=h;clear h;obtain ⟨t0,A2,H⟩:=bse H
 try dsimp only at H
 by_cases c3 : t0 = true
 ·subst c3;rw [if_pos rfl] at H;obtain rfl:=Option.some.inj H
  go_enter Tryz.func93,Tryz.ntmps93
  go_wp2_with (first | ((with_reducible refine gD 1 rfl ?_);refine box_event rfl (N:=1) rfl (cs:=#[.int .i64 a0_0,.int .i64 a0_1]) (t:=54) hr_ ?_;intro gb3 hg w4 hbox hb;have BK3:=am hbox;have GW3:=gwE HB hg;have GE3:=gwE HB hg;replace HB:=hbS HB hb;clear hb hbox hg;have ⟨_,_,_,_⟩:=cf2 BK3) | ((with_reducible refine gC 38 rfl ?_);refine gL (some 4) Tryz.func38 #[.agg #[.int .i64 a0_0,.int .i64 a0_1]] ?_;(with_reducible refine (spec_EndInside.calls a0_0 a0_1 true _ A2.out).mono ?_);rintro e w6 ⟨rfl,hb⟩;refine ⟨_,rfl,?_⟩;replace BK3:=bkB BK3 hb;replace HB:=hbS HB hb;(try clear hb)))
  go_ret
  exact ⟨fi_,m4_⟩
 ·replace c3:=Bool.eq_false_iff.mpr c3;subst c3;rw [if_neg nft_] at H;obtain ⟨t1,A7,H⟩:=bse H
  try dsimp only at H
  by_cases c8 : t1 = true
  ·subst c8;rw [if_pos rfl] at H;obtain rfl:=Option.some.inj H
   go_enter Tryz.func93,Tryz.ntmps93
   go_wp2_with (first | ((with_reducible refine gD 1 rfl ?_);refine box_event rfl (N:=1) rfl (cs:=#[.int .i64 a0_0,.int .i64 a0_1]) (t:=54) hr_ ?_;intro gb3 hg w9 hbox hb;have BK3:=am hbox;have GW3:=gwE HB hg;have GE3:=gwE HB hg;replace HB:=hbS HB hb;clear hb hbox hg;have ⟨_,_,_,_⟩:=cf2 BK3) | ((with_reducible refine gC 38 rfl ?_);refine gL (some 4) Tryz.func38 #[.agg #[.int .i64 a0_0,.int .i64 a0_1]] ?_;(with_reducible refine (spec_EndInside.calls a0_0 a0_1 false _ A2.out).mono ?_);rintro e w11 ⟨rfl,hb⟩;refine ⟨_,rfl,?_⟩;replace BK3:=bkB BK3 hb;replace HB:=hbS HB hb;(try clear hb);have ⟨_,_,_,_⟩:=cf2 BK3) | (go_at_call 112;(with_reducible refine (spec_EndOutside.calls a0_0 a0_1 true _ A7.out).mono ?_);rintro e w13 ⟨rfl,hb⟩;replace BK3:=bkB BK3 hb;replace HB:=hbS HB hb;(try clear hb)))
   go_ret
   exact ⟨fi_,m4_⟩
  ·replace c8:=Bool.eq_false_iff.mpr c8;subst c8;rw [if_neg nft_] at H
   by_cases c14 : a0_0 = 50
   ·rw [if_pos c14] at H;have c14b0 : (a0_0 == 50) = true:=beq_iff_eq.mpr c14;have c14b1 : (a0_0 != 50) = false:=bne_eq_false_iff_eq.mpr c14;clear c14;obtain ⟨t2,A15,H⟩:=bse H
    try dsimp only at H
    obtain rfl:=Option.some.inj H
    go_enter Tryz.func93,Tryz.ntmps93
    go_wp2_with (first | ((with_reducible refine gD 1 rfl ?_);refine box_event rfl (N:=1) rfl (cs:=#[.int .i64 a0_0,.int .i64 a0_1]) (t:=54) hr_ ?_;intro gb3 hg w16 hbox hb;have BK3:=am hbox;have GW3:=gwE HB hg;have GE3:=gwE HB hg;replace HB:=hbS HB hb;clear hb hbox hg;have ⟨_,_,_,_⟩:=cf2 BK3) | ((with_reducible refine gC 38 rfl ?_);refine gL (some 4) Tryz.func38 #[.agg #[.int .i64 a0_0,.int .i64 a0_1]] ?_;(with_reducible refine (spec_EndInside.calls a0_0 a0_1 false _ A2.out).mono ?_);rintro e w18 ⟨rfl,hb⟩;refine ⟨_,rfl,?_⟩;replace BK3:=bkB BK3 hb;replace HB:=hbS HB hb;(try clear hb);have ⟨_,_,_,_⟩:=cf2 BK3) | (go_at_call 112;(with_reducible refine (spec_EndOutside.calls a0_0 a0_1 false _ A7.out).mono ?_);rintro e w20 ⟨rfl,hb⟩;replace BK3:=bkB BK3 hb;replace HB:=hbS HB hb;(try clear hb);have ⟨_,_,_,_⟩:=cf2 BK3) | (go_at_call 48;(with_reducible refine (spec_l1In.calls a0_1 1 999 t2 _ A15.out).mono ?_);rintro e w' ⟨rfl,⟨nd,rfl⟩⟩))
    go_ret
    exact ⟨fi_,m4_⟩
   ·rw [if_neg c14] at H;have c14b0 : (a0_0 == 50) = false:=beq_eq_false_iff_ne.mpr c14;have c14b1 : (a0_0 != 50) = true:=bne_iff_ne.mpr c14;obtain rfl:=Option.some.inj H
    go_enter Tryz.func93,Tryz.ntmps93
    go_wp2_with (first | ((with_reducible refine gD 1 rfl ?_);refine box_event rfl (N:=1) rfl (cs:=#[.int .i64 a0_0,.int .i64 a0_1]) (t:=54) hr_ ?_;intro gb3 hg w22 hbox hb;have BK3:=am hbox;have GW3:=gwE HB hg;have GE3:=gwE HB hg;replace HB:=hbS HB hb;clear hb hbox hg;have ⟨_,_,_,_⟩:=cf2 BK3) | ((with_reducible refine gC 38 rfl ?_);refine gL (some 4) Tryz.func38 #[.agg #[.int .i64 a0_0,.int .i64 a0_1]] ?_;(with_reducible refine (spec_EndInside.calls a0_0 a0_1 false _ A2.out).mono ?_);rintro e w24 ⟨rfl,hb⟩;refine ⟨_,rfl,?_⟩;replace BK3:=bkB BK3 hb;replace HB:=hbS HB hb;(try clear hb);have ⟨_,_,_,_⟩:=cf2 BK3) | (go_at_call 112;(with_reducible refine (spec_EndOutside.calls a0_0 a0_1 false _ A7.out).mono ?_);rintro e w26 ⟨rfl,hb⟩;replace BK3:=bkB BK3 hb;replace HB:=hbS HB hb;(try clear hb);have ⟨_,_,_,_⟩:=cf2 BK3))
    go_ret
    exact ⟨fi_,m4_⟩
def spec_EndText.f (k : Nat) (a0_0 : Int) (a0_1 : Int) : Option (ByteArray):=(spec_EndOk.f a0_0 a0_1).bind fun t473=>(if t473 = true then ((spec_l1Plain.f k a0_0).bind fun t474=>(if t474.size + 1 ≤ 9223372036854775807 then ((spec_l1Plain.f k a0_1).bind fun t475=>(if (t474 ++ (⟨#[32]⟩ : ByteArray)).size + t475.size ≤ 9223372036854775807 then (some ((t474 ++ (⟨#[32]⟩ : ByteArray)) ++ t475)) else (none))) else (none))) else (some (⟨#[]⟩ : ByteArray)))
theorem spec_EndText.mono : ∀ a0 a1 k,LeO (spec_EndText.f k a0 a1) (spec_EndText.f (k + 1) a0 a1):=by
 intro a0 a1 k;unfold spec_EndText.f
 repeat' first | (with_reducible first | exact spec_l1Plain.mono _ _ | exact LeO.refl _ | exact LeO.none _ | refine LeO.ite ?_ ?_ | refine LeO.bind ?_ (fun _=>?_)) | exact spec_l1Plain.mono _ _ | exact LeO.none _ | refine LeO.ite ?_ ?_ | refine LeO.bind ?_ (fun _=>?_)
def spec_EndText.T3 : Bool × List (List Nat × List Nat):=(true,[([],[]),([0],[0]),([1],[1]),([2],[2]),([],[]),([4],[4]),([5,2],[5]),([3,6],[3,6]),([7,6,0,1,2,3,4,5,6,7],[7])])
def spec_EndText.B3 : List Nat:=[0,1,3,7,0,16,55,127,255]
theorem spec_EndText.tab3 : rtab .any (opsOf Tryz.f197 3) = spec_EndText.T3:=by kernel_rfl
theorem spec_EndText.bits3 : waitsOk spec_EndText.T3.2 spec_EndText.B3 = true:=by kernel_rfl
set_option maxHeartbeats 8000000 in
set_option maxRecDepth 100000 in
theorem spec_EndText.calls (k : Nat) (a0_0 : Int) (a0_1 : Int) (r : ByteArray) (w : World) (h : spec_EndText.f k a0_0 a0_1 = some r) :
  Calls Tryz.prog 197 #[.agg #[.int .i64 a0_0,.int .i64 a0_1]] w fun e w'=>e = .returned (.string r) ∧ Below w.heap.size w w':=by
 have hu54:=Tryz.underlying54;have HB:=am (Below.refl w.heap.size w);have H : ((spec_EndOk.f a0_0 a0_1).bind fun t0=>(if t0 = true then ((spec_l1Plain.f k a0_0).bind fun t1=>(if t1.size + 1 ≤ 9223372036854775807 then ((spec_l1Plain.f k a0_1).bind fun t2=>(if (t1 ++ (⟨#[32]⟩ : ByteArray)).size + t2.size ≤ 9223372036854775807 then (some ((t1 ++ (⟨#[32]⟩ : ByteArray)) ++ t2)) else (none))) else (none))) else (some (⟨#[]⟩ : ByteArray)))) = some r:=h;clear h;obtain ⟨t0,A2,H⟩:=bse H
 try dsimp only at H
 by_cases c3 : t0 = true
 ·subst c3;rw [if_pos rfl] at H;obtain ⟨t1,A4,H⟩:=bse H
  try dsimp only at H
  by_cases c5 : t1.size + 1 ≤ 9223372036854775807
  ·rw [if_pos c5] at H;have c5b0:=eq_true c5;have c5b1 : decide (t1.size + 1 ≤ 9223372036854775807) = true:=decide_eq_true c5
   try have c5b2 : (9223372036854775807 < t1.size + 1) = False:=eq_false (Nat.not_lt.2 c5)
   obtain ⟨t2,A6,H⟩:=bse H
   try dsimp only at H
   by_cases c7 : (t1 ++ (⟨#[32]⟩ : ByteArray)).size + t2.size ≤ 9223372036854775807
   ·rw [if_pos c7] at H;have c7b0:=eq_true c7;have c7b1 : decide ((t1 ++ (⟨#[32]⟩ : ByteArray)).size + t2.size ≤ 9223372036854775807) = true:=decide_eq_true c7
    try have c7b2 : (9223372036854775807 < (t1 ++ (⟨#[32]⟩ : ByteArray)).size + t2.size) = False:=eq_false (Nat.not_lt.2 c7)
    try have c7b3 : (9223372036854775807 < t1.size + 1 + t2.size) = False:=(by have z_:=c7b2;simp only [ByteArray.size_append] at z_;exact z_)
    obtain rfl:=Option.some.inj H
    go_enter Tryz.func197,Tryz.ntmps197
    try go_wp2_with (first | ((with_reducible refine gD 1 rfl ?_);refine box_event rfl (N:=1) rfl (cs:=#[.int .i64 a0_0,.int .i64 a0_1]) (t:=54) hr_ ?_;intro gb3 hg w8 hbox hb;have BK3:=am hbox;have GW3:=gwE HB hg;have GE3:=gwE HB hg;replace HB:=hbS HB hb;clear hb hbox hg;have ⟨_,_,_,_⟩:=cf2 BK3) | ((with_reducible refine gC 93 rfl ?_);refine gL (some 4) Tryz.func93 #[.agg #[.int .i64 a0_0,.int .i64 a0_1]] ?_;(with_reducible refine (spec_EndOk.calls a0_0 a0_1 true _ A2.out).mono ?_);rintro e w10 ⟨rfl,hb⟩;refine ⟨_,rfl,?_⟩;replace BK3:=bkB BK3 hb;replace HB:=hbS HB hb;(try clear hb)))
    replace BK3:=am (blk_drew BK3.out);replace HB:=am (below_drew1 HB.out);refine start_ (n:=9) (S:=fun w'=>w'.cell? ⟨gb3,0,none⟩ = some (.int .i64 a0_0) ∧ w'.cell? ⟨gb3,1,none⟩ = some (.int .i64 a0_1)) (ds:=[]) #[false,false,false,false,false,false,false,false,false] (by kernel_rfl) rfl rfl ⟨bcell BK3 0,bcell BK3 1⟩ (fun hHeld=>?_);refine with_tabW spec_EndText.tab3 spec_EndText.bits3 (fun HT_ HW_=>?_);generalize w10.drew = w11 at BK3 HB hHeld ⊢;refine pu_ 0 (some 6) (bm 9 1) ?_;refine pu_ 4 (some 10) (bm 9 17) ?_;refine tk_ 1 (some 7) (bm 9 19) rfl (.inl ⟨rfl,m7_⟩) ?_;refine tk_ 5 (some 11) (bm 9 51) rfl (.inl ⟨rfl,m7_⟩) ?_;refine on_ 2 (some 8) (bm 9 55) (fun K hK=>?_);refine gR Tryz.func217 #[.int .i64 a0_0] ?_
    with_reducible refine (spec_l1Plain.calls k a0_0 t1 _ A4.out).mono ?_
    rintro e w12 ⟨rfl,hb⟩;refine ⟨_,rfl,?_⟩;replace BK3:=bkB BK3 hb;replace HB:=hbS HB hb;(try clear hb);(try clear hb2);(try clear hk);(try clear hi);refine hK.out _ _ ⟨bcell BK3 0,bcell BK3 1⟩ (fun hHeld=>?_);clear hK K;refine nm_ ?_;refine pu_ 3 (some 9) (bm 9 63) ?_;refine on_ 6 (some 12) (bm 9 127) (fun K hK=>?_);refine gR Tryz.func217 #[.int .i64 a0_1] ?_
    with_reducible refine (spec_l1Plain.calls k a0_1 t2 _ A6.out).mono ?_
    rintro e w13 ⟨rfl,hb⟩;refine ⟨_,rfl,?_⟩;replace BK3:=bkB BK3 hb;replace HB:=hbS HB hb;(try clear hb);(try clear hb2);(try clear hk);(try clear hi);refine hK.out _ _ ⟨bcell BK3 0,bcell BK3 1⟩ (fun hHeld=>?_);clear hK K;refine nm_ ?_;refine pu_ 7 (some 13) (bm 9 255) ?_;refine pu_ 8 (some 2) (bm 9 511) ?_;refine done_ (done_of HT_.out (by kernel_rfl)) ?_
    try go_wp2
    go_ret
    exact ⟨fi_,m4_⟩
   ·rw [if_neg c7] at H;exact absurd H (by simp)
  ·rw [if_neg c5] at H;exact absurd H (by simp)
 ·replace c3:=Bool.eq_false_iff.mpr c3;subst c3;rw [if_neg nft_] at H;obtain rfl:=Option.some.inj H
  go_enter Tryz.func197,Tryz.ntmps197
  go_wp2_with (first | ((with_reducible refine gD 1 rfl ?_);refine box_event rfl (N:=1) rfl (cs:=#[.int .i64 a0_0,.int .i64 a0_1]) (t:=54) hr_ ?_;intro gb3 hg w14 hbox hb;have BK3:=am hbox;have GW3:=gwE HB hg;have GE3:=gwE HB hg;replace HB:=hbS HB hb;clear hb hbox hg;have ⟨_,_,_,_⟩:=cf2 BK3) | ((with_reducible refine gC 93 rfl ?_);refine gL (some 4) Tryz.func93 #[.agg #[.int .i64 a0_0,.int .i64 a0_1]] ?_;(with_reducible refine (spec_EndOk.calls a0_0 a0_1 false _ A2.out).mono ?_);rintro e w16 ⟨rfl,hb⟩;refine ⟨_,rfl,?_⟩;replace BK3:=bkB BK3 hb;replace HB:=hbS HB hb;(try clear hb)))
  go_ret
  exact ⟨fi_,m4_⟩
def spec_LinPort.f (k : Nat) (a0_0 : Int) (a0_1 : Int) : Option (ByteArray):=(spec_EndOk.f a0_0 a0_1).bind fun t477=>(if t477 = true then ((spec_EndText.f k a0_0 a0_1).bind fun t478=>(if 5 + t478.size ≤ 9223372036854775807 then (some ((⟨#[112,111,114,116,32]⟩ : ByteArray) ++ t478)) else (none))) else (some (⟨#[]⟩ : ByteArray)))
theorem spec_LinPort.mono : ∀ a0 a1 k,LeO (spec_LinPort.f k a0 a1) (spec_LinPort.f (k + 1) a0 a1):=by
 intro a0 a1 k;unfold spec_LinPort.f
 repeat' first | (with_reducible first | exact spec_EndText.mono _ _ _ | exact LeO.refl _ | exact LeO.none _ | refine LeO.ite ?_ ?_ | refine LeO.bind ?_ (fun _=>?_)) | exact spec_EndText.mono _ _ _ | exact LeO.none _ | refine LeO.ite ?_ ?_ | refine LeO.bind ?_ (fun _=>?_)
set_option maxHeartbeats 8000000 in
set_option maxRecDepth 100000 in
theorem spec_LinPort.calls (k : Nat) (a0_0 : Int) (a0_1 : Int) (r : ByteArray) (w : World) (h : spec_LinPort.f k a0_0 a0_1 = some r) :
  Calls Tryz.prog 181 #[.agg #[.int .i64 a0_0,.int .i64 a0_1]] w fun e w'=>e = .returned (.string r) ∧ Below w.heap.size w w':=by
 have hu54:=Tryz.underlying54;have HB:=am (Below.refl w.heap.size w);have H : ((spec_EndOk.f a0_0 a0_1).bind fun t0=>(if t0 = true then ((spec_EndText.f k a0_0 a0_1).bind fun t1=>(if 5 + t1.size ≤ 9223372036854775807 then (some ((⟨#[112,111,114,116,32]⟩ : ByteArray) ++ t1)) else (none))) else (some (⟨#[]⟩ : ByteArray)))) = some r:=h;clear h;obtain ⟨t0,A2,H⟩:=bse H
 try dsimp only at H
 by_cases c3 : t0 = true
 ·subst c3;rw [if_pos rfl] at H;obtain ⟨t1,A4,H⟩:=bse H
  try dsimp only at H
  by_cases c5 : 5 + t1.size ≤ 9223372036854775807
  ·rw [if_pos c5] at H;have c5b0:=eq_true c5;have c5b1 : decide (5 + t1.size ≤ 9223372036854775807) = true:=decide_eq_true c5
   try have c5b2 : (9223372036854775807 < 5 + t1.size) = False:=eq_false (Nat.not_lt.2 c5)
   obtain rfl:=Option.some.inj H
   go_enter Tryz.func181,Tryz.ntmps181
   go_wp2_with (first | ((with_reducible refine gD 1 rfl ?_);refine box_event rfl (N:=1) rfl (cs:=#[.int .i64 a0_0,.int .i64 a0_1]) (t:=54) hr_ ?_;intro gb2 hg w6 hbox hb;have BK2:=am hbox;have GW2:=gwE HB hg;have GE2:=gwE HB hg;replace HB:=hbS HB hb;clear hb hbox hg;have ⟨_,_,_,_⟩:=cf2 BK2) | ((with_reducible refine gC 93 rfl ?_);refine gL (some 4) Tryz.func93 #[.agg #[.int .i64 a0_0,.int .i64 a0_1]] ?_;(with_reducible refine (spec_EndOk.calls a0_0 a0_1 true _ A2.out).mono ?_);rintro e w8 ⟨rfl,hb⟩;refine ⟨_,rfl,?_⟩;replace BK2:=bkB BK2 hb;replace HB:=hbS HB hb;(try clear hb);have ⟨_,_,_,_⟩:=cf2 BK2) | ((with_reducible refine gC 197 rfl ?_);refine gL (some 7) Tryz.func197 #[.agg #[.int .i64 a0_0,.int .i64 a0_1]] ?_;(with_reducible refine (spec_EndText.calls k a0_0 a0_1 t1 _ A4.out).mono ?_);rintro e w10 ⟨rfl,hb⟩;refine ⟨_,rfl,?_⟩;replace BK2:=bkB BK2 hb;replace HB:=hbS HB hb;(try clear hb)))
   go_ret
   exact ⟨fi_,m4_⟩
  ·rw [if_neg c5] at H;exact absurd H (by simp)
 ·replace c3:=Bool.eq_false_iff.mpr c3;subst c3;rw [if_neg nft_] at H;obtain rfl:=Option.some.inj H
  go_enter Tryz.func181,Tryz.ntmps181
  go_wp2_with (first | ((with_reducible refine gD 1 rfl ?_);refine box_event rfl (N:=1) rfl (cs:=#[.int .i64 a0_0,.int .i64 a0_1]) (t:=54) hr_ ?_;intro gb2 hg w11 hbox hb;have BK2:=am hbox;have GW2:=gwE HB hg;have GE2:=gwE HB hg;replace HB:=hbS HB hb;clear hb hbox hg;have ⟨_,_,_,_⟩:=cf2 BK2) | ((with_reducible refine gC 93 rfl ?_);refine gL (some 4) Tryz.func93 #[.agg #[.int .i64 a0_0,.int .i64 a0_1]] ?_;(with_reducible refine (spec_EndOk.calls a0_0 a0_1 false _ A2.out).mono ?_);rintro e w13 ⟨rfl,hb⟩;refine ⟨_,rfl,?_⟩;replace BK2:=bkB BK2 hb;replace HB:=hbS HB hb;(try clear hb)))
  go_ret
  exact ⟨fi_,m4_⟩
def spec_StrLines.l0 : Nat → ByteArray → List ByteArray → Int → Int → Option (List ByteArray × ByteArray)
 | 0,_,_,_,_=>none
 | k + 1,x0,x4,x5,x6=>if x6 < (x0.size : Int) then (if 0 ≤ x6 then (if (bt x0 x6) = 59 then (if 0 ≤ x5 then (if x5 ≤ x6 then (if x6 ≤ (x0.size : Int) then (if x4.length < 8796093022208 then (spec_StrLines.l0 k x0 (x4 ++ [x0.extract (x5 : Int).toNat (x6 : Int).toNat]) (wrap64 (x6 + 1)) (wrap64 (x6 + 1))) else (none)) else (none)) else (none)) else (none)) else (spec_StrLines.l0 k x0 x4 x5 (wrap64 (x6 + 1)))) else (none)) else (if 0 ≤ x5 then (if x5 ≤ (x0.size : Int) then (some (x4,x0.extract (x5 : Int).toNat x0.size)) else (none)) else (none))
def spec_StrLines.f (k : Nat) (a0 : ByteArray) : Option (List ByteArray × ByteArray):=spec_StrLines.l0 k a0 (([] : List ByteArray)) 0 0
theorem spec_StrLines.mono_l : ∀ k,(∀ y0 y1 y2 y3,LeO (spec_StrLines.l0 k y0 y1 y2 y3) (spec_StrLines.l0 (k + 1) y0 y1 y2 y3))
 | 0=>fun _ _ _ _ r h=>by simp [spec_StrLines.l0] at h
 | k + 1=>by
  have ih0:=spec_StrLines.mono_l k
  ·intro y0 y1 y2 y3;unfold spec_StrLines.l0
   repeat' first | (with_reducible first | exact ih0 _ _ _ _ | exact LeO.refl _ | exact LeO.none _ | refine LeO.ite ?_ ?_ | refine LeO.bind ?_ (fun _=>?_)) | exact ih0 _ _ _ _ | exact LeO.none _ | refine LeO.ite ?_ ?_ | refine LeO.bind ?_ (fun _=>?_)
theorem spec_StrLines.mono : ∀ a0 k,LeO (spec_StrLines.f k a0) (spec_StrLines.f (k + 1) a0):=by
 intro a0 k;have ih0:=spec_StrLines.mono_l k;unfold spec_StrLines.f
 repeat' first | (with_reducible first | exact ih0 _ _ _ _ | exact LeO.refl _ | exact LeO.none _ | refine LeO.ite ?_ ?_ | refine LeO.bind ?_ (fun _=>?_)) | exact ih0 _ _ _ _ | exact LeO.none _ | refine LeO.ite ?_ ?_ | refine LeO.bind ?_ (fun _=>?_)
set_option maxHeartbeats 8000000 in
set_option maxRecDepth 100000 in
theorem spec_StrLines.calls (k : Nat) (a0 : ByteArray) (r1 : List ByteArray) (r2 : ByteArray) (w : World) (h : spec_StrLines.f k a0 = some (r1,r2)) :
  Calls Tryz.prog 158 #[.string a0] w fun e w'=>∃ v0_ : Value,e = .returned (.tuple #[v0_,.string r2]) ∧ Kd.R Kd.string 9 w' w.heap.size (fun _=>True) v0_ r1 ∧ Below w.heap.size w w':=by
 have HB:=am (Below.refl w.heap.size w);have H : (spec_StrLines.l0 k a0 (([] : List ByteArray)) 0 0) = some (r1,r2):=h;clear h;obtain ⟨y0,hy0⟩ : ∃ y_ : List ByteArray,y_ = (([] : List ByteArray)):=⟨_,rfl⟩;replace H : (spec_StrLines.l0 k a0 y0 0 0) = some (r1,r2):=by first | (rw [hy0];with_reducible exact H) | (have H2_:=(Option.bind_some _ _).symm.trans H;rw [hy0];with_reducible exact H2_) | (have H2_:=(Option.bind_some _ _).symm.trans H;with_reducible exact H2_) | with_reducible exact H | (rw [hy0];exact H) | exact H
 have Ny0:=am hy0;clear hy0;have H':=am H;clear H
 go_enter Tryz.func158,Tryz.ntmps158
 iterate 4 ((try go_quiet (fail));(try go_wp2_with (first | ((with_reducible refine gD 7 rfl ?_);refine Kd.R_lit Kd.string _ 9 rfl (N:=7) rfl (xs:=([] : List ByteArray)) (inner:=[]) (ok:=fun _=>True) (okp:=fun _=>True) hr_ ?hp (fun _ hk=>hk) trivial (Below.refl _ _) (Nat.le_refl _) (by simp) ?_;(case hp=>exact (Reps.none _ _));intro v1 w2 ho3 hb hg_ hnew_;clear hg_ hnew_;(first | rw [← Ny0.out] at ho3 | (simp only [Int.reduceToNat] at ho3;rw [← Ny0.out] at ho3));have HO3:=am (Kd.R_lower ho3 (below_size (bl HB)));replace HB:=hbS HB hb;clear hb ho3))))
 go_loopg [4,5,6] k (fun kq v4 v5 v6 w'=>∃ (x4_1 : List ByteArray) (x5_1 : Int) (x6_1 : Int),v5 = .int .i64 x5_1 ∧ v6 = .int .i64 x6_1 ∧ Aside0 (spec_StrLines.l0 kq a0 x4_1 x5_1 x6_1 = some (r1,r2)) ∧ Aside0 (kq ≤ k) ∧ Aside0 (Kd.R Kd.string 9 w' w.heap.size (fun _=>True) v4 x4_1) ∧ Aside0 (Below w.heap.size w w'))
 case atStart=>exact ⟨(y0),(0),(0),rs_,rs_,H',⟨Nat.le_refl _⟩,⟨by (with_reducible repeat apply ru);exact HO3.out⟩,⟨m0_⟩⟩
 case round=>
  clear H';(try clear c1);(try clear p2);obtain ⟨x4_1,x5_1,x6_1,rfl,rfl,HA,HK1,HO_4,HB⟩:=hrel
  cases gk with
  | zero=>exact absurd HA.out (by simp [spec_StrLines.l0])
  | succ k1=>
   have H:=HA.out;clear HA;simp only [spec_StrLines.l0] at H
   by_cases c4 : x6_1 < (a0.size : Int)
   ·rw [if_pos c4] at H;have c4b0 : decide (x6_1 < (a0.size : Int)) = true:=decide_eq_true c4;clear c4
    by_cases c5 : 0 ≤ x6_1
    ·rw [if_pos c5] at H;have c5b0 : decide (0 ≤ x6_1) = true:=decide_eq_true c5;clear c5
     by_cases c7 : (bt a0 x6_1) = 59
     ·rw [if_pos c7] at H;have c7b0 : ((bt a0 x6_1) == 59) = true:=beq_iff_eq.mpr c7;have c7b1 : ((bt a0 x6_1) != 59) = false:=bne_eq_false_iff_eq.mpr c7;clear c7
      by_cases c8 : 0 ≤ x5_1
      ·rw [if_pos c8] at H;have c8b0:=eq_true c8;have c8b1 : decide (0 ≤ x5_1) = true:=decide_eq_true c8;clear c8
       by_cases c9 : x5_1 ≤ x6_1
       ·rw [if_pos c9] at H;have c9b0:=eq_true c9;have c9b1 : decide (x5_1 ≤ x6_1) = true:=decide_eq_true c9;clear c9
        by_cases c10 : x6_1 ≤ (a0.size : Int)
        ·rw [if_pos c10] at H;have c10b0:=eq_true c10;have c10b1 : decide (x6_1 ≤ (a0.size : Int)) = true:=decide_eq_true c10;clear c10
         by_cases c11 : x4_1.length < 8796093022208
         ·rw [if_pos c11] at H;have LMc11:=am c11;clear c11;obtain ⟨y7,hy7⟩ : ∃ y_ : List ByteArray,y_ = (x4_1 ++ [a0.extract (x5_1 : Int).toNat (x6_1 : Int).toNat]):=⟨_,rfl⟩;replace H : (spec_StrLines.l0 k1 a0 y7 (wrap64 (x6_1 + 1)) (wrap64 (x6_1 + 1))) = some (r1,r2):=by first | (rw [hy7];with_reducible exact H) | (have H2_:=(Option.bind_some _ _).symm.trans H;rw [hy7];with_reducible exact H2_) | (have H2_:=(Option.bind_some _ _).symm.trans H;with_reducible exact H2_) | with_reducible exact H | (rw [hy7];exact H) | exact H
          have Ny7:=am hy7;clear hy7;have H':=am H;clear H;have p6 : 0 ≤ (x6_1 : Int):=of_decide_eq_true da_;have q6 : x6_1 < (a0.size : Int):=of_decide_eq_true da_;have hx6:=bt_at a0 x6_1;replace p6:=eq_true p6;replace q6:=eq_true q6
          iterate 4 ((try go_quiet (fail));(try go_wp2_with (first | ((with_reducible refine gate_builtin (b:=.append) (xs:=#[.tmp 18,.tmp 23]) rfl ?_);at_builtin;refine Kd.R_append Kd.string (w0:=w) w.heap.size rfl (.tmp 18) (.tmp 23) 71 9 (.string ⟨#[]⟩) 16 rfl Tryz.underlying71 info9 rfl (by decide) (by omega) u4 x4_1 (a0.extract (x5_1 : Int).toNat (x6_1 : Int).toNat) [.string (a0.extract (x5_1 : Int).toNat (x6_1 : Int).toNat)] (fun _=>True) (fun _=>False) rfl rfl ?aP (fun _ hk=>hk.elim) ?aF ?aO ?aB ?aS ?aL ?_;(case aP=>exact rfl);(case aB=>exact (bl HB));(case aF=>exact (fun _ _=>trivial));(case aO=>exact (rs HO_4));(case aS=>exact (below_size (bl HB)));(case aL=>have:=LMc11.out;omega);intro v8 w12 ho hb hg hat;rw [← Ny7.out] at ho;replace HB:=am hb;have HO9:=am (ho);clear HO_4;clear ho hb hg hat))))
          go_roundg k1
          case measure=>have:=HK1.out;omega
          case rel=>exact ⟨(y7),(wrap64 (x6_1 + 1)),(wrap64 (x6_1 + 1)),rs_,rs_,H',⟨by have:=HK1.out;omega⟩,⟨by (with_reducible repeat apply ru);exact HO9.out⟩,⟨m0_⟩⟩
         ·rw [if_neg c11] at H;exact absurd H (by simp)
        ·rw [if_neg c10] at H;exact absurd H (by simp)
       ·rw [if_neg c9] at H;exact absurd H (by simp)
      ·rw [if_neg c8] at H;exact absurd H (by simp)
     ·rw [if_neg c7] at H;have c7b0 : ((bt a0 x6_1) == 59) = false:=beq_eq_false_iff_ne.mpr c7;have c7b1 : ((bt a0 x6_1) != 59) = true:=bne_iff_ne.mpr c7;have H':=am H;clear H;have p6 : 0 ≤ (x6_1 : Int):=of_decide_eq_true da_;have q6 : x6_1 < (a0.size : Int):=of_decide_eq_true da_;have hx6:=bt_at a0 x6_1;replace p6:=eq_true p6;replace q6:=eq_true q6
      go_wp2
      repeat (go_quiet (fail);try go_wp2)
      go_roundg k1
      case measure=>have:=HK1.out;omega
      case rel=>exact ⟨(x4_1),(x5_1),(wrap64 (x6_1 + 1)),rs_,rs_,H',⟨by have:=HK1.out;omega⟩,⟨by (with_reducible repeat apply ru);exact HO_4.out⟩,⟨m0_⟩⟩
    ·rw [if_neg c5] at H;exact absurd H (by simp)
   ·rw [if_neg c4] at H;have c4b0 : decide (x6_1 < (a0.size : Int)) = false:=decide_eq_false c4;clear c4
    by_cases c13 : 0 ≤ x5_1
    ·rw [if_pos c13] at H;have c13b0:=eq_true c13;have c13b1 : decide (0 ≤ x5_1) = true:=decide_eq_true c13;clear c13
     by_cases c14 : x5_1 ≤ (a0.size : Int)
     ·rw [if_pos c14] at H;have c14b0:=eq_true c14;have c14b1 : decide (x5_1 ≤ (a0.size : Int)) = true:=decide_eq_true c14;clear c14;simp only [Option.some.injEq,Prod.mk.injEq] at H;obtain ⟨rfl,rfl⟩:=H
      go_wp2
      repeat (go_quiet (fail);try go_wp2)
      go_ret2
      exact ⟨_,fi_,by (with_reducible repeat apply ru);exact HO_4.out,m0_⟩
     ·rw [if_neg c14] at H;exact absurd H (by simp)
    ·rw [if_neg c13] at H;exact absurd H (by simp)
def spec_l1Words.l0 : Nat → ByteArray → List ByteArray → ByteArray → Int → Option (List ByteArray)
 | 0,_,_,_,_=>none
 | k + 1,x0,x3,x4,x5=>if x5 < (x0.size : Int) then (if 0 ≤ x5 then (if (bt x0 x5) = 32 then (if x3.length < 8796093022208 then (spec_l1Words.l0 k x0 (x3 ++ [x4]) (⟨#[]⟩ : ByteArray) (wrap64 (x5 + 1))) else (none)) else (if x5 ≤ (wrap64 (x5 + 1)) then (if (wrap64 (x5 + 1)) ≤ (x0.size : Int) then (if x4.size + (x0.extract (x5 : Int).toNat ((wrap64 (x5 + 1)) : Int).toNat).size ≤ 9223372036854775807 then (spec_l1Words.l0 k x0 x3 (x4 ++ (x0.extract (x5 : Int).toNat ((wrap64 (x5 + 1)) : Int).toNat)) (wrap64 (x5 + 1))) else (none)) else (none)) else (none))) else (none)) else (if x3.length < 8796093022208 then (some (x3 ++ [x4])) else (none))
def spec_l1Words.f (k : Nat) (a0 : ByteArray) : Option (List ByteArray):=spec_l1Words.l0 k a0 (([] : List ByteArray)) (⟨#[]⟩ : ByteArray) 0
theorem spec_l1Words.mono_l : ∀ k,(∀ y0 y1 y2 y3,LeO (spec_l1Words.l0 k y0 y1 y2 y3) (spec_l1Words.l0 (k + 1) y0 y1 y2 y3))
 | 0=>fun _ _ _ _ r h=>by simp [spec_l1Words.l0] at h
 | k + 1=>by
  have ih0:=spec_l1Words.mono_l k
  ·intro y0 y1 y2 y3;unfold spec_l1Words.l0
   repeat' first | (with_reducible first | exact ih0 _ _ _ _ | exact LeO.refl _ | exact LeO.none _ | refine LeO.ite ?_ ?_ | refine LeO.bind ?_ (fun _=>?_)) | exact ih0 _ _ _ _ | exact LeO.none _ | refine LeO.ite ?_ ?_ | refine LeO.bind ?_ (fun _=>?_)
theorem spec_l1Words.mono : ∀ a0 k,LeO (spec_l1Words.f k a0) (spec_l1Words.f (k + 1) a0):=by
 intro a0 k;have ih0:=spec_l1Words.mono_l k;unfold spec_l1Words.f
 repeat' first | (with_reducible first | exact ih0 _ _ _ _ | exact LeO.refl _ | exact LeO.none _ | refine LeO.ite ?_ ?_ | refine LeO.bind ?_ (fun _=>?_)) | exact ih0 _ _ _ _ | exact LeO.none _ | refine LeO.ite ?_ ?_ | refine LeO.bind ?_ (fun _=>?_)
set_option maxHeartbeats 8000000 in
set_option maxRecDepth 100000 in
theorem spec_l1Words.calls (k : Nat) (a0 : ByteArray) (r : List ByteArray) (w : World) (h : spec_l1Words.f k a0 = some r) :
  Calls Tryz.prog 215 #[.string a0] w fun e w'=>∃ v0_ : Value,e = .returned (v0_) ∧ Kd.R Kd.string 9 w' w.heap.size (fun _=>True) v0_ r ∧ Below w.heap.size w w':=by
 have HB:=am (Below.refl w.heap.size w);have H : (spec_l1Words.l0 k a0 (([] : List ByteArray)) (⟨#[]⟩ : ByteArray) 0) = some r:=h;clear h;obtain ⟨y0,hy0⟩ : ∃ y_ : List ByteArray,y_ = (([] : List ByteArray)):=⟨_,rfl⟩;replace H : (spec_l1Words.l0 k a0 y0 (⟨#[]⟩ : ByteArray) 0) = some r:=by first | (rw [hy0];with_reducible exact H) | (have H2_:=(Option.bind_some _ _).symm.trans H;rw [hy0];with_reducible exact H2_) | (have H2_:=(Option.bind_some _ _).symm.trans H;with_reducible exact H2_) | with_reducible exact H | (rw [hy0];exact H) | exact H
 have Ny0:=am hy0;clear hy0;have H':=am H;clear H
 go_enter Tryz.func215,Tryz.ntmps215
 go_wp2_with (first | ((with_reducible refine gD 6 rfl ?_);refine Kd.R_lit Kd.string _ 9 rfl (N:=6) rfl (xs:=([] : List ByteArray)) (inner:=[]) (ok:=fun _=>True) (okp:=fun _=>True) hr_ ?hp (fun _ hk=>hk) trivial (Below.refl _ _) (Nat.le_refl _) (by simp) ?_;(case hp=>exact (Reps.none _ _));intro v1 w2 ho3 hb hg_ hnew_;clear hg_ hnew_;(first | rw [← Ny0.out] at ho3 | (simp only [Int.reduceToNat] at ho3;rw [← Ny0.out] at ho3));have HO7:=am (Kd.R_lower ho3 (below_size (bl HB)));replace HB:=hbS HB hb;clear hb ho3))
 go_loopg [3,4,5] k (fun kq v3 v4 v5 w'=>∃ (x3_1 : List ByteArray) (x4_1 : ByteArray) (x5_1 : Int),v4 = .string x4_1 ∧ v5 = .int .i64 x5_1 ∧ Aside0 (spec_l1Words.l0 kq a0 x3_1 x4_1 x5_1 = some r) ∧ Aside0 (kq ≤ k) ∧ Aside0 (Kd.R Kd.string 9 w' w.heap.size (fun _=>True) v3 x3_1) ∧ Aside0 (Below w.heap.size w w'))
 case atStart=>exact ⟨(y0),((⟨#[]⟩ : ByteArray)),(0),rs_,rs_,H',⟨Nat.le_refl _⟩,⟨by (with_reducible repeat apply ru);exact HO7.out⟩,⟨m0_⟩⟩
 case round=>
  clear H';(try clear c2);(try clear p2);obtain ⟨x3_1,x4_1,x5_1,rfl,rfl,HA,HK1,HO_3,HB⟩:=hrel
  cases gk with
  | zero=>exact absurd HA.out (by simp [spec_l1Words.l0])
  | succ k1=>
   have H:=HA.out;clear HA;simp only [spec_l1Words.l0] at H
   by_cases c4 : x5_1 < (a0.size : Int)
   ·rw [if_pos c4] at H;have c4b0 : decide (x5_1 < (a0.size : Int)) = true:=decide_eq_true c4;clear c4
    by_cases c5 : 0 ≤ x5_1
    ·rw [if_pos c5] at H;have c5b0 : decide (0 ≤ x5_1) = true:=decide_eq_true c5;clear c5
     by_cases c7 : (bt a0 x5_1) = 32
     ·rw [if_pos c7] at H;have c7b0 : ((bt a0 x5_1) == 32) = true:=beq_iff_eq.mpr c7;have c7b1 : ((bt a0 x5_1) != 32) = false:=bne_eq_false_iff_eq.mpr c7;clear c7
      by_cases c8 : x3_1.length < 8796093022208
      ·rw [if_pos c8] at H;have LMc8:=am c8;clear c8;obtain ⟨y8,hy8⟩ : ∃ y_ : List ByteArray,y_ = (x3_1 ++ [x4_1]):=⟨_,rfl⟩;replace H : (spec_l1Words.l0 k1 a0 y8 (⟨#[]⟩ : ByteArray) (wrap64 (x5_1 + 1))) = some r:=by first | (rw [hy8];with_reducible exact H) | (have H2_:=(Option.bind_some _ _).symm.trans H;rw [hy8];with_reducible exact H2_) | (have H2_:=(Option.bind_some _ _).symm.trans H;with_reducible exact H2_) | with_reducible exact H | (rw [hy8];exact H) | exact H
       have Ny8:=am hy8;clear hy8;have H':=am H;clear H;have p6 : 0 ≤ (x5_1 : Int):=of_decide_eq_true da_;have q6 : x5_1 < (a0.size : Int):=of_decide_eq_true da_;have hx6:=bt_at a0 x5_1;replace p6:=eq_true p6;replace q6:=eq_true q6
       go_wp2_with (first | ((with_reducible refine gate_builtin (b:=.append) (xs:=#[.tmp 17,.tmp 19]) rfl ?_);at_builtin;refine Kd.R_append Kd.string (w0:=w) w.heap.size rfl (.tmp 17) (.tmp 19) 71 9 (.string ⟨#[]⟩) 16 rfl Tryz.underlying71 info9 rfl (by decide) (by omega) u3 x3_1 x4_1 [.string x4_1] (fun _=>True) (fun _=>False) rfl rfl ?aP (fun _ hk=>hk.elim) ?aF ?aO ?aB ?aS ?aL ?_;(case aP=>exact rfl);(case aB=>exact (bl HB));(case aF=>exact (fun _ _=>trivial));(case aO=>exact (rs HO_3));(case aS=>exact (below_size (bl HB)));(case aL=>have:=LMc8.out;omega);intro v9 w9 ho hb hg hat;rw [← Ny8.out] at ho;replace HB:=am hb;have HO10:=am (ho);clear HO_3;clear ho hb hg hat))
       go_roundg k1
       case measure=>have:=HK1.out;omega
       case rel=>exact ⟨(y8),((⟨#[]⟩ : ByteArray)),(wrap64 (x5_1 + 1)),rs_,rs_,H',⟨by have:=HK1.out;omega⟩,⟨by (with_reducible repeat apply ru);exact HO10.out⟩,⟨m0_⟩⟩
      ·rw [if_neg c8] at H;exact absurd H (by simp)
     ·rw [if_neg c7] at H;have c7b0 : ((bt a0 x5_1) == 32) = false:=beq_eq_false_iff_ne.mpr c7;have c7b1 : ((bt a0 x5_1) != 32) = true:=bne_iff_ne.mpr c7;have c10b0:=eq_true (of_decide_eq_true da_ : 0 ≤ x5_1)
      by_cases c11 : x5_1 ≤ (wrap64 (x5_1 + 1))
      ·rw [if_pos c11] at H;have c11b0:=eq_true c11;have c11b1 : decide (x5_1 ≤ (wrap64 (x5_1 + 1))) = true:=decide_eq_true c11
       by_cases c12 : (wrap64 (x5_1 + 1)) ≤ (a0.size : Int)
       ·rw [if_pos c12] at H;have c12b0:=eq_true c12;have c12b1 : decide ((wrap64 (x5_1 + 1)) ≤ (a0.size : Int)) = true:=decide_eq_true c12
        by_cases c13 : x4_1.size + (a0.extract (x5_1 : Int).toNat ((wrap64 (x5_1 + 1)) : Int).toNat).size ≤ 9223372036854775807
        ·rw [if_pos c13] at H;have c13b0:=eq_true c13;have c13b1 : decide (x4_1.size + (a0.extract (x5_1 : Int).toNat ((wrap64 (x5_1 + 1)) : Int).toNat).size ≤ 9223372036854775807) = true:=decide_eq_true c13
         try have c13b2 : (9223372036854775807 < x4_1.size + (a0.extract (x5_1 : Int).toNat ((wrap64 (x5_1 + 1)) : Int).toNat).size) = False:=eq_false (Nat.not_lt.2 c13)
         have H':=am H;clear H;have p6 : 0 ≤ (x5_1 : Int):=of_decide_eq_true da_;have q6 : x5_1 < (a0.size : Int):=of_decide_eq_true da_;have hx6:=bt_at a0 x5_1;replace p6:=eq_true p6;replace q6:=eq_true q6
         go_wp2
         go_roundg k1
         case measure=>have:=HK1.out;omega
         case rel=>exact ⟨(x3_1),(x4_1 ++ (a0.extract (x5_1 : Int).toNat ((wrap64 (x5_1 + 1)) : Int).toNat)),(wrap64 (x5_1 + 1)),rs_,rs_,H',⟨by have:=HK1.out;omega⟩,⟨by (with_reducible repeat apply ru);exact HO_3.out⟩,⟨m0_⟩⟩
        ·rw [if_neg c13] at H;exact absurd H (by simp)
       ·rw [if_neg c12] at H;exact absurd H (by simp)
      ·rw [if_neg c11] at H;exact absurd H (by simp)
    ·rw [if_neg c5] at H;exact absurd H (by simp)
   ·rw [if_neg c4] at H;have c4b0 : decide (x5_1 < (a0.size : Int)) = false:=decide_eq_false c4;clear c4
    by_cases c14 : x3_1.length < 8796093022208
    ·rw [if_pos c14] at H;have LMc14:=am c14;clear c14;obtain ⟨y11,hy11⟩ : ∃ y_ : List ByteArray,y_ = (x3_1 ++ [x4_1]):=⟨_,rfl⟩;replace H : (some y11) = some r:=by first | (rw [hy11];with_reducible exact H) | (have H2_:=(Option.bind_some _ _).symm.trans H;rw [hy11];with_reducible exact H2_) | (have H2_:=(Option.bind_some _ _).symm.trans H;with_reducible exact H2_) | with_reducible exact H | (rw [hy11];exact H) | exact H
     have Ny11:=am hy11;clear hy11;obtain rfl:=Option.some.inj H
     go_wp2_with (first | ((with_reducible refine gate_builtin (b:=.append) (xs:=#[.tmp 28,.tmp 30]) rfl ?_);at_builtin;refine Kd.R_append Kd.string (w0:=w) w.heap.size rfl (.tmp 28) (.tmp 30) 71 9 (.string ⟨#[]⟩) 16 rfl Tryz.underlying71 info9 rfl (by decide) (by omega) u3 x3_1 x4_1 [.string x4_1] (fun _=>True) (fun _=>False) rfl rfl ?aP (fun _ hk=>hk.elim) ?aF ?aO ?aB ?aS ?aL ?_;(case aP=>exact rfl);(case aB=>exact (bl HB));(case aF=>exact (fun _ _=>trivial));(case aO=>exact (rs HO_3));(case aS=>exact (below_size (bl HB)));(case aL=>have:=LMc14.out;omega);intro v12 w15 ho hb hg hat;rw [← Ny11.out] at ho;replace HB:=am hb;have HO13:=am (ho);clear HO_3;clear ho hb hg hat))
     go_ret
     exact ⟨_,fi_,by (with_reducible repeat apply ru);exact HO13.out,m0_⟩
    ·rw [if_neg c14] at H;exact absurd H (by simp)
mutual
def spec_l1Num.j0 : Nat → ByteArray → Bool → Option (Int)
 | 0,_,_=>none
 | k + 1,x0,x12=>if x12 = true then (some (-1)) else (spec_l1Num.l0 k x0 0 0)
def spec_l1Num.l0 : Nat → ByteArray → Int → Int → Option (Int)
 | 0,_,_,_=>none
 | k + 1,x0,x3,x4=>if x4 < (x0.size : Int) then (if 0 ≤ x4 then (if (bt x0 x4) < 48 then (some (-1)) else (if (bt x0 x4) > 57 then (some (-1)) else (spec_l1Num.l0 k x0 (wrap64 ((wrap64 (x3 * 10)) + (((bt x0 x4) - 48) % 256))) (wrap64 (x4 + 1))))) else (none)) else ((spec_l1Plain.f k x3).bind fun t488=>(if t488.toList = x0.toList then (some x3) else (some (-1))))
end
def spec_l1Num.f (k : Nat) (a0 : ByteArray) : Option (Int):=if (a0.size : Int) = 0 then (spec_l1Num.j0 k a0 true) else (spec_l1Num.j0 k a0 (decide ((a0.size : Int) > 4)))
theorem spec_l1Num.mono_l : ∀ k,(∀ y0 y1,LeO (spec_l1Num.j0 k y0 y1) (spec_l1Num.j0 (k + 1) y0 y1)) ∧ (∀ y0 y1 y2,LeO (spec_l1Num.l0 k y0 y1 y2) (spec_l1Num.l0 (k + 1) y0 y1 y2))
 | 0=>⟨fun _ _ r h=>by simp [spec_l1Num.j0] at h,fun _ _ _ r h=>by simp [spec_l1Num.l0] at h⟩
 | k + 1=>by
  obtain ⟨ih0,ih1⟩:=spec_l1Num.mono_l k;refine ⟨?_,?_⟩
  ·intro y0 y1;unfold spec_l1Num.j0
   repeat' first | (with_reducible first | exact ih0 _ _ | exact ih1 _ _ _ | exact spec_l1Plain.mono _ _ | exact LeO.refl _ | exact LeO.none _ | refine LeO.ite ?_ ?_ | refine LeO.bind ?_ (fun _=>?_)) | exact ih0 _ _ | exact ih1 _ _ _ | exact spec_l1Plain.mono _ _ | exact LeO.none _ | refine LeO.ite ?_ ?_ | refine LeO.bind ?_ (fun _=>?_)
  ·intro y0 y1 y2;unfold spec_l1Num.l0
   repeat' first | (with_reducible first | exact ih0 _ _ | exact ih1 _ _ _ | exact spec_l1Plain.mono _ _ | exact LeO.refl _ | exact LeO.none _ | refine LeO.ite ?_ ?_ | refine LeO.bind ?_ (fun _=>?_)) | exact ih0 _ _ | exact ih1 _ _ _ | exact spec_l1Plain.mono _ _ | exact LeO.none _ | refine LeO.ite ?_ ?_ | refine LeO.bind ?_ (fun _=>?_)
theorem spec_l1Num.mono : ∀ a0 k,LeO (spec_l1Num.f k a0) (spec_l1Num.f (k + 1) a0):=by
 intro a0 k;obtain ⟨ih0,ih1⟩:=spec_l1Num.mono_l k;unfold spec_l1Num.f
 repeat' first | (with_reducible first | exact ih0 _ _ | exact ih1 _ _ _ | exact spec_l1Plain.mono _ _ | exact LeO.refl _ | exact LeO.none _ | refine LeO.ite ?_ ?_ | refine LeO.bind ?_ (fun _=>?_)) | exact ih0 _ _ | exact ih1 _ _ _ | exact spec_l1Plain.mono _ _ | exact LeO.none _ | refine LeO.ite ?_ ?_ | refine LeO.bind ?_ (fun _=>?_)
set_option maxHeartbeats 8000000 in
set_option maxRecDepth 100000 in
theorem spec_l1Num.calls (k : Nat) (a0 : ByteArray) (r : Int) (w : World) (h : spec_l1Num.f k a0 = some r) :
  Calls Tryz.prog 216 #[.string a0] w fun e w'=>e = .returned (.int .i64 r) ∧ Below w.heap.size w w':=by
 have HB:=am (Below.refl w.heap.size w);have H : (if (a0.size : Int) = 0 then (spec_l1Num.j0 k a0 true) else (spec_l1Num.j0 k a0 (decide ((a0.size : Int) > 4)))) = some r:=h;clear h;have HC2:=am H;clear H
 go_enter Tryz.func216,Tryz.ntmps216
 go_upto_region 1 with (fail)
 go_cut [12] (fun v12 wc=>∃ (kq : Nat) (x12_1 : Bool),v12 = .bool x12_1 ∧ Aside0 (spec_l1Num.j0 kq a0 x12_1 = some r) ∧ Aside0 (kq ≤ k) ∧ Aside0 (Below w.heap.size w wc))
 case first=>
  have H:=HC2.out;clear HC2
  by_cases c3 : (a0.size : Int) = 0
  ·rw [if_pos c3] at H;have c3b0 : ((a0.size : Int) == 0) = true:=beq_iff_eq.mpr c3;have c3b1 : ((a0.size : Int) != 0) = false:=bne_eq_false_iff_eq.mpr c3;clear c3;(first | rw [c3b0] | (simp only [i64_w,i32_w];rw [c3b0]) | skip);have H':=am H;clear H
   go_wp2
   go_meet
   case rel=>exact ⟨_,(true),rs_,H',⟨by first | omega | exact Nat.le_refl _⟩,⟨m0_⟩⟩
  ·rw [if_neg c3] at H;have c3b0 : ((a0.size : Int) == 0) = false:=beq_eq_false_iff_ne.mpr c3;have c3b1 : ((a0.size : Int) != 0) = true:=bne_iff_ne.mpr c3;(first | rw [c3b0] | (simp only [i64_w,i32_w];rw [c3b0]) | skip);have H':=am H;clear H
   go_wp2
   go_meet
   case rel=>exact ⟨_,(decide ((a0.size : Int) > 4)),rs_,H',⟨by first | omega | exact Nat.le_refl _⟩,⟨m0_⟩⟩
 case rest=>
  clear HC2;(try clear c2);(try clear p2);(try clear c3);(try clear c3b0);(try clear c3b1);obtain ⟨kq,x12_1,rfl,HA,HJ1,HB⟩:=hcut
  cases kq with
  | zero=>exact absurd HA.out (by simp [spec_l1Num.j0])
  | succ kj1=>
   have H:=HA.out;clear HA;simp only [spec_l1Num.j0] at H
   by_cases c4 : x12_1 = true
   ·subst c4;rw [if_pos rfl] at H;obtain rfl:=Option.some.inj H
    go_wp2
    go_ret
    exact ⟨fi_,m0_⟩
   ·replace c4:=Bool.eq_false_iff.mpr c4;subst c4;rw [if_neg nft_] at H;have H':=am H;clear H
    go_wp2
    go_loopg [3,4] kj1 (fun kq v3 v4 w'=>∃ (x3_2 : Int) (x4_2 : Int),v3 = .int .i64 x3_2 ∧ v4 = .int .i64 x4_2 ∧ Aside0 (spec_l1Num.l0 kq a0 x3_2 x4_2 = some r) ∧ Aside0 (kq ≤ kj1) ∧ Aside0 (Below w.heap.size w w'))
    case atStart=>exact ⟨(0),(0),rs_,rs_,H',⟨Nat.le_refl _⟩,⟨m0_⟩⟩
    case round=>
     clear H';(try clear c2);(try clear p2);(try clear c3);(try clear c3b0);(try clear c3b1);(try clear c4);(try clear p2);obtain ⟨x3_2,x4_2,rfl,rfl,HA,HK2,HB⟩:=hrel
     cases gk with
     | zero=>exact absurd HA.out (by simp [spec_l1Num.l0])
     | succ k2=>
      have H:=HA.out;clear HA;simp only [spec_l1Num.l0] at H
      by_cases c5 : x4_2 < (a0.size : Int)
      ·rw [if_pos c5] at H;have c5b0 : decide (x4_2 < (a0.size : Int)) = true:=decide_eq_true c5;clear c5
       by_cases c6 : 0 ≤ x4_2
       ·rw [if_pos c6] at H;have c6b0 : decide (0 ≤ x4_2) = true:=decide_eq_true c6;clear c6
        by_cases c8 : (bt a0 x4_2) < 48
        ·rw [if_pos c8] at H;have c8b0 : decide ((bt a0 x4_2) < 48) = true:=decide_eq_true c8;clear c8;obtain rfl:=Option.some.inj H;have p7 : 0 ≤ (x4_2 : Int):=of_decide_eq_true da_;have q7 : x4_2 < (a0.size : Int):=of_decide_eq_true da_;have hx7:=bt_at a0 x4_2;replace p7:=eq_true p7;replace q7:=eq_true q7
         go_wp2
         go_ret
         exact ⟨fi_,m0_⟩
        ·rw [if_neg c8] at H;have c8b0 : decide ((bt a0 x4_2) < 48) = false:=decide_eq_false c8;clear c8
         by_cases c10 : (bt a0 x4_2) > 57
         ·rw [if_pos c10] at H;have c10b0 : decide (57 < (bt a0 x4_2)) = true:=decide_eq_true c10;clear c10;obtain rfl:=Option.some.inj H;have p7 : 0 ≤ (x4_2 : Int):=of_decide_eq_true da_;have q7 : x4_2 < (a0.size : Int):=of_decide_eq_true da_;have hx7:=bt_at a0 x4_2;replace p7:=eq_true p7;replace q7:=eq_true q7;have p9 : 0 ≤ (x4_2 : Int):=of_decide_eq_true da_;have q9 : x4_2 < (a0.size : Int):=of_decide_eq_true da_;have hx9:=bt_at a0 x4_2;replace p9:=eq_true p9;replace q9:=eq_true q9
          go_wp2
          go_ret
          exact ⟨fi_,m0_⟩
         ·rw [if_neg c10] at H;have c10b0 : decide (57 < (bt a0 x4_2)) = false:=decide_eq_false c10;clear c10;have H':=am H;clear H;have p7 : 0 ≤ (x4_2 : Int):=of_decide_eq_true da_;have q7 : x4_2 < (a0.size : Int):=of_decide_eq_true da_;have hx7:=bt_at a0 x4_2;replace p7:=eq_true p7;replace q7:=eq_true q7;have p9 : 0 ≤ (x4_2 : Int):=of_decide_eq_true da_;have q9 : x4_2 < (a0.size : Int):=of_decide_eq_true da_;have hx9:=bt_at a0 x4_2;replace p9:=eq_true p9;replace q9:=eq_true q9;have p11 : 0 ≤ (x4_2 : Int):=of_decide_eq_true da_;have q11 : x4_2 < (a0.size : Int):=of_decide_eq_true da_;have hx11:=bt_at a0 x4_2;replace p11:=eq_true p11;replace q11:=eq_true q11
          go_wp2
          go_roundg k2
          case measure=>have:=HJ1.out;have:=HK2.out;omega
          case rel=>exact ⟨(wrap64 ((wrap64 (x3_2 * 10)) + (((bt a0 x4_2) - 48) % 256))),(wrap64 (x4_2 + 1)),rs_,rs_,H',⟨by have:=HJ1.out;have:=HK2.out;omega⟩,⟨m0_⟩⟩
       ·rw [if_neg c6] at H;exact absurd H (by simp)
      ·rw [if_neg c5] at H;have c5b0 : decide (x4_2 < (a0.size : Int)) = false:=decide_eq_false c5;clear c5;obtain ⟨t0,A12,H⟩:=bse H
       try dsimp only at H
       by_cases c13 : t0.toList = a0.toList
       ·rw [if_pos c13] at H;have c13b0 : (t0.toList == a0.toList) = true:=beq_iff_eq.mpr c13;have c13b1 : (t0.toList != a0.toList) = false:=bne_eq_false_iff_eq.mpr c13;clear c13;obtain rfl:=Option.some.inj H
        go_wp2_with (first | ((with_reducible refine gC 217 rfl ?_);refine gL (some 38) Tryz.func217 #[.int .i64 x3_2] ?_;(with_reducible refine (spec_l1Plain.calls k2 x3_2 t0 _ A12.out).mono ?_);rintro e w14 ⟨rfl,hb⟩;refine ⟨_,rfl,?_⟩;replace HB:=hbS HB hb;(try clear hb)))
        go_ret
        exact ⟨fi_,m0_⟩
       ·rw [if_neg c13] at H;have c13b0 : (t0.toList == a0.toList) = false:=beq_eq_false_iff_ne.mpr c13;have c13b1 : (t0.toList != a0.toList) = true:=bne_iff_ne.mpr c13;obtain rfl:=Option.some.inj H
        go_wp2_with (first | ((with_reducible refine gC 217 rfl ?_);refine gL (some 38) Tryz.func217 #[.int .i64 x3_2] ?_;(with_reducible refine (spec_l1Plain.calls k2 x3_2 t0 _ A12.out).mono ?_);rintro e w15 ⟨rfl,hb⟩;refine ⟨_,rfl,?_⟩;replace HB:=hbS HB hb;(try clear hb)))
        go_ret
        exact ⟨fi_,m0_⟩
def spec_EndRead.f (k : Nat) (a0 : ByteArray) : Option (Int × Int × Bool):=(spec_l1Words.f k a0).bind fun t490=>(if (t490.length : Int) = 2 then (if 0 < (t490.length : Int) then ((spec_l1Num.f k (rdOf ByteArray.empty t490 0)).bind fun t494=>(if 1 < (t490.length : Int) then ((spec_l1Num.f k (rdOf ByteArray.empty t490 1)).bind fun t496=>((spec_EndOk.f t494 t496).bind fun t498=>(if t498 = true then (some (t494,t496,true)) else (some (0,0,false))))) else (none))) else (none)) else (some (0,0,false)))
theorem spec_EndRead.mono : ∀ a0 k,LeO (spec_EndRead.f k a0) (spec_EndRead.f (k + 1) a0):=by
 intro a0 k;unfold spec_EndRead.f
 repeat' first | (with_reducible first | exact spec_l1Num.mono _ _ | exact spec_l1Words.mono _ _ | exact LeO.refl _ | exact LeO.none _ | refine LeO.ite ?_ ?_ | refine LeO.bind ?_ (fun _=>?_)) | exact spec_l1Num.mono _ _ | exact spec_l1Words.mono _ _ | exact LeO.none _ | refine LeO.ite ?_ ?_ | refine LeO.bind ?_ (fun _=>?_)
def spec_EndRead.T4 : Bool × List (List Nat × List Nat):=(true,[([],[]),([0],[0]),([1],[1]),([2],[2]),([],[]),([4],[4]),([5],[5]),([6,3],[6]),([3,7],[3,7]),([],[]),([9,8,7,0,1,2,3,4,5,6,7,8,9],[8,9])])
def spec_EndRead.B4 : List Nat:=[0,1,3,7,0,16,48,127,255,0,1023]
theorem spec_EndRead.tab4 : rtab .any (opsOf Tryz.f196 4) = spec_EndRead.T4:=by kernel_rfl
theorem spec_EndRead.bits4 : waitsOk spec_EndRead.T4.2 spec_EndRead.B4 = true:=by kernel_rfl
set_option maxHeartbeats 8000000 in
set_option maxRecDepth 100000 in
theorem spec_EndRead.calls (k : Nat) (a0 : ByteArray) (r1 : Int) (r2 : Int) (r3 : Bool) (w : World) (h : spec_EndRead.f k a0 = some (r1,r2,r3)) :
  Calls Tryz.prog 196 #[.string a0] w fun e w'=>e = .returned (.tuple #[.agg #[.int .i64 r1,.int .i64 r2],.bool r3]) ∧ Below w.heap.size w w':=by
 have hu54:=Tryz.underlying54;have HB:=am (Below.refl w.heap.size w);have H : ((spec_l1Words.f k a0).bind fun t1=>(if (t1.length : Int) = 2 then (if 0 < (t1.length : Int) then ((spec_l1Num.f k (rdOf ByteArray.empty t1 0)).bind fun t2=>(if 1 < (t1.length : Int) then ((spec_l1Num.f k (rdOf ByteArray.empty t1 1)).bind fun t3=>((spec_EndOk.f t2 t3).bind fun t4=>(if t4 = true then (some (t2,t3,true)) else (some (0,0,false))))) else (none))) else (none)) else (some (0,0,false)))) = some (r1,r2,r3):=h;clear h;obtain ⟨t1,A2,H⟩:=bse H
 try dsimp only at H
 by_cases c3 : (t1.length : Int) = 2
 ·rw [if_pos c3] at H;have c3b0 : ((t1.length : Int) == 2) = true:=beq_iff_eq.mpr c3;have c3b1 : ((t1.length : Int) != 2) = false:=bne_eq_false_iff_eq.mpr c3;clear c3
  by_cases c4 : 0 < (t1.length : Int)
  ·rw [if_pos c4] at H;have c4b0 : decide (0 < (t1.length : Int)) = true:=decide_eq_true c4;have c4b1 : decide (0 < t1.length) = true:=decide_eq_true (by omega);clear c4;obtain ⟨t2,A5,H⟩:=bse H
   try dsimp only at H
   by_cases c6 : 1 < (t1.length : Int)
   ·rw [if_pos c6] at H;have c6b0 : decide (1 < (t1.length : Int)) = true:=decide_eq_true c6;have c6b1 : decide (1 < t1.length) = true:=decide_eq_true (by omega);clear c6;obtain ⟨t3,A7,H⟩:=bse H
    try dsimp only at H
    obtain ⟨t4,A8,H⟩:=bse H
    try dsimp only at H
    by_cases c9 : t4 = true
    ·subst c9;rw [if_pos rfl] at H;simp only [Option.some.injEq,Prod.mk.injEq] at H;obtain ⟨rfl,rfl,rfl⟩:=H
     go_enter Tryz.func196,Tryz.ntmps196
     try go_wp2_with (first | ((with_reducible refine gD 2 rfl ?_);refine box_event rfl (N:=2) rfl (cs:=#[.int .i64 0,.int .i64 0]) (t:=54) hr_ ?_;intro gb5 hg w10 hbox hb;have BK5:=am hbox;have GW5:=gwE HB hg;have GE5:=gwE HB hg;replace HB:=hbS HB hb;clear hb hbox hg) | ((with_reducible refine gC 215 rfl ?_);refine gL (some 7) Tryz.func215 #[.string a0] ?_;(with_reducible refine (spec_l1Words.calls k a0 t1 _ A2.out).mono ?_);rintro e w11 ⟨v6,rfl,ho0,hb⟩;refine ⟨_,rfl,?_⟩;have HO7:=am (Kd.R_lower ho0 (below_size (bl HB)));replace BK5:=bkB BK5 hb;replace HB:=hbS HB hb;(try clear hb);(try clear ho0);obtain ⟨Ao12,co12,eo12⟩:=Kd.R_slice HO7.out;subst eo12))
     replace HO7:=am (Kd.R_drew HO7.out);replace BK5:=am (blk_drew BK5.out);replace HB:=am (below_drew1 HB.out);have p8 : 0 ≤ (0 : Int):=(by omega);have q8 : 0 < (t1.length : Int):=of_decide_eq_true da_;obtain ⟨ad8,e8,hx8_0⟩:=Kd.at_string (Kd.R_reads' HO7.out).2.2 0 p8 q8;cases e8;have qi493 : (0 < t1.length) = True:=eq_true (by omega);(try rw [show ((0 : Int)).toNat = 0 from rfl] at hx8_0);(try rw [Addr.add_zero'] at hx8_0);replace p8:=eq_true p8;replace q8:=eq_true q8;have p9 : 0 ≤ (1 : Int):=(by omega);have q9 : 1 < (t1.length : Int):=of_decide_eq_true da_;obtain ⟨ad9,e9,hx9_0⟩:=Kd.at_string (Kd.R_reads' HO7.out).2.2 1 p9 q9;obtain rfl : ad8 = ad9:=(by injection e9);(try simp only [show (1 : Int).toNat = 1 from rfl,Nat.reduceMul,Nat.reduceEqDiff,Go.Addr.add,↓reduceIte] at hx9_0);have qi495 : (1 < t1.length) = True:=eq_true (by omega);(try rw [show ((1 : Int)).toNat = 1 from rfl] at hx9_0);replace p9:=eq_true p9;replace q9:=eq_true q9;refine start_ (n:=11) (S:=fun w'=>w'.cell? ad8 = some (.string (rdOf ByteArray.empty t1 0)) ∧ w'.cell? ⟨ad8.block,ad8.off + 1,none⟩ = some (.string (rdOf ByteArray.empty t1 1))) (ds:=[]) #[false,false,false,false,false,false,false,false,false,false,false] (by kernel_rfl) rfl rfl ⟨hx8_0,hx9_0⟩ (fun hHeld=>?_);refine with_tabW spec_EndRead.tab4 spec_EndRead.bits4 (fun HT_ HW_=>?_);generalize w11.drew = w13 at HO7 BK5 HB hx8_0 hx9_0 hHeld ⊢;refine pu_ 0 (some 12) (bm 11 1) ?_;refine pu_ 1 (some 13) (bm 11 3) ?_;refine pu_ 4 (some 16) (bm 11 19) ?_;refine pu_ 5 (some 17) (bm 11 51) ?_;refine tk_ 2 (some 14) (bm 11 55) rfl (.inl ⟨rfl,m7_⟩) ?_;refine tk_ 6 (some 18) (bm 11 119) rfl (.inl ⟨rfl,m7_⟩) ?_;refine join_ (σ:=Nat) 1 #[true,true,true,true,true,true,true,true,true,true,false] (fun s_=>[(15,.int .i64 t2),(19,.int .i64 t3),(5,.pointer (some ⟨s_,0,none⟩)),(20,.agg #[.int .i64 t2,.int .i64 t3])]) (fun s_ w'=>(w'.cell? ad8 = some (.string (rdOf ByteArray.empty t1 0)) ∧ w'.cell? ⟨ad8.block,ad8.off + 1,none⟩ = some (.string (rdOf ByteArray.empty t1 1))) ∧ (Kd.R Kd.string 9 w' w.heap.size (fun _=>True) (.slice (some ad8) t1.length co12) t1) ∧ (w'.heap[gb5]? = some (.cells #[.int .i64 0,.int .i64 0] 54 (0,0))) ∧ (w'.heap[s_]? = some (.cells #[.int .i64 0,.int .i64 0] 54 (0,0))) ∧ (w.heap.size ≤ s_) ∧ (w.heap.size ≤ s_) ∧ (gb5 ≠ s_) ∧ (s_ ≠ gb5) ∧ (Below w.heap.size w w')) ?_ ?_
     rotate_left
     ·intro hCont;refine two_ (i:=3) (j:=9) (Ni:=some 15) (Nj:=some 5) #[true,true,true,true,true,true,true,false,false,false,false] #[true,true,true,false,true,true,true,false,false,true,false] rfl rfl rfl rfl (two_of HT_.out (by kernel_rfl)) (by decide) (by decide) (fun K hK=>?_) (fun K hK=>?_)
      ·skip
       refine gR Tryz.func216 #[.string (rdOf ByteArray.empty t1 0)] ?_
       with_reducible refine (spec_l1Num.calls k (rdOf ByteArray.empty t1 0) t2 _ A5.out).mono ?_
       rintro e w14 ⟨rfl,hb⟩;have HS0_:=bch hb (hHeld.1);have HS1_:=bch hb (hHeld.2);refine ⟨_,rfl,?_⟩;replace HO7:=am (Kd.R_below (rs HO7) hb);replace BK5:=bkB BK5 hb;replace HB:=hbS HB hb;(try clear hb);(try clear hb2);(try clear hk);(try clear hi);refine hK.out _ _ ⟨HS0_,HS1_⟩ (fun hHeld=>?_);clear hK K;refine nm_ ?_;refine two_ (i:=7) (j:=9) (Ni:=some 19) (Nj:=some 5) #[true,true,true,true,true,true,true,true,false,false,false] #[true,true,true,true,true,true,true,false,false,true,false] rfl rfl rfl rfl (two_of HT_.out (by kernel_rfl)) (by decide) (by decide) (fun K hK=>?_) (fun K hK=>?_)
       ·skip
        refine gR Tryz.func216 #[.string (rdOf ByteArray.empty t1 1)] ?_
        with_reducible refine (spec_l1Num.calls k (rdOf ByteArray.empty t1 1) t3 _ A7.out).mono ?_
        rintro e w15 ⟨rfl,hb⟩;have HS0_:=bch hb (hHeld.1);have HS1_:=bch hb (hHeld.2);refine ⟨_,rfl,?_⟩;replace HO7:=am (Kd.R_below (rs HO7) hb);replace BK5:=bkB BK5 hb;replace HB:=hbS HB hb;(try clear hb);(try clear hb2);(try clear hk);(try clear hi);refine hK.out _ _ ⟨HS0_,HS1_⟩ (fun hHeld=>?_);clear hK K;refine nm_ ?_;refine pu_ 8 (some 20) (bm 11 511) ?_;refine on_ 9 (some 5) (bm 11 1023) (fun K hK=>?_);refine box_step rfl (N:=5) rfl (cs:=#[.int .i64 0,.int .i64 0]) (t:=54) hr_ ?_;intro gb10 hg w16 hbox hb;have HS0_:=bch hb (hHeld.1);have HS1_:=bch hb (hHeld.2);replace HO7:=am (Kd.R_below (rs HO7) hb);have BK10:=am hbox;have GW10:=gwE HB hg;have GE10:=gwE HB hg;replace HB:=hbS HB hb;have NB5_10:=neL BK5 hg;have NB10_5:=neG BK5 hg;replace BK5:=bkB BK5 hb;clear hb hbox hg;refine hK.out _ _ ⟨HS0_,HS1_⟩ (fun hHeld=>?_);clear hK K;refine nm_ ?_;exact norm_ (by simp only [putAll,Act.put,List.setIfInBounds_toArray,List.set_cons_zero,List.set_cons_succ]) (hCont (gb10) _ ⟨hHeld,(rs HO7),(bk BK5),(bk BK10),GW10.out,GE10.out,NB5_10.out,NB10_5.out,(bl HB)⟩)
       ·skip
        refine box_step rfl (N:=5) rfl (cs:=#[.int .i64 0,.int .i64 0]) (t:=54) hr_ ?_;intro gb10 hg w15 hbox hb;have HS0_:=bch hb (hHeld.1);have HS1_:=bch hb (hHeld.2);replace HO7:=am (Kd.R_below (rs HO7) hb);have BK10:=am hbox;have GW10:=gwE HB hg;have GE10:=gwE HB hg;replace HB:=hbS HB hb;have NB5_10:=neL BK5 hg;have NB10_5:=neG BK5 hg;replace BK5:=bkB BK5 hb;clear hb hbox hg;refine hK.out _ _ ⟨HS0_,HS1_⟩ (fun hHeld=>?_);clear hK K;refine nm_ ?_;refine on_ 7 (some 19) (bm 11 767) (fun K hK=>?_);refine gR Tryz.func216 #[.string (rdOf ByteArray.empty t1 1)] ?_
        with_reducible refine (spec_l1Num.calls k (rdOf ByteArray.empty t1 1) t3 _ A7.out).mono ?_
        rintro e w16 ⟨rfl,hb⟩;have HS0_:=bch hb (hHeld.1);have HS1_:=bch hb (hHeld.2);refine ⟨_,rfl,?_⟩;replace HO7:=am (Kd.R_below (rs HO7) hb);replace BK5:=bkB BK5 hb;replace BK10:=bkB BK10 hb;replace HB:=hbS HB hb;(try clear hb);(try clear hb2);(try clear hk);(try clear hi);refine hK.out _ _ ⟨HS0_,HS1_⟩ (fun hHeld=>?_);clear hK K;refine nm_ ?_;refine pu_ 8 (some 20) (bm 11 1023) ?_;exact norm_ (by simp only [putAll,Act.put,List.setIfInBounds_toArray,List.set_cons_zero,List.set_cons_succ]) (hCont (gb10) _ ⟨hHeld,(rs HO7),(bk BK5),(bk BK10),GW10.out,GE10.out,NB5_10.out,NB10_5.out,(bl HB)⟩)
      ·skip
       refine box_step rfl (N:=5) rfl (cs:=#[.int .i64 0,.int .i64 0]) (t:=54) hr_ ?_;intro gb10 hg w14 hbox hb;have HS0_:=bch hb (hHeld.1);have HS1_:=bch hb (hHeld.2);replace HO7:=am (Kd.R_below (rs HO7) hb);have BK10:=am hbox;have GW10:=gwE HB hg;have GE10:=gwE HB hg;replace HB:=hbS HB hb;have NB5_10:=neL BK5 hg;have NB10_5:=neG BK5 hg;replace BK5:=bkB BK5 hb;clear hb hbox hg;refine hK.out _ _ ⟨HS0_,HS1_⟩ (fun hHeld=>?_);clear hK K;refine nm_ ?_;refine on_ 3 (some 15) (bm 11 639) (fun K hK=>?_);refine gR Tryz.func216 #[.string (rdOf ByteArray.empty t1 0)] ?_
       with_reducible refine (spec_l1Num.calls k (rdOf ByteArray.empty t1 0) t2 _ A5.out).mono ?_
       rintro e w15 ⟨rfl,hb⟩;have HS0_:=bch hb (hHeld.1);have HS1_:=bch hb (hHeld.2);refine ⟨_,rfl,?_⟩;replace HO7:=am (Kd.R_below (rs HO7) hb);replace BK5:=bkB BK5 hb;replace BK10:=bkB BK10 hb;replace HB:=hbS HB hb;(try clear hb);(try clear hb2);(try clear hk);(try clear hi);refine hK.out _ _ ⟨HS0_,HS1_⟩ (fun hHeld=>?_);clear hK K;refine nm_ ?_;refine on_ 7 (some 19) (bm 11 767) (fun K hK=>?_);refine gR Tryz.func216 #[.string (rdOf ByteArray.empty t1 1)] ?_
       with_reducible refine (spec_l1Num.calls k (rdOf ByteArray.empty t1 1) t3 _ A7.out).mono ?_
       rintro e w16 ⟨rfl,hb⟩;have HS0_:=bch hb (hHeld.1);have HS1_:=bch hb (hHeld.2);refine ⟨_,rfl,?_⟩;replace HO7:=am (Kd.R_below (rs HO7) hb);replace BK5:=bkB BK5 hb;replace BK10:=bkB BK10 hb;replace HB:=hbS HB hb;(try clear hb);(try clear hb2);(try clear hk);(try clear hi);refine hK.out _ _ ⟨HS0_,HS1_⟩ (fun hHeld=>?_);clear hK K;refine nm_ ?_;refine pu_ 8 (some 20) (bm 11 1023) ?_;exact norm_ (by simp only [putAll,Act.put,List.setIfInBounds_toArray,List.set_cons_zero,List.set_cons_succ]) (hCont (gb10) _ ⟨hHeld,(rs HO7),(bk BK5),(bk BK10),GW10.out,GE10.out,NB5_10.out,NB10_5.out,(bl HB)⟩)
     rintro gb10 w17 ⟨hS_,h0_,h1_,h2_,h3_,h4_,h5_,h6_,h7_⟩;have n0_ : Aside0 (Kd.R Kd.string 9 w17 w.heap.size (fun _=>True) (.slice (some ad8) t1.length co12) t1):=⟨h0_⟩;have n1_ : Aside0 (w17.heap[gb5]? = some (.cells #[.int .i64 0,.int .i64 0] 54 (0,0))):=⟨h1_⟩;have n2_ : Aside0 (w17.heap[gb10]? = some (.cells #[.int .i64 0,.int .i64 0] 54 (0,0))):=⟨h2_⟩;have n3_ : Aside0 (w.heap.size ≤ gb10):=⟨h3_⟩;have n4_ : Aside0 (w.heap.size ≤ gb10):=⟨h4_⟩;have n5_ : Aside0 (gb5 ≠ gb10):=⟨h5_⟩;have n6_ : Aside0 (gb10 ≠ gb5):=⟨h6_⟩;have n7_ : Aside0 (Below w.heap.size w w17):=⟨h7_⟩;clear HO7;clear BK5;clear HB;clear h0_ h1_ h2_ h3_ h4_ h5_ h6_ h7_;have HO7:=n0_;have BK5:=n1_;have BK10:=n2_;have GW10:=n3_;have GE10:=n4_;have NB5_10:=n5_;have NB10_5:=n6_;have HB:=n7_;clear n0_ n1_ n2_ n3_ n4_ n5_ n6_ n7_;have hHeld : w17.cell? ad8 = some (.string (rdOf ByteArray.empty t1 0)) ∧ w17.cell? ⟨ad8.block,ad8.off + 1,none⟩ = some (.string (rdOf ByteArray.empty t1 1)):=hS_;refine norm_ (a':=?_) ?_ ?_
     rotate_left
     ·simp only [putAll,Act.put,List.setIfInBounds_toArray,List.set_cons_zero,List.set_cons_succ]
      rfl
     refine on_ 10 none (bm 11 2047) (fun K hK=>?_);have : w17.cell? ⟨gb10,0,none⟩ = some (.int .i64 0):=bcell BK10 0;have:=bfz BK10 0;have:=NB5_10.out;have:=NB10_5.out;have : w17.cell? ⟨gb10,1,none⟩ = some (.int .i64 0):=bcell BK10 1;have:=bfz BK10 1;have:=NB5_10.out;have:=NB10_5.out;refine skip_ (w1:=?_) (by rfl) rfl ?_ ?_
     rotate_left
     ·go_simp
      rfl
     refine hK.out _ _ ⟨((cell_far (p:=⟨gb10,_,none⟩) (by first | exact Kd.own_blk (Kd.R_ne HO7.out BK10.out (by decide)) | (rw [add_block];exact Kd.own_blk (Kd.R_ne HO7.out BK10.out (by decide))) | (show (Addr.add _ _).block ≠ _;rw [add_block];exact Kd.own_blk (Kd.R_ne HO7.out BK10.out (by decide))) | (dsimp only;exact Kd.own_blk (Kd.R_ne HO7.out BK10.out (by decide)))) _).trans (((cell_far (p:=⟨gb10,_,none⟩) (by first | exact Kd.own_blk (Kd.R_ne HO7.out BK10.out (by decide)) | (rw [add_block];exact Kd.own_blk (Kd.R_ne HO7.out BK10.out (by decide))) | (show (Addr.add _ _).block ≠ _;rw [add_block];exact Kd.own_blk (Kd.R_ne HO7.out BK10.out (by decide))) | (dsimp only;exact Kd.own_blk (Kd.R_ne HO7.out BK10.out (by decide)))) _).trans (hHeld.1)))),((cell_far (p:=⟨gb10,_,none⟩) (by first | exact Kd.own_blk (Kd.R_ne HO7.out BK10.out (by decide)) | (rw [add_block];exact Kd.own_blk (Kd.R_ne HO7.out BK10.out (by decide))) | (show (Addr.add _ _).block ≠ _;rw [add_block];exact Kd.own_blk (Kd.R_ne HO7.out BK10.out (by decide))) | (dsimp only;exact Kd.own_blk (Kd.R_ne HO7.out BK10.out (by decide)))) _).trans (((cell_far (p:=⟨gb10,_,none⟩) (by first | exact Kd.own_blk (Kd.R_ne HO7.out BK10.out (by decide)) | (rw [add_block];exact Kd.own_blk (Kd.R_ne HO7.out BK10.out (by decide))) | (show (Addr.add _ _).block ≠ _;rw [add_block];exact Kd.own_blk (Kd.R_ne HO7.out BK10.out (by decide))) | (dsimp only;exact Kd.own_blk (Kd.R_ne HO7.out BK10.out (by decide)))) _).trans (hHeld.2))))⟩ (fun hHeld=>?_);clear hK K;refine done_ (done_of HT_.out (by kernel_rfl)) ?_;have:=NB10_5.out;have:=NB5_10.out;have ⟨_,_,_,_⟩:=cf2 BK10
     try go_wp2_with (first | ((with_reducible refine gC 93 rfl ?_);refine gL (some 22) Tryz.func93 #[.agg #[.int .i64 t2,.int .i64 t3]] ?_;(with_reducible refine (spec_EndOk.calls t2 t3 true _ A8.out).mono ?_);rintro e w22 ⟨rfl,hb⟩;refine ⟨_,rfl,?_⟩;replace HO7:=am (Kd.R_below (by (with_reducible repeat apply ru);exact (Kd.R_mono (Kd.R_far (p:=⟨gb10,1,none⟩) (Kd.R_far (p:=⟨gb10,0,none⟩) (Kd.R_types HO7.out BK10.out (by decide)) (fun _ hk=>hk.2) (.int .i64 t2)) (fun _ hk=>hk.2) (.int .i64 t3)) (fun _ h_=>h_.1))) hb);replace BK5:=am (blk_below (g:=gb5) (o:=.cells #[.int .i64 0,.int .i64 0] 54 (0,0)) (by (repeat (first | (with_reducible refine bu ?_) | refine blk_far ?_ NB5_10.out _));exact BK5.out) hb);replace BK10:=am (blk_below (g:=gb10) (o:=.cells #[.int .i64 t2,.int .i64 t3] 54 (0,0)) (by (with_reducible repeat refine bu ?_);refine blk_put (cs:=#[.int .i64 t2,.int .i64 0]) ?_ 1 _ rfl;(with_reducible repeat refine bu ?_);refine blk_put (cs:=#[.int .i64 0,.int .i64 0]) ?_ 0 _ rfl;(with_reducible repeat refine bu ?_);exact BK10.out) hb);replace HB:=hbS HB hb;(try clear hb);(try clear hk);have ⟨_,_,_,_⟩:=cf2 BK10;have ⟨_,_,_,_⟩:=cf2 BK5))
     refine bodyPost_ret (results_ct rfl _ _ gb5 54 #[.int .i64 t2,.int .i64 t3] (0,0) _ rfl (by (with_reducible repeat refine bu ?_);refine blk_put (cs:=#[.int .i64 t2,.int .i64 0]) ?_ 1 _ rfl;(with_reducible repeat refine bu ?_);refine blk_put (cs:=#[.int .i64 0,.int .i64 0]) ?_ 0 _ rfl;(with_reducible repeat refine bu ?_);exact BK5.out) Tryz.underlying54 rfl (by kernel_rfl)) rfl ?_;exact ⟨fi_,m4_⟩
    ·replace c9:=Bool.eq_false_iff.mpr c9;subst c9;rw [if_neg nft_] at H;simp only [Option.some.injEq,Prod.mk.injEq] at H;obtain ⟨rfl,rfl,rfl⟩:=H
     go_enter Tryz.func196,Tryz.ntmps196
     try go_wp2_with (first | ((with_reducible refine gD 2 rfl ?_);refine box_event rfl (N:=2) rfl (cs:=#[.int .i64 0,.int .i64 0]) (t:=54) hr_ ?_;intro gb5 hg w25 hbox hb;have BK5:=am hbox;have GW5:=gwE HB hg;have GE5:=gwE HB hg;replace HB:=hbS HB hb;clear hb hbox hg) | ((with_reducible refine gC 215 rfl ?_);refine gL (some 7) Tryz.func215 #[.string a0] ?_;(with_reducible refine (spec_l1Words.calls k a0 t1 _ A2.out).mono ?_);rintro e w26 ⟨v6,rfl,ho0,hb⟩;refine ⟨_,rfl,?_⟩;have HO7:=am (Kd.R_lower ho0 (below_size (bl HB)));replace BK5:=bkB BK5 hb;replace HB:=hbS HB hb;(try clear hb);(try clear ho0);obtain ⟨Ao27,co27,eo27⟩:=Kd.R_slice HO7.out;subst eo27))
     replace HO7:=am (Kd.R_drew HO7.out);replace BK5:=am (blk_drew BK5.out);replace HB:=am (below_drew1 HB.out);have p8 : 0 ≤ (0 : Int):=(by omega);have q8 : 0 < (t1.length : Int):=of_decide_eq_true da_;obtain ⟨ad8,e8,hx8_0⟩:=Kd.at_string (Kd.R_reads' HO7.out).2.2 0 p8 q8;cases e8;have qi493 : (0 < t1.length) = True:=eq_true (by omega);(try rw [show ((0 : Int)).toNat = 0 from rfl] at hx8_0);(try rw [Addr.add_zero'] at hx8_0);replace p8:=eq_true p8;replace q8:=eq_true q8;have p9 : 0 ≤ (1 : Int):=(by omega);have q9 : 1 < (t1.length : Int):=of_decide_eq_true da_;obtain ⟨ad9,e9,hx9_0⟩:=Kd.at_string (Kd.R_reads' HO7.out).2.2 1 p9 q9;obtain rfl : ad8 = ad9:=(by injection e9);(try simp only [show (1 : Int).toNat = 1 from rfl,Nat.reduceMul,Nat.reduceEqDiff,Go.Addr.add,↓reduceIte] at hx9_0);have qi495 : (1 < t1.length) = True:=eq_true (by omega);(try rw [show ((1 : Int)).toNat = 1 from rfl] at hx9_0);replace p9:=eq_true p9;replace q9:=eq_true q9;refine start_ (n:=11) (S:=fun w'=>w'.cell? ad8 = some (.string (rdOf ByteArray.empty t1 0)) ∧ w'.cell? ⟨ad8.block,ad8.off + 1,none⟩ = some (.string (rdOf ByteArray.empty t1 1))) (ds:=[]) #[false,false,false,false,false,false,false,false,false,false,false] (by kernel_rfl) rfl rfl ⟨hx8_0,hx9_0⟩ (fun hHeld=>?_);refine with_tabW spec_EndRead.tab4 spec_EndRead.bits4 (fun HT_ HW_=>?_);generalize w26.drew = w28 at HO7 BK5 HB hx8_0 hx9_0 hHeld ⊢;refine pu_ 0 (some 12) (bm 11 1) ?_;refine pu_ 1 (some 13) (bm 11 3) ?_;refine pu_ 4 (some 16) (bm 11 19) ?_;refine pu_ 5 (some 17) (bm 11 51) ?_;refine tk_ 2 (some 14) (bm 11 55) rfl (.inl ⟨rfl,m7_⟩) ?_;refine tk_ 6 (some 18) (bm 11 119) rfl (.inl ⟨rfl,m7_⟩) ?_;refine join_ (σ:=Nat) 1 #[true,true,true,true,true,true,true,true,true,true,false] (fun s_=>[(15,.int .i64 t2),(19,.int .i64 t3),(5,.pointer (some ⟨s_,0,none⟩)),(20,.agg #[.int .i64 t2,.int .i64 t3])]) (fun s_ w'=>(w'.cell? ad8 = some (.string (rdOf ByteArray.empty t1 0)) ∧ w'.cell? ⟨ad8.block,ad8.off + 1,none⟩ = some (.string (rdOf ByteArray.empty t1 1))) ∧ (Kd.R Kd.string 9 w' w.heap.size (fun _=>True) (.slice (some ad8) t1.length co27) t1) ∧ (w'.heap[gb5]? = some (.cells #[.int .i64 0,.int .i64 0] 54 (0,0))) ∧ (w'.heap[s_]? = some (.cells #[.int .i64 0,.int .i64 0] 54 (0,0))) ∧ (w.heap.size ≤ s_) ∧ (w.heap.size ≤ s_) ∧ (gb5 ≠ s_) ∧ (s_ ≠ gb5) ∧ (Below w.heap.size w w')) ?_ ?_
     rotate_left
     ·intro hCont;refine two_ (i:=3) (j:=9) (Ni:=some 15) (Nj:=some 5) #[true,true,true,true,true,true,true,false,false,false,false] #[true,true,true,false,true,true,true,false,false,true,false] rfl rfl rfl rfl (two_of HT_.out (by kernel_rfl)) (by decide) (by decide) (fun K hK=>?_) (fun K hK=>?_)
      ·skip
       refine gR Tryz.func216 #[.string (rdOf ByteArray.empty t1 0)] ?_
       with_reducible refine (spec_l1Num.calls k (rdOf ByteArray.empty t1 0) t2 _ A5.out).mono ?_
       rintro e w29 ⟨rfl,hb⟩;have HS0_:=bch hb (hHeld.1);have HS1_:=bch hb (hHeld.2);refine ⟨_,rfl,?_⟩;replace HO7:=am (Kd.R_below (rs HO7) hb);replace BK5:=bkB BK5 hb;replace HB:=hbS HB hb;(try clear hb);(try clear hb2);(try clear hk);(try clear hi);refine hK.out _ _ ⟨HS0_,HS1_⟩ (fun hHeld=>?_);clear hK K;refine nm_ ?_;refine two_ (i:=7) (j:=9) (Ni:=some 19) (Nj:=some 5) #[true,true,true,true,true,true,true,true,false,false,false] #[true,true,true,true,true,true,true,false,false,true,false] rfl rfl rfl rfl (two_of HT_.out (by kernel_rfl)) (by decide) (by decide) (fun K hK=>?_) (fun K hK=>?_)
       ·skip
        refine gR Tryz.func216 #[.string (rdOf ByteArray.empty t1 1)] ?_
        with_reducible refine (spec_l1Num.calls k (rdOf ByteArray.empty t1 1) t3 _ A7.out).mono ?_
        rintro e w30 ⟨rfl,hb⟩;have HS0_:=bch hb (hHeld.1);have HS1_:=bch hb (hHeld.2);refine ⟨_,rfl,?_⟩;replace HO7:=am (Kd.R_below (rs HO7) hb);replace BK5:=bkB BK5 hb;replace HB:=hbS HB hb;(try clear hb);(try clear hb2);(try clear hk);(try clear hi);refine hK.out _ _ ⟨HS0_,HS1_⟩ (fun hHeld=>?_);clear hK K;refine nm_ ?_;refine pu_ 8 (some 20) (bm 11 511) ?_;refine on_ 9 (some 5) (bm 11 1023) (fun K hK=>?_);refine box_step rfl (N:=5) rfl (cs:=#[.int .i64 0,.int .i64 0]) (t:=54) hr_ ?_;intro gb10 hg w31 hbox hb;have HS0_:=bch hb (hHeld.1);have HS1_:=bch hb (hHeld.2);replace HO7:=am (Kd.R_below (rs HO7) hb);have BK10:=am hbox;have GW10:=gwE HB hg;have GE10:=gwE HB hg;replace HB:=hbS HB hb;have NB5_10:=neL BK5 hg;have NB10_5:=neG BK5 hg;replace BK5:=bkB BK5 hb;clear hb hbox hg;refine hK.out _ _ ⟨HS0_,HS1_⟩ (fun hHeld=>?_);clear hK K;refine nm_ ?_;exact norm_ (by simp only [putAll,Act.put,List.setIfInBounds_toArray,List.set_cons_zero,List.set_cons_succ]) (hCont (gb10) _ ⟨hHeld,(rs HO7),(bk BK5),(bk BK10),GW10.out,GE10.out,NB5_10.out,NB10_5.out,(bl HB)⟩)
       ·skip
        refine box_step rfl (N:=5) rfl (cs:=#[.int .i64 0,.int .i64 0]) (t:=54) hr_ ?_;intro gb10 hg w30 hbox hb;have HS0_:=bch hb (hHeld.1);have HS1_:=bch hb (hHeld.2);replace HO7:=am (Kd.R_below (rs HO7) hb);have BK10:=am hbox;have GW10:=gwE HB hg;have GE10:=gwE HB hg;replace HB:=hbS HB hb;have NB5_10:=neL BK5 hg;have NB10_5:=neG BK5 hg;replace BK5:=bkB BK5 hb;clear hb hbox hg;refine hK.out _ _ ⟨HS0_,HS1_⟩ (fun hHeld=>?_);clear hK K;refine nm_ ?_;refine on_ 7 (some 19) (bm 11 767) (fun K hK=>?_);refine gR Tryz.func216 #[.string (rdOf ByteArray.empty t1 1)] ?_
        with_reducible refine (spec_l1Num.calls k (rdOf ByteArray.empty t1 1) t3 _ A7.out).mono ?_
        rintro e w31 ⟨rfl,hb⟩;have HS0_:=bch hb (hHeld.1);have HS1_:=bch hb (hHeld.2);refine ⟨_,rfl,?_⟩;replace HO7:=am (Kd.R_below (rs HO7) hb);replace BK5:=bkB BK5 hb;replace BK10:=bkB BK10 hb;replace HB:=hbS HB hb;(try clear hb);(try clear hb2);(try clear hk);(try clear hi);refine hK.out _ _ ⟨HS0_,HS1_⟩ (fun hHeld=>?_);clear hK K;refine nm_ ?_;refine pu_ 8 (some 20) (bm 11 1023) ?_;exact norm_ (by simp only [putAll,Act.put,List.setIfInBounds_toArray,List.set_cons_zero,List.set_cons_succ]) (hCont (gb10) _ ⟨hHeld,(rs HO7),(bk BK5),(bk BK10),GW10.out,GE10.out,NB5_10.out,NB10_5.out,(bl HB)⟩)
      ·skip
       refine box_step rfl (N:=5) rfl (cs:=#[.int .i64 0,.int .i64 0]) (t:=54) hr_ ?_;intro gb10 hg w29 hbox hb;have HS0_:=bch hb (hHeld.1);have HS1_:=bch hb (hHeld.2);replace HO7:=am (Kd.R_below (rs HO7) hb);have BK10:=am hbox;have GW10:=gwE HB hg;have GE10:=gwE HB hg;replace HB:=hbS HB hb;have NB5_10:=neL BK5 hg;have NB10_5:=neG BK5 hg;replace BK5:=bkB BK5 hb;clear hb hbox hg;refine hK.out _ _ ⟨HS0_,HS1_⟩ (fun hHeld=>?_);clear hK K;refine nm_ ?_;refine on_ 3 (some 15) (bm 11 639) (fun K hK=>?_);refine gR Tryz.func216 #[.string (rdOf ByteArray.empty t1 0)] ?_
       with_reducible refine (spec_l1Num.calls k (rdOf ByteArray.empty t1 0) t2 _ A5.out).mono ?_
       rintro e w30 ⟨rfl,hb⟩;have HS0_:=bch hb (hHeld.1);have HS1_:=bch hb (hHeld.2);refine ⟨_,rfl,?_⟩;replace HO7:=am (Kd.R_below (rs HO7) hb);replace BK5:=bkB BK5 hb;replace BK10:=bkB BK10 hb;replace HB:=hbS HB hb;(try clear hb);(try clear hb2);(try clear hk);(try clear hi);refine hK.out _ _ ⟨HS0_,HS1_⟩ (fun hHeld=>?_);clear hK K;refine nm_ ?_;refine on_ 7 (some 19) (bm 11 767) (fun K hK=>?_);refine gR Tryz.func216 #[.string (rdOf ByteArray.empty t1 1)] ?_
       with_reducible refine (spec_l1Num.calls k (rdOf ByteArray.empty t1 1) t3 _ A7.out).mono ?_
       rintro e w31 ⟨rfl,hb⟩;have HS0_:=bch hb (hHeld.1);have HS1_:=bch hb (hHeld.2);refine ⟨_,rfl,?_⟩;replace HO7:=am (Kd.R_below (rs HO7) hb);replace BK5:=bkB BK5 hb;replace BK10:=bkB BK10 hb;replace HB:=hbS HB hb;(try clear hb);(try clear hb2);(try clear hk);(try clear hi);refine hK.out _ _ ⟨HS0_,HS1_⟩ (fun hHeld=>?_);clear hK K;refine nm_ ?_;refine pu_ 8 (some 20) (bm 11 1023) ?_;exact norm_ (by simp only [putAll,Act.put,List.setIfInBounds_toArray,List.set_cons_zero,List.set_cons_succ]) (hCont (gb10) _ ⟨hHeld,(rs HO7),(bk BK5),(bk BK10),GW10.out,GE10.out,NB5_10.out,NB10_5.out,(bl HB)⟩)
     rintro gb10 w32 ⟨hS_,h0_,h1_,h2_,h3_,h4_,h5_,h6_,h7_⟩;have n0_ : Aside0 (Kd.R Kd.string 9 w32 w.heap.size (fun _=>True) (.slice (some ad8) t1.length co27) t1):=⟨h0_⟩;have n1_ : Aside0 (w32.heap[gb5]? = some (.cells #[.int .i64 0,.int .i64 0] 54 (0,0))):=⟨h1_⟩;have n2_ : Aside0 (w32.heap[gb10]? = some (.cells #[.int .i64 0,.int .i64 0] 54 (0,0))):=⟨h2_⟩;have n3_ : Aside0 (w.heap.size ≤ gb10):=⟨h3_⟩;have n4_ : Aside0 (w.heap.size ≤ gb10):=⟨h4_⟩;have n5_ : Aside0 (gb5 ≠ gb10):=⟨h5_⟩;have n6_ : Aside0 (gb10 ≠ gb5):=⟨h6_⟩;have n7_ : Aside0 (Below w.heap.size w w32):=⟨h7_⟩;clear HO7;clear BK5;clear HB;clear h0_ h1_ h2_ h3_ h4_ h5_ h6_ h7_;have HO7:=n0_;have BK5:=n1_;have BK10:=n2_;have GW10:=n3_;have GE10:=n4_;have NB5_10:=n5_;have NB10_5:=n6_;have HB:=n7_;clear n0_ n1_ n2_ n3_ n4_ n5_ n6_ n7_;have hHeld : w32.cell? ad8 = some (.string (rdOf ByteArray.empty t1 0)) ∧ w32.cell? ⟨ad8.block,ad8.off + 1,none⟩ = some (.string (rdOf ByteArray.empty t1 1)):=hS_;refine norm_ (a':=?_) ?_ ?_
     rotate_left
     ·simp only [putAll,Act.put,List.setIfInBounds_toArray,List.set_cons_zero,List.set_cons_succ]
      rfl
     refine on_ 10 none (bm 11 2047) (fun K hK=>?_);have : w32.cell? ⟨gb10,0,none⟩ = some (.int .i64 0):=bcell BK10 0;have:=bfz BK10 0;have:=NB5_10.out;have:=NB10_5.out;have : w32.cell? ⟨gb10,1,none⟩ = some (.int .i64 0):=bcell BK10 1;have:=bfz BK10 1;have:=NB5_10.out;have:=NB10_5.out;refine skip_ (w1:=?_) (by rfl) rfl ?_ ?_
     rotate_left
     ·go_simp
      rfl
     refine hK.out _ _ ⟨((cell_far (p:=⟨gb10,_,none⟩) (by first | exact Kd.own_blk (Kd.R_ne HO7.out BK10.out (by decide)) | (rw [add_block];exact Kd.own_blk (Kd.R_ne HO7.out BK10.out (by decide))) | (show (Addr.add _ _).block ≠ _;rw [add_block];exact Kd.own_blk (Kd.R_ne HO7.out BK10.out (by decide))) | (dsimp only;exact Kd.own_blk (Kd.R_ne HO7.out BK10.out (by decide)))) _).trans (((cell_far (p:=⟨gb10,_,none⟩) (by first | exact Kd.own_blk (Kd.R_ne HO7.out BK10.out (by decide)) | (rw [add_block];exact Kd.own_blk (Kd.R_ne HO7.out BK10.out (by decide))) | (show (Addr.add _ _).block ≠ _;rw [add_block];exact Kd.own_blk (Kd.R_ne HO7.out BK10.out (by decide))) | (dsimp only;exact Kd.own_blk (Kd.R_ne HO7.out BK10.out (by decide)))) _).trans (hHeld.1)))),((cell_far (p:=⟨gb10,_,none⟩) (by first | exact Kd.own_blk (Kd.R_ne HO7.out BK10.out (by decide)) | (rw [add_block];exact Kd.own_blk (Kd.R_ne HO7.out BK10.out (by decide))) | (show (Addr.add _ _).block ≠ _;rw [add_block];exact Kd.own_blk (Kd.R_ne HO7.out BK10.out (by decide))) | (dsimp only;exact Kd.own_blk (Kd.R_ne HO7.out BK10.out (by decide)))) _).trans (((cell_far (p:=⟨gb10,_,none⟩) (by first | exact Kd.own_blk (Kd.R_ne HO7.out BK10.out (by decide)) | (rw [add_block];exact Kd.own_blk (Kd.R_ne HO7.out BK10.out (by decide))) | (show (Addr.add _ _).block ≠ _;rw [add_block];exact Kd.own_blk (Kd.R_ne HO7.out BK10.out (by decide))) | (dsimp only;exact Kd.own_blk (Kd.R_ne HO7.out BK10.out (by decide)))) _).trans (hHeld.2))))⟩ (fun hHeld=>?_);clear hK K;refine done_ (done_of HT_.out (by kernel_rfl)) ?_;have:=NB10_5.out;have:=NB5_10.out;have ⟨_,_,_,_⟩:=cf2 BK10
     try go_wp2_with (first | ((with_reducible refine gC 93 rfl ?_);refine gL (some 22) Tryz.func93 #[.agg #[.int .i64 t2,.int .i64 t3]] ?_;(with_reducible refine (spec_EndOk.calls t2 t3 false _ A8.out).mono ?_);rintro e w37 ⟨rfl,hb⟩;refine ⟨_,rfl,?_⟩;replace HO7:=am (Kd.R_below (by (with_reducible repeat apply ru);exact (Kd.R_mono (Kd.R_far (p:=⟨gb10,1,none⟩) (Kd.R_far (p:=⟨gb10,0,none⟩) (Kd.R_types HO7.out BK10.out (by decide)) (fun _ hk=>hk.2) (.int .i64 t2)) (fun _ hk=>hk.2) (.int .i64 t3)) (fun _ h_=>h_.1))) hb);replace BK5:=am (blk_below (g:=gb5) (o:=.cells #[.int .i64 0,.int .i64 0] 54 (0,0)) (by (repeat (first | (with_reducible refine bu ?_) | refine blk_far ?_ NB5_10.out _));exact BK5.out) hb);replace BK10:=am (blk_below (g:=gb10) (o:=.cells #[.int .i64 t2,.int .i64 t3] 54 (0,0)) (by (with_reducible repeat refine bu ?_);refine blk_put (cs:=#[.int .i64 t2,.int .i64 0]) ?_ 1 _ rfl;(with_reducible repeat refine bu ?_);refine blk_put (cs:=#[.int .i64 0,.int .i64 0]) ?_ 0 _ rfl;(with_reducible repeat refine bu ?_);exact BK10.out) hb);replace HB:=hbS HB hb;(try clear hb);(try clear hk);have ⟨_,_,_,_⟩:=cf2 BK5))
     refine bodyPost_ret (results_ct rfl _ _ gb5 54 #[.int .i64 0,.int .i64 0] (0,0) _ rfl (by (with_reducible repeat refine bu ?_);refine blk_put (cs:=#[.int .i64 0,.int .i64 0]) ?_ 1 _ rfl;(with_reducible repeat refine bu ?_);refine blk_put (cs:=#[.int .i64 0,.int .i64 0]) ?_ 0 _ rfl;(with_reducible repeat refine bu ?_);exact BK5.out) Tryz.underlying54 rfl (by kernel_rfl)) rfl ?_;exact ⟨fi_,m4_⟩
   ·rw [if_neg c6] at H;exact absurd H (by simp)
  ·rw [if_neg c4] at H;exact absurd H (by simp)
 ·rw [if_neg c3] at H;have c3b0 : ((t1.length : Int) == 2) = false:=beq_eq_false_iff_ne.mpr c3;have c3b1 : ((t1.length : Int) != 2) = true:=bne_iff_ne.mpr c3;simp only [Option.some.injEq,Prod.mk.injEq] at H;obtain ⟨rfl,rfl,rfl⟩:=H
  go_enter Tryz.func196,Tryz.ntmps196
  go_wp2_with (first | ((with_reducible refine gD 2 rfl ?_);refine box_event rfl (N:=2) rfl (cs:=#[.int .i64 0,.int .i64 0]) (t:=54) hr_ ?_;intro gb5 hg w39 hbox hb;have BK5:=am hbox;have GW5:=gwE HB hg;have GE5:=gwE HB hg;replace HB:=hbS HB hb;clear hb hbox hg) | ((with_reducible refine gC 215 rfl ?_);refine gL (some 7) Tryz.func215 #[.string a0] ?_;(with_reducible refine (spec_l1Words.calls k a0 t1 _ A2.out).mono ?_);rintro e w40 ⟨v6,rfl,ho0,hb⟩;refine ⟨_,rfl,?_⟩;have HO7:=am (Kd.R_lower ho0 (below_size (bl HB)));replace BK5:=bkB BK5 hb;replace HB:=hbS HB hb;(try clear hb);(try clear ho0);obtain ⟨Ao41,co41,eo41⟩:=Kd.R_slice HO7.out;subst eo41;have ⟨_,_,_,_⟩:=cf2 BK5))
  refine bodyPost_ret (results_ct rfl _ _ gb5 54 #[.int .i64 0,.int .i64 0] (0,0) _ rfl (by (with_reducible repeat refine bu ?_);refine blk_put (cs:=#[.int .i64 0,.int .i64 0]) ?_ 1 _ rfl;(with_reducible repeat refine bu ?_);refine blk_put (cs:=#[.int .i64 0,.int .i64 0]) ?_ 0 _ rfl;(with_reducible repeat refine bu ?_);exact BK5.out) Tryz.underlying54 rfl (by kernel_rfl)) rfl ?_;exact ⟨fi_,m4_⟩
def spec_LinSays.j0 : Nat → ByteArray → Bool → Option (Int × Int × Bool)
 | 0,_,_=>none
 | k + 1,x0,x13=>if x13 = true then (some (0,0,false)) else (if 5 ≤ (x0.size : Int) then ((spec_EndRead.f k (x0.extract 5 x0.size)).bind fun bt500=>(if bt500.2.2 = true then ((spec_EndInside.f bt500.1 bt500.2.1).bind fun t504=>(if t504 = true then (some (bt500.1,bt500.2.1,true)) else (some (0,0,false)))) else (some (0,0,false)))) else (none))
def spec_LinSays.f (k : Nat) (a0 : ByteArray) : Option (Int × Int × Bool):=if (a0.size : Int) < 5 then (spec_LinSays.j0 k a0 true) else (if 0 ≤ 5 then (if 5 ≤ (a0.size : Int) then (spec_LinSays.j0 k a0 ((a0.extract 0 5).toList != ([112,111,114,116,32] : List UInt8))) else (none)) else (none))
theorem spec_LinSays.mono_l : ∀ k,(∀ y0 y1,LeO (spec_LinSays.j0 k y0 y1) (spec_LinSays.j0 (k + 1) y0 y1))
 | 0=>fun _ _ r h=>by simp [spec_LinSays.j0] at h
 | k + 1=>by
  have ih0:=spec_LinSays.mono_l k
  ·intro y0 y1;unfold spec_LinSays.j0
   repeat' first | (with_reducible first | exact ih0 _ _ | exact spec_EndRead.mono _ _ | exact LeO.refl _ | exact LeO.none _ | refine LeO.ite ?_ ?_ | refine LeO.bind ?_ (fun _=>?_)) | exact ih0 _ _ | exact spec_EndRead.mono _ _ | exact LeO.none _ | refine LeO.ite ?_ ?_ | refine LeO.bind ?_ (fun _=>?_)
theorem spec_LinSays.mono : ∀ a0 k,LeO (spec_LinSays.f k a0) (spec_LinSays.f (k + 1) a0):=by
 intro a0 k;have ih0:=spec_LinSays.mono_l k;unfold spec_LinSays.f
 repeat' first | (with_reducible first | exact ih0 _ _ | exact spec_EndRead.mono _ _ | exact LeO.refl _ | exact LeO.none _ | refine LeO.ite ?_ ?_ | refine LeO.bind ?_ (fun _=>?_)) | exact ih0 _ _ | exact spec_EndRead.mono _ _ | exact LeO.none _ | refine LeO.ite ?_ ?_ | refine LeO.bind ?_ (fun _=>?_)
set_option maxHeartbeats 8000000 in
set_option maxRecDepth 100000 in
theorem spec_LinSays.calls (k : Nat) (a0 : ByteArray) (r1 : Int) (r2 : Int) (r3 : Bool) (w : World) (h : spec_LinSays.f k a0 = some (r1,r2,r3)) :
  Calls Tryz.prog 182 #[.string a0] w fun e w'=>e = .returned (.tuple #[.agg #[.int .i64 r1,.int .i64 r2],.bool r3]) ∧ Below w.heap.size w w':=by
 have hu54:=Tryz.underlying54;have HB:=am (Below.refl w.heap.size w);have H : (if (a0.size : Int) < 5 then (spec_LinSays.j0 k a0 true) else (if 0 ≤ 5 then (if 5 ≤ (a0.size : Int) then (spec_LinSays.j0 k a0 ((a0.extract 0 5).toList != ([112,111,114,116,32] : List UInt8))) else (none)) else (none))) = some (r1,r2,r3):=h;clear h;have HC2:=am H;clear H
 go_enter Tryz.func182,Tryz.ntmps182
 go_upto_region 1 with (first | ((with_reducible refine gD 2 rfl ?_);refine box_event rfl (N:=2) rfl (cs:=#[.int .i64 0,.int .i64 0]) (t:=54) hr_ ?_;intro gb0 hg w3 hbox hb;have BK0:=am hbox;have GW0:=gwE HB hg;have GE0:=gwE HB hg;replace HB:=hbS HB hb;clear hb hbox hg))
 (try simp only [Act.put,List.setIfInBounds_toArray,List.set_cons_zero,List.set_cons_succ])
 go_cut [13] (fun v13 wc=>∃ (kq : Nat) (x13_1 : Bool),v13 = .bool x13_1 ∧ Aside0 (spec_LinSays.j0 kq a0 x13_1 = some (r1,r2,r3)) ∧ Aside0 (kq ≤ k) ∧ Aside0 (wc.heap[gb0]? = some (.cells #[.int .i64 0,.int .i64 0] 54 (0,0))) ∧ Aside0 (Below w.heap.size w wc))
 case first=>
  have H:=HC2.out;clear HC2
  by_cases c4 : (a0.size : Int) < 5
  ·rw [if_pos c4] at H;have c4b0 : decide ((a0.size : Int) < 5) = true:=decide_eq_true c4;have c4b1 : decide (a0.size < 5) = true:=decide_eq_true (by omega);clear c4;(first | rw [c4b0] | (simp only [i64_w,i32_w];rw [c4b0]) | skip);have H':=am H;clear H
   go_wp2
   go_meet
   case rel=>exact ⟨_,(true),rs_,H',⟨by first | omega | exact Nat.le_refl _⟩,⟨bk BK0⟩,⟨m4_⟩⟩
  ·rw [if_neg c4] at H;have c4b0 : decide ((a0.size : Int) < 5) = false:=decide_eq_false c4;have c4b1 : decide (a0.size < 5) = false:=decide_eq_false (by omega);clear c4;(first | rw [c4b0] | (simp only [i64_w,i32_w];rw [c4b0]) | skip)
   by_cases c5 : 0 ≤ 5
   ·rw [if_pos c5] at H;have c5b0:=eq_true c5;have c5b1 : decide (0 ≤ 5) = true:=decide_eq_true c5;clear c5
    by_cases c6 : 5 ≤ (a0.size : Int)
    ·rw [if_pos c6] at H;have c6b0:=eq_true c6;have c6b1 : decide (5 ≤ (a0.size : Int)) = true:=decide_eq_true c6;clear c6;have H':=am H;clear H
     go_wp2
     go_meet
     case rel=>exact ⟨_,(((a0.extract 0 5).toList != ([112,111,114,116,32] : List UInt8))),rs_,H',⟨by first | omega | exact Nat.le_refl _⟩,⟨bk BK0⟩,⟨m4_⟩⟩
    ·rw [if_neg c6] at H;exact absurd H (by simp)
   ·rw [if_neg c5] at H;exact absurd H (by simp)
 case rest=>
  clear HC2;(try clear c1);(try clear p2);(try clear c4);(try clear c4b0);(try clear c4b1);(try clear c5);(try clear c5b0);(try clear c5b1);(try clear c6);(try clear c6b0);(try clear c6b1);obtain ⟨kq,x13_1,rfl,HA,HJ1,BK0,HB⟩:=hcut
  cases kq with
  | zero=>exact absurd HA.out (by simp [spec_LinSays.j0])
  | succ kj1=>
   have H:=HA.out;clear HA;simp only [spec_LinSays.j0] at H
   by_cases c7 : x13_1 = true
   ·subst c7;rw [if_pos rfl] at H;simp only [Option.some.injEq,Prod.mk.injEq] at H;obtain ⟨rfl,rfl,rfl⟩:=H;have ⟨_,_,_,_⟩:=cf2 BK0
    go_wp2
    refine bodyPost_ret (results_ct rfl _ _ gb0 54 #[.int .i64 0,.int .i64 0] (0,0) _ rfl (by (with_reducible repeat refine bu ?_);refine blk_put (cs:=#[.int .i64 0,.int .i64 0]) ?_ 1 _ rfl;(with_reducible repeat refine bu ?_);refine blk_put (cs:=#[.int .i64 0,.int .i64 0]) ?_ 0 _ rfl;(with_reducible repeat refine bu ?_);exact BK0.out) Tryz.underlying54 rfl (by kernel_rfl)) rfl ?_;exact ⟨fi_,m4_⟩
   ·replace c7:=Bool.eq_false_iff.mpr c7;subst c7;rw [if_neg nft_] at H
    by_cases c9 : 5 ≤ (a0.size : Int)
    ·rw [if_pos c9] at H;have c9b0:=eq_true c9;have c9b1 : decide (5 ≤ (a0.size : Int)) = true:=decide_eq_true c9;clear c9;obtain ⟨⟨t1,t3,t4⟩,A10,H⟩:=bse H
     try dsimp only at H
     by_cases c11 : t4 = true
     ·subst c11;rw [if_pos rfl] at H;obtain ⟨t5,A12,H⟩:=bse H
      try dsimp only at H
      by_cases c13 : t5 = true
      ·subst c13;rw [if_pos rfl] at H;simp only [Option.some.injEq,Prod.mk.injEq] at H;obtain ⟨rfl,rfl,rfl⟩:=H
       go_wp2_with (first | ((with_reducible refine gC 196 rfl ?_);refine gL (some 18) Tryz.func196 #[.string (a0.extract 5 a0.size)] ?_;(with_reducible refine (spec_EndRead.calls kj1 (a0.extract 5 a0.size) t1 t3 true _ A10.out).mono ?_);rintro e w14 ⟨rfl,hb⟩;refine ⟨_,rfl,?_⟩;replace BK0:=bkB BK0 hb;replace HB:=hbS HB hb;(try clear hb)) | ((with_reducible refine gD 4 rfl ?_);refine box_event rfl (N:=4) rfl (cs:=#[.int .i64 0,.int .i64 0]) (t:=54) hr_ ?_;intro gb6 hg w15 hbox hb;have BK6:=am hbox;have GW6:=gwE HB hg;have GE6:=gwE HB hg;replace HB:=hbS HB hb;have NB0_6:=neL BK0 hg;have NB6_0:=neG BK0 hg;replace BK0:=bkB BK0 hb;clear hb hbox hg;have:=NB6_0.out;have:=NB0_6.out;have ⟨_,_,_,_⟩:=cf2 BK6) | (go_at_call 38;(with_reducible refine (spec_EndInside.calls t1 t3 true _ A12.out).mono ?_);rintro e w18 ⟨rfl,hb⟩;replace BK0:=am (blk_below (g:=gb0) (o:=.cells #[.int .i64 0,.int .i64 0] 54 (0,0)) (by (repeat (first | (with_reducible refine bu ?_) | refine blk_far ?_ NB0_6.out _));exact BK0.out) hb);replace BK6:=am (blk_below (g:=gb6) (o:=.cells #[.int .i64 t1,.int .i64 t3] 54 (0,0)) (by (with_reducible repeat refine bu ?_);refine blk_put (cs:=#[.int .i64 t1,.int .i64 0]) ?_ 1 _ rfl;(with_reducible repeat refine bu ?_);refine blk_put (cs:=#[.int .i64 0,.int .i64 0]) ?_ 0 _ rfl;(with_reducible repeat refine bu ?_);exact BK6.out) hb);replace HB:=hbS HB hb;(try clear hb);have ⟨_,_,_,_⟩:=cf2 BK6;have ⟨_,_,_,_⟩:=cf2 BK0))
       refine bodyPost_ret (results_ct rfl _ _ gb0 54 #[.int .i64 t1,.int .i64 t3] (0,0) _ rfl (by (with_reducible repeat refine bu ?_);refine blk_put (cs:=#[.int .i64 t1,.int .i64 0]) ?_ 1 _ rfl;(with_reducible repeat refine bu ?_);refine blk_put (cs:=#[.int .i64 0,.int .i64 0]) ?_ 0 _ rfl;(with_reducible repeat refine bu ?_);exact BK0.out) Tryz.underlying54 rfl (by kernel_rfl)) rfl ?_;exact ⟨fi_,m4_⟩
      ·replace c13:=Bool.eq_false_iff.mpr c13;subst c13;rw [if_neg nft_] at H;simp only [Option.some.injEq,Prod.mk.injEq] at H;obtain ⟨rfl,rfl,rfl⟩:=H
       go_wp2_with (first | ((with_reducible refine gC 196 rfl ?_);refine gL (some 18) Tryz.func196 #[.string (a0.extract 5 a0.size)] ?_;(with_reducible refine (spec_EndRead.calls kj1 (a0.extract 5 a0.size) t1 t3 true _ A10.out).mono ?_);rintro e w21 ⟨rfl,hb⟩;refine ⟨_,rfl,?_⟩;replace BK0:=bkB BK0 hb;replace HB:=hbS HB hb;(try clear hb)) | ((with_reducible refine gD 4 rfl ?_);refine box_event rfl (N:=4) rfl (cs:=#[.int .i64 0,.int .i64 0]) (t:=54) hr_ ?_;intro gb6 hg w22 hbox hb;have BK6:=am hbox;have GW6:=gwE HB hg;have GE6:=gwE HB hg;replace HB:=hbS HB hb;have NB0_6:=neL BK0 hg;have NB6_0:=neG BK0 hg;replace BK0:=bkB BK0 hb;clear hb hbox hg;have:=NB6_0.out;have:=NB0_6.out;have ⟨_,_,_,_⟩:=cf2 BK6) | (go_at_call 38;(with_reducible refine (spec_EndInside.calls t1 t3 false _ A12.out).mono ?_);rintro e w25 ⟨rfl,hb⟩;replace BK0:=am (blk_below (g:=gb0) (o:=.cells #[.int .i64 0,.int .i64 0] 54 (0,0)) (by (repeat (first | (with_reducible refine bu ?_) | refine blk_far ?_ NB0_6.out _));exact BK0.out) hb);replace BK6:=am (blk_below (g:=gb6) (o:=.cells #[.int .i64 t1,.int .i64 t3] 54 (0,0)) (by (with_reducible repeat refine bu ?_);refine blk_put (cs:=#[.int .i64 t1,.int .i64 0]) ?_ 1 _ rfl;(with_reducible repeat refine bu ?_);refine blk_put (cs:=#[.int .i64 0,.int .i64 0]) ?_ 0 _ rfl;(with_reducible repeat refine bu ?_);exact BK6.out) hb);replace HB:=hbS HB hb;(try clear hb);have ⟨_,_,_,_⟩:=cf2 BK0))
       refine bodyPost_ret (results_ct rfl _ _ gb0 54 #[.int .i64 0,.int .i64 0] (0,0) _ rfl (by (with_reducible repeat refine bu ?_);refine blk_put (cs:=#[.int .i64 0,.int .i64 0]) ?_ 1 _ rfl;(with_reducible repeat refine bu ?_);refine blk_put (cs:=#[.int .i64 0,.int .i64 0]) ?_ 0 _ rfl;(with_reducible repeat refine bu ?_);exact BK0.out) Tryz.underlying54 rfl (by kernel_rfl)) rfl ?_;exact ⟨fi_,m4_⟩
     ·replace c11:=Bool.eq_false_iff.mpr c11;subst c11;rw [if_neg nft_] at H;simp only [Option.some.injEq,Prod.mk.injEq] at H;obtain ⟨rfl,rfl,rfl⟩:=H
      go_wp2_with (first | ((with_reducible refine gC 196 rfl ?_);refine gL (some 18) Tryz.func196 #[.string (a0.extract 5 a0.size)] ?_;(with_reducible refine (spec_EndRead.calls kj1 (a0.extract 5 a0.size) t1 t3 false _ A10.out).mono ?_);rintro e w27 ⟨rfl,hb⟩;refine ⟨_,rfl,?_⟩;replace BK0:=bkB BK0 hb;replace HB:=hbS HB hb;(try clear hb)) | ((with_reducible refine gD 4 rfl ?_);refine box_event rfl (N:=4) rfl (cs:=#[.int .i64 0,.int .i64 0]) (t:=54) hr_ ?_;intro gb6 hg w28 hbox hb;have BK6:=am hbox;have GW6:=gwE HB hg;have GE6:=gwE HB hg;replace HB:=hbS HB hb;have NB0_6:=neL BK0 hg;have NB6_0:=neG BK0 hg;replace BK0:=bkB BK0 hb;clear hb hbox hg;have:=NB6_0.out;have:=NB0_6.out;have ⟨_,_,_,_⟩:=cf2 BK6;have ⟨_,_,_,_⟩:=cf2 BK0))
      refine bodyPost_ret (results_ct rfl _ _ gb0 54 #[.int .i64 0,.int .i64 0] (0,0) _ rfl (by (with_reducible repeat refine bu ?_);refine blk_put (cs:=#[.int .i64 0,.int .i64 0]) ?_ 1 _ rfl;(with_reducible repeat refine bu ?_);refine blk_put (cs:=#[.int .i64 0,.int .i64 0]) ?_ 0 _ rfl;(repeat (first | (with_reducible refine bu ?_) | refine blk_far ?_ NB0_6.out _));exact BK0.out) Tryz.underlying54 rfl (by kernel_rfl)) rfl ?_;exact ⟨fi_,m4_⟩
    ·rw [if_neg c9] at H;exact absurd H (by simp)
def spec_l3Line.f (k : Nat) (l0_0 : List (S54)) (a1 : ByteArray) : Option ((List (S54)) × ByteArray):=(spec_LinSays.f k a1).bind fun bt507=>(if bt507.2.2 = true then ((spec_l3Put.f k l0_0 bt507.1 bt507.2.1).bind fun bt511=>(if bt511.2 = 0 then (some (bt511.1,(⟨#[110,111,110,101]⟩ : ByteArray))) else ((spec_LinPort.f k 50 bt511.2).bind fun t516=>(some (bt511.1,t516))))) else (some (l0_0,a1)))
theorem spec_l3Line.mono : ∀ a0 a1 k,LeO (spec_l3Line.f k a0 a1) (spec_l3Line.f (k + 1) a0 a1):=by
 intro a0 a1 k;unfold spec_l3Line.f
 repeat' first | (with_reducible first | exact spec_LinPort.mono _ _ _ | exact spec_LinSays.mono _ _ | exact spec_l3Put.mono _ _ _ _ | exact LeO.refl _ | exact LeO.none _ | refine LeO.ite ?_ ?_ | refine LeO.bind ?_ (fun _=>?_)) | exact spec_LinPort.mono _ _ _ | exact spec_LinSays.mono _ _ | exact spec_l3Put.mono _ _ _ _ | exact LeO.none _ | refine LeO.ite ?_ ?_ | refine LeO.bind ?_ (fun _=>?_)
set_option maxHeartbeats 8000000 in
set_option maxRecDepth 100000 in
theorem spec_l3Line.calls (k : Nat) (P0_0_ : Nat → Prop) (A0_0 : Option Addr) (c0_0 : Nat) (l0_0 : List (S54)) (a1 : ByteArray) (r1 : List (S54)) (r2 : ByteArray) (w : World) (hs0_0 : Kd.V k54 54 w w.heap.size (fun k_=>P0_0_ k_) (.slice A0_0 l0_0.length c0_0) l0_0) (h : spec_l3Line.f k l0_0 a1 = some (r1,r2)) :
  Calls Tryz.prog 161 #[.agg #[.slice A0_0 l0_0.length c0_0],.string a1] w fun e w'=>∃ v0_ : Value,e = .returned (.tuple #[.agg #[v0_],.string r2]) ∧ Kd.V k54 54 w' w.heap.size (fun k_=>(P0_0_ k_ ∨ w.heap.size ≤ k_)) v0_ r1 ∧ Below w.heap.size w w':=by
 have hu27:=Tryz.underlying27;have hu54:=Tryz.underlying54;have HO0_0:=am (show Kd.V k54 54 w w.heap.size (fun k_=>(P0_0_ k_ ∨ w.heap.size ≤ k_)) (.slice A0_0 l0_0.length c0_0) l0_0 from Kd.V_mono hs0_0 (fun k_ hk=>.inl hk));have HB:=am (Below.refl w.heap.size w);have H : ((spec_LinSays.f k a1).bind fun bt1=>(if bt1.2.2 = true then ((spec_l3Put.f k l0_0 bt1.1 bt1.2.1).bind fun bt2=>(if bt2.2 = 0 then (some (bt2.1,(⟨#[110,111,110,101]⟩ : ByteArray))) else ((spec_LinPort.f k 50 bt2.2).bind fun t3=>(some (bt2.1,t3))))) else (some (l0_0,a1)))) = some (r1,r2):=h;clear h;obtain ⟨⟨t1,t4,t5⟩,A3,H⟩:=bse H
 try dsimp only at H
 by_cases c4 : t5 = true
 ·subst c4;rw [if_pos rfl] at H;obtain ⟨⟨t2,t6⟩,A5,H⟩:=bse H
  try dsimp only at H
  by_cases c6 : t6 = 0
  ·rw [if_pos c6] at H;have c6b0 : (t6 == 0) = true:=beq_iff_eq.mpr c6;have c6b1 : (t6 != 0) = false:=bne_eq_false_iff_eq.mpr c6;clear c6;simp only [Option.some.injEq,Prod.mk.injEq] at H;obtain ⟨rfl,rfl⟩:=H
   go_enter Tryz.func161,Tryz.ntmps161
   go_wp2_with (first | ((with_reducible refine gD 2 rfl ?_);refine box_event rfl (N:=2) rfl (cs:=#[.slice A0_0 l0_0.length c0_0]) (t:=27) hr_ ?_;intro gb7 hg w7 hbox hb;replace HO0_0:=am (Kd.V_below (Kd.V_elderB (by (with_reducible repeat (first | apply Kd.V_alloc | apply Kd.V_drewN | apply Kd.V_drew));exact HO0_0.out) gb7 (Nat.le_of_eq hg.symm)) hb);have BK7:=am hbox;have GW7:=gwE HB hg;have GE7:=gwE HB hg;replace HB:=hbS HB hb;clear hb hbox hg) | ((with_reducible refine gD 4 rfl ?_);refine box_event rfl (N:=4) rfl (cs:=#[.slice none 0 0]) (t:=27) hr_ ?_;intro gb8 hg w8 hbox hb;replace HO0_0:=am (Kd.V_below (Kd.V_elderB (by (with_reducible repeat (first | apply Kd.V_alloc | apply Kd.V_drewN | apply Kd.V_drew));exact HO0_0.out) gb8 (Nat.le_of_eq hg.symm)) hb);have BK8:=am hbox;have GW8:=gwE HB hg;have GE8:=gwE HB hg;replace HB:=hbS HB hb;have NB7_8:=neL BK7 hg;have NB8_7:=neG BK7 hg;replace BK7:=bkB BK7 hb;clear hb hbox hg) | ((with_reducible refine gC 182 rfl ?_);refine gL (some 12) Tryz.func182 #[.string a1] ?_;(with_reducible refine (spec_LinSays.calls k a1 t1 t4 true _ A3.out).mono ?_);rintro e w9 ⟨rfl,hb⟩;refine ⟨_,rfl,?_⟩;replace HO0_0:=am (Kd.V_below (by (with_reducible repeat (first | apply Kd.V_alloc | apply Kd.V_drewN | apply Kd.V_drew));exact HO0_0.out) hb);replace BK7:=bkB BK7 hb;replace BK8:=bkB BK8 hb;replace HB:=hbS HB hb;(try clear hb)) | ((with_reducible refine gD 6 rfl ?_);refine box_event rfl (N:=6) rfl (cs:=#[.int .i64 0,.int .i64 0]) (t:=54) hr_ ?_;intro gb9 hg w10 hbox hb;replace HO0_0:=am (Kd.V_below (Kd.V_elderB (by (with_reducible repeat (first | apply Kd.V_alloc | apply Kd.V_drewN | apply Kd.V_drew));exact HO0_0.out) gb9 (Nat.le_of_eq hg.symm)) hb);have BK9:=am hbox;have GW9:=gwE HB hg;have GE9:=gwE HB hg;replace HB:=hbS HB hb;have NB7_9:=neL BK7 hg;have NB9_7:=neG BK7 hg;replace BK7:=bkB BK7 hb;have NB8_9:=neL BK8 hg;have NB9_8:=neG BK8 hg;replace BK8:=bkB BK8 hb;clear hb hbox hg;have:=NB9_7.out;have:=NB7_9.out;have:=NB9_8.out;have:=NB8_9.out;have ⟨_,_,_,_⟩:=cf2 BK9) | ((with_reducible refine gate_store (t:=54) (p:=6) rfl ?_);refine store_event (t:=54) (p:=6) (v:=?vo_w14) (w1:=((w10.setCell ⟨gb9,0,none⟩ (.int .i64 t1)).setCell ⟨gb9,1,none⟩ (.int .i64 t4))) ?hg ?ho ?hn ?hr ?_;(case ho=>rfl);(case hg=>rfl);(case hn=>rfl);(case hr=>first | (go_simp;done) | (go_simp;rfl));intro w14 hw;have n0_ : Aside0 (Kd.V k54 54 w14 w.heap.size (fun k_=>(P0_0_ k_ ∨ w.heap.size ≤ k_) ∧ k_ ≠ gb7 ∧ k_ ≠ gb8 ∧ k_ ≠ gb9) (.slice A0_0 l0_0.length c0_0) l0_0):=⟨(by rw [hw];exact (by (with_reducible repeat (first | apply Kd.V_alloc | apply Kd.V_drewN | apply Kd.V_drew));exact Kd.V_mono (Kd.V_far (p:=⟨gb9,1,none⟩) (Kd.V_far (p:=⟨gb9,0,none⟩) (Kd.V_mono HO0_0.out (fun k_ hk=>(⟨hk,hk.2⟩ : _ ∧ k_ ≠ gb9))) (fun _ hk=>hk.2) (.int .i64 t1)) (fun _ hk=>hk.2) (.int .i64 t4)) ok_))⟩;have n1_ : Aside0 (w14.heap[gb7]? = some (.cells #[.slice A0_0 l0_0.length c0_0] 27 (0,0))):=⟨(by rw [hw];exact (by (repeat (first | (with_reducible refine bu ?_) | refine blk_far ?_ NB7_9.out _));exact BK7.out))⟩;have n2_ : Aside0 (w14.heap[gb8]? = some (.cells #[.slice none 0 0] 27 (0,0))):=⟨(by rw [hw];exact (by (repeat (first | (with_reducible refine bu ?_) | refine blk_far ?_ NB8_9.out _));exact BK8.out))⟩;have n3_ : Aside0 (w14.heap[gb9]? = some (.cells #[.int .i64 t1,.int .i64 t4] 54 (0,0))):=⟨(by rw [hw];exact (by (with_reducible repeat refine bu ?_);refine blk_put (cs:=#[.int .i64 t1,.int .i64 0]) ?_ 1 _ rfl;(with_reducible repeat refine bu ?_);refine blk_put (cs:=#[.int .i64 0,.int .i64 0]) ?_ 0 _ rfl;(with_reducible repeat refine bu ?_);exact BK9.out))⟩;have n4_ : Aside0 (Below w.heap.size w w14):=⟨(by rw [hw];exact (bl HB))⟩;clear hw;clear HO0_0;clear BK7;clear BK8;clear BK9;clear HB;have HO0_0:=n0_;have BK7:=n1_;have BK8:=n2_;have BK9:=n3_;have HB:=n4_;clear n0_ n1_ n2_ n3_ n4_;have:=NB7_8.out;have:=NB8_7.out;have ⟨_,_⟩:=cf1 BK7;have ⟨_,_,_,_⟩:=cf2 BK9) | ((with_reducible refine gC 71 rfl ?_);refine gL (some 22) Tryz.func71 #[.agg #[.slice A0_0 l0_0.length c0_0],.agg #[.int .i64 t1,.int .i64 t4]] ?_;(with_reducible refine (spec_l3Put.calls k (fun k_=>((P0_0_ k_ ∨ w.heap.size ≤ k_) ∧ (k_ ≠ gb7 ∧ (k_ ≠ gb8 ∧ k_ ≠ gb9)))) _ _ l0_0 t1 t4 t2 t6 _ HO0_0.out A5.out).mono ?_);rintro e w18 ⟨v10,rfl,ho0,hb⟩;refine ⟨_,rfl,?_⟩;replace HO0_0:=am (Kd.V_below (by (with_reducible repeat (first | apply Kd.V_alloc | apply Kd.V_drewN | apply Kd.V_drew));exact HO0_0.out) hb);have HO11:=am (Kd.V_lower (Kd.V_mono (ok':=fun k_=>(P0_0_ k_ ∨ w.heap.size ≤ k_) ∧ k_ ≠ gb7 ∧ k_ ≠ gb8 ∧ k_ ≠ gb9) ho0 (fun k_ hk_=>⟨Or.elim hk_ (fun hs_=>hs_.1) (fun hn_=>(.inr (Nat.le_trans (below_size (bl HB)) hn_))),Or.elim hk_ (fun hs_=>hs_.2.1) (fun hn_=>(Kd.freshB (g:=gb7) (o:=.cells #[.slice A0_0 l0_0.length c0_0] 27 (0,0)) (bk BK7) k_ hn_)),Or.elim hk_ (fun hs_=>hs_.2.2.1) (fun hn_=>(Kd.freshB (g:=gb8) (o:=.cells #[.slice none 0 0] 27 (0,0)) (bk BK8) k_ hn_)),Or.elim hk_ (fun hs_=>hs_.2.2.2) (fun hn_=>(Kd.freshB (g:=gb9) (o:=.cells #[.int .i64 t1,.int .i64 t4] 54 (0,0)) (bk BK9) k_ hn_))⟩)) (below_size (bl HB)));replace BK7:=bkB BK7 hb;replace BK8:=bkB BK8 hb;replace BK9:=bkB BK9 hb;replace HB:=hbS HB hb;(try clear hb);(try clear ho0)) | ((with_reducible refine gD 8 rfl ?_);refine box_event rfl (N:=8) rfl (cs:=#[.slice none 0 0]) (t:=27) hr_ ?_;intro gb12 hg w19 hbox hb;replace HO0_0:=am (Kd.V_below (Kd.V_elderB (by (with_reducible repeat (first | apply Kd.V_alloc | apply Kd.V_drewN | apply Kd.V_drew));exact HO0_0.out) gb12 (Nat.le_of_eq hg.symm)) hb);replace HO11:=am (Kd.V_below (Kd.V_elderB (by (with_reducible repeat (first | apply Kd.V_alloc | apply Kd.V_drewN | apply Kd.V_drew));exact HO11.out) gb12 (Nat.le_of_eq hg.symm)) hb);have BK12:=am hbox;have GW12:=gwE HB hg;have GE12:=gwE HB hg;replace HB:=hbS HB hb;have NB7_12:=neL BK7 hg;have NB12_7:=neG BK7 hg;replace BK7:=bkB BK7 hb;have NB8_12:=neL BK8 hg;have NB12_8:=neG BK8 hg;replace BK8:=bkB BK8 hb;have NB9_12:=neL BK9 hg;have NB12_9:=neG BK9 hg;replace BK9:=bkB BK9 hb;clear hb hbox hg;obtain ⟨Ao20,co20,eo20⟩:=Kd.V_slice HO11.out;subst eo20;have:=NB12_7.out;have:=NB7_12.out;have:=NB12_8.out;have:=NB8_12.out;have:=NB12_9.out;have:=NB9_12.out;have ⟨_,_⟩:=cf1 BK12;have ⟨_,_⟩:=cf1 BK8))
   refine bodyPost_ret (results_ct rfl _ _ gb8 27 #[.slice Ao20 t2.length co20] (0,0) _ rfl (by (with_reducible repeat refine bu ?_);refine blk_put (cs:=#[.slice none 0 0]) ?_ 0 _ rfl;(with_reducible repeat refine bu ?_);refine blk_far ?_ NB8_12.out _;(with_reducible repeat refine bu ?_);exact BK8.out) Tryz.underlying27 rfl (by kernel_rfl)) rfl ?_;exact ⟨_,fi_,by (with_reducible repeat (first | apply Kd.V_alloc | apply Kd.V_drewN | apply Kd.V_drew));exact Kd.V_mono (Kd.V_far (p:=⟨gb8,0,none⟩) (Kd.V_far (p:=⟨gb12,0,none⟩) (Kd.V_mono (Kd.V_mono HO11.out (fun k_ hk=>(⟨hk,hk.2⟩ : _ ∧ k_ ≠ gb12))) (fun k_ hk=>(⟨hk,hk.1.1.2.2.1⟩ : _ ∧ k_ ≠ gb8))) (fun _ hk=>hk.1.2) (.slice Ao20 t2.length co20)) (fun _ hk=>hk.2) (.slice Ao20 t2.length co20)) (fun _ hk=>hk.1.1.1.1),m4_⟩
  ·rw [if_neg c6] at H;have c6b0 : (t6 == 0) = false:=beq_eq_false_iff_ne.mpr c6;have c6b1 : (t6 != 0) = true:=bne_iff_ne.mpr c6;obtain ⟨t3,A26,H⟩:=bse H
   try dsimp only at H
   simp only [Option.some.injEq,Prod.mk.injEq] at H;obtain ⟨rfl,rfl⟩:=H
   go_enter Tryz.func161,Tryz.ntmps161
   try go_wp2_with (first | ((with_reducible refine gD 2 rfl ?_);refine box_event rfl (N:=2) rfl (cs:=#[.slice A0_0 l0_0.length c0_0]) (t:=27) hr_ ?_;intro gb7 hg w27 hbox hb;replace HO0_0:=am (Kd.V_below (Kd.V_elderB (by (with_reducible repeat (first | apply Kd.V_alloc | apply Kd.V_drewN | apply Kd.V_drew));exact HO0_0.out) gb7 (Nat.le_of_eq hg.symm)) hb);have BK7:=am hbox;have GW7:=gwE HB hg;have GE7:=gwE HB hg;replace HB:=hbS HB hb;clear hb hbox hg) | ((with_reducible refine gD 4 rfl ?_);refine box_event rfl (N:=4) rfl (cs:=#[.slice none 0 0]) (t:=27) hr_ ?_;intro gb8 hg w28 hbox hb;replace HO0_0:=am (Kd.V_below (Kd.V_elderB (by (with_reducible repeat (first | apply Kd.V_alloc | apply Kd.V_drewN | apply Kd.V_drew));exact HO0_0.out) gb8 (Nat.le_of_eq hg.symm)) hb);have BK8:=am hbox;have GW8:=gwE HB hg;have GE8:=gwE HB hg;replace HB:=hbS HB hb;have NB7_8:=neL BK7 hg;have NB8_7:=neG BK7 hg;replace BK7:=bkB BK7 hb;clear hb hbox hg) | ((with_reducible refine gC 182 rfl ?_);refine gL (some 12) Tryz.func182 #[.string a1] ?_;(with_reducible refine (spec_LinSays.calls k a1 t1 t4 true _ A3.out).mono ?_);rintro e w29 ⟨rfl,hb⟩;refine ⟨_,rfl,?_⟩;replace HO0_0:=am (Kd.V_below (by (with_reducible repeat (first | apply Kd.V_alloc | apply Kd.V_drewN | apply Kd.V_drew));exact HO0_0.out) hb);replace BK7:=bkB BK7 hb;replace BK8:=bkB BK8 hb;replace HB:=hbS HB hb;(try clear hb)) | ((with_reducible refine gD 6 rfl ?_);refine box_event rfl (N:=6) rfl (cs:=#[.int .i64 0,.int .i64 0]) (t:=54) hr_ ?_;intro gb9 hg w30 hbox hb;replace HO0_0:=am (Kd.V_below (Kd.V_elderB (by (with_reducible repeat (first | apply Kd.V_alloc | apply Kd.V_drewN | apply Kd.V_drew));exact HO0_0.out) gb9 (Nat.le_of_eq hg.symm)) hb);have BK9:=am hbox;have GW9:=gwE HB hg;have GE9:=gwE HB hg;replace HB:=hbS HB hb;have NB7_9:=neL BK7 hg;have NB9_7:=neG BK7 hg;replace BK7:=bkB BK7 hb;have NB8_9:=neL BK8 hg;have NB9_8:=neG BK8 hg;replace BK8:=bkB BK8 hb;clear hb hbox hg;have:=NB9_7.out;have:=NB7_9.out;have:=NB9_8.out;have:=NB8_9.out;have ⟨_,_,_,_⟩:=cf2 BK9) | ((with_reducible refine gate_store (t:=54) (p:=6) rfl ?_);refine store_event (t:=54) (p:=6) (v:=?vo_w34) (w1:=((w30.setCell ⟨gb9,0,none⟩ (.int .i64 t1)).setCell ⟨gb9,1,none⟩ (.int .i64 t4))) ?hg ?ho ?hn ?hr ?_;(case ho=>rfl);(case hg=>rfl);(case hn=>rfl);(case hr=>first | (go_simp;done) | (go_simp;rfl));intro w34 hw;have n0_ : Aside0 (Kd.V k54 54 w34 w.heap.size (fun k_=>(P0_0_ k_ ∨ w.heap.size ≤ k_) ∧ k_ ≠ gb7 ∧ k_ ≠ gb8 ∧ k_ ≠ gb9) (.slice A0_0 l0_0.length c0_0) l0_0):=⟨(by rw [hw];exact (by (with_reducible repeat (first | apply Kd.V_alloc | apply Kd.V_drewN | apply Kd.V_drew));exact Kd.V_mono (Kd.V_far (p:=⟨gb9,1,none⟩) (Kd.V_far (p:=⟨gb9,0,none⟩) (Kd.V_mono HO0_0.out (fun k_ hk=>(⟨hk,hk.2⟩ : _ ∧ k_ ≠ gb9))) (fun _ hk=>hk.2) (.int .i64 t1)) (fun _ hk=>hk.2) (.int .i64 t4)) ok_))⟩;have n1_ : Aside0 (w34.heap[gb7]? = some (.cells #[.slice A0_0 l0_0.length c0_0] 27 (0,0))):=⟨(by rw [hw];exact (by (repeat (first | (with_reducible refine bu ?_) | refine blk_far ?_ NB7_9.out _));exact BK7.out))⟩;have n2_ : Aside0 (w34.heap[gb8]? = some (.cells #[.slice none 0 0] 27 (0,0))):=⟨(by rw [hw];exact (by (repeat (first | (with_reducible refine bu ?_) | refine blk_far ?_ NB8_9.out _));exact BK8.out))⟩;have n3_ : Aside0 (w34.heap[gb9]? = some (.cells #[.int .i64 t1,.int .i64 t4] 54 (0,0))):=⟨(by rw [hw];exact (by (with_reducible repeat refine bu ?_);refine blk_put (cs:=#[.int .i64 t1,.int .i64 0]) ?_ 1 _ rfl;(with_reducible repeat refine bu ?_);refine blk_put (cs:=#[.int .i64 0,.int .i64 0]) ?_ 0 _ rfl;(with_reducible repeat refine bu ?_);exact BK9.out))⟩;have n4_ : Aside0 (Below w.heap.size w w34):=⟨(by rw [hw];exact (bl HB))⟩;clear hw;clear HO0_0;clear BK7;clear BK8;clear BK9;clear HB;have HO0_0:=n0_;have BK7:=n1_;have BK8:=n2_;have BK9:=n3_;have HB:=n4_;clear n0_ n1_ n2_ n3_ n4_;have:=NB7_8.out;have:=NB8_7.out;have ⟨_,_⟩:=cf1 BK7;have ⟨_,_,_,_⟩:=cf2 BK9) | ((with_reducible refine gC 71 rfl ?_);refine gL (some 22) Tryz.func71 #[.agg #[.slice A0_0 l0_0.length c0_0],.agg #[.int .i64 t1,.int .i64 t4]] ?_;(with_reducible refine (spec_l3Put.calls k (fun k_=>((P0_0_ k_ ∨ w.heap.size ≤ k_) ∧ (k_ ≠ gb7 ∧ (k_ ≠ gb8 ∧ k_ ≠ gb9)))) _ _ l0_0 t1 t4 t2 t6 _ HO0_0.out A5.out).mono ?_);rintro e w38 ⟨v10,rfl,ho0,hb⟩;refine ⟨_,rfl,?_⟩;replace HO0_0:=am (Kd.V_below (by (with_reducible repeat (first | apply Kd.V_alloc | apply Kd.V_drewN | apply Kd.V_drew));exact HO0_0.out) hb);have HO11:=am (Kd.V_lower (Kd.V_mono (ok':=fun k_=>(P0_0_ k_ ∨ w.heap.size ≤ k_) ∧ k_ ≠ gb7 ∧ k_ ≠ gb8 ∧ k_ ≠ gb9) ho0 (fun k_ hk_=>⟨Or.elim hk_ (fun hs_=>hs_.1) (fun hn_=>(.inr (Nat.le_trans (below_size (bl HB)) hn_))),Or.elim hk_ (fun hs_=>hs_.2.1) (fun hn_=>(Kd.freshB (g:=gb7) (o:=.cells #[.slice A0_0 l0_0.length c0_0] 27 (0,0)) (bk BK7) k_ hn_)),Or.elim hk_ (fun hs_=>hs_.2.2.1) (fun hn_=>(Kd.freshB (g:=gb8) (o:=.cells #[.slice none 0 0] 27 (0,0)) (bk BK8) k_ hn_)),Or.elim hk_ (fun hs_=>hs_.2.2.2) (fun hn_=>(Kd.freshB (g:=gb9) (o:=.cells #[.int .i64 t1,.int .i64 t4] 54 (0,0)) (bk BK9) k_ hn_))⟩)) (below_size (bl HB)));replace BK7:=bkB BK7 hb;replace BK8:=bkB BK8 hb;replace BK9:=bkB BK9 hb;replace HB:=hbS HB hb;(try clear hb);(try clear ho0)) | ((with_reducible refine gD 8 rfl ?_);refine box_event rfl (N:=8) rfl (cs:=#[.slice none 0 0]) (t:=27) hr_ ?_;intro gb12 hg w39 hbox hb;replace HO0_0:=am (Kd.V_below (Kd.V_elderB (by (with_reducible repeat (first | apply Kd.V_alloc | apply Kd.V_drewN | apply Kd.V_drew));exact HO0_0.out) gb12 (Nat.le_of_eq hg.symm)) hb);replace HO11:=am (Kd.V_below (Kd.V_elderB (by (with_reducible repeat (first | apply Kd.V_alloc | apply Kd.V_drewN | apply Kd.V_drew));exact HO11.out) gb12 (Nat.le_of_eq hg.symm)) hb);have BK12:=am hbox;have GW12:=gwE HB hg;have GE12:=gwE HB hg;replace HB:=hbS HB hb;have NB7_12:=neL BK7 hg;have NB12_7:=neG BK7 hg;replace BK7:=bkB BK7 hb;have NB8_12:=neL BK8 hg;have NB12_8:=neG BK8 hg;replace BK8:=bkB BK8 hb;have NB9_12:=neL BK9 hg;have NB12_9:=neG BK9 hg;replace BK9:=bkB BK9 hb;clear hb hbox hg;obtain ⟨Ao40,co40,eo40⟩:=Kd.V_slice HO11.out;subst eo40;have:=NB12_7.out;have:=NB7_12.out;have:=NB12_8.out;have:=NB8_12.out;have:=NB12_9.out;have:=NB9_12.out;have ⟨_,_⟩:=cf1 BK12))
   have n0_ : Aside0 (Kd.V k54 54 (w39.setCell ⟨gb12,0,none⟩ (.slice Ao40 t2.length co40)) w.heap.size (fun k_=>(P0_0_ k_ ∨ w.heap.size ≤ k_) ∧ k_ ≠ gb7 ∧ k_ ≠ gb8 ∧ k_ ≠ gb9 ∧ k_ ≠ gb12) (.slice A0_0 l0_0.length c0_0) l0_0):=⟨by (with_reducible repeat (first | apply Kd.V_alloc | apply Kd.V_drewN | apply Kd.V_drew));exact Kd.V_mono (Kd.V_far (p:=⟨gb12,0,none⟩) (Kd.V_mono HO0_0.out (fun k_ hk=>(⟨hk,hk.2⟩ : _ ∧ k_ ≠ gb12))) (fun _ hk=>hk.2) (.slice Ao40 t2.length co40)) ok_⟩;have n1_ : Aside0 (Kd.V k54 54 (w39.setCell ⟨gb12,0,none⟩ (.slice Ao40 t2.length co40)) w.heap.size (fun k_=>(P0_0_ k_ ∨ w.heap.size ≤ k_) ∧ k_ ≠ gb7 ∧ k_ ≠ gb8 ∧ k_ ≠ gb9 ∧ k_ ≠ gb12) (.slice Ao40 t2.length co40) t2):=⟨by (with_reducible repeat (first | apply Kd.V_alloc | apply Kd.V_drewN | apply Kd.V_drew));exact Kd.V_mono (Kd.V_far (p:=⟨gb12,0,none⟩) (Kd.V_mono HO11.out (fun k_ hk=>(⟨hk,hk.2⟩ : _ ∧ k_ ≠ gb12))) (fun _ hk=>hk.2) (.slice Ao40 t2.length co40)) ok_⟩;have n2_ : Aside0 ((w39.setCell ⟨gb12,0,none⟩ (.slice Ao40 t2.length co40)).heap[gb7]? = some (.cells #[.slice A0_0 l0_0.length c0_0] 27 (0,0))):=bf_ BK7;have n3_ : Aside0 ((w39.setCell ⟨gb12,0,none⟩ (.slice Ao40 t2.length co40)).heap[gb8]? = some (.cells #[.slice none 0 0] 27 (0,0))):=bf_ BK8;have n4_ : Aside0 ((w39.setCell ⟨gb12,0,none⟩ (.slice Ao40 t2.length co40)).heap[gb9]? = some (.cells #[.int .i64 t1,.int .i64 t4] 54 (0,0))):=bf_ BK9;have n5_ : Aside0 ((w39.setCell ⟨gb12,0,none⟩ (.slice Ao40 t2.length co40)).heap[gb12]? = some (.cells #[.slice Ao40 t2.length co40] 27 (0,0))):=⟨by (with_reducible repeat refine bu ?_);refine blk_put (cs:=#[.slice none 0 0]) ?_ 0 _ rfl;(with_reducible repeat refine bu ?_);exact BK12.out⟩;have n6_ : Aside0 (Below w.heap.size w (w39.setCell ⟨gb12,0,none⟩ (.slice Ao40 t2.length co40))):=⟨m4_⟩;(try clear HO0_0);(try clear HO11);(try clear BK7);(try clear BK8);(try clear BK9);(try clear BK12);(try clear HB);generalize (w39.setCell ⟨gb12,0,none⟩ (.slice Ao40 t2.length co40)) = w45 at n0_ n1_ n2_ n3_ n4_ n5_ n6_ ⊢;have HO0_0:=n0_;have HO11:=n1_;have BK7:=n2_;have BK8:=n3_;have BK9:=n4_;have BK12:=n5_;have HB:=n6_;clear n0_ n1_ n2_ n3_ n4_ n5_ n6_;replace HO0_0:=am (Kd.V_drew HO0_0.out);replace HO11:=am (Kd.V_drew HO11.out);replace BK7:=am (blk_drew BK7.out);replace BK8:=am (blk_drew BK8.out);replace BK9:=am (blk_drew BK9.out);replace BK12:=am (blk_drew BK12.out);replace HB:=am (below_drew1 HB.out);refine start_ (n:=6) (S:=fun w'=>w'.cell? ⟨gb12,0,none⟩ = some (.slice Ao40 t2.length co40)) (ds:=[]) #[false,false,false,false,false,false] (by kernel_rfl) rfl rfl (bcell BK12 0) (fun hHeld=>?_);generalize w45.drew = w46 at HO0_0 HO11 BK7 BK8 BK9 BK12 HB hHeld ⊢;refine pu_ 1 (some 29) (bm 6 2) ?_;refine pu_ 2 (some 30) (bm 6 6) ?_;refine take_ (i:=0) (N:=some 28) (v:=?_) (a':=?_) #[true,true,true,false,false,false] rfl rfl (by kernel_rfl) (fun _ _ _ h=>h) (Or.inl ⟨by rfl,?_⟩) hHeld ?_ ?_
   rotate_left
   ·intro w' s0
    go_simp
    with_reducible rfl
   rotate_left
   ·simp only [Act.put,List.setIfInBounds_toArray,List.set_cons_zero,List.set_cons_succ,i64_w,i32_w]
    rfl
   refine one_ (i:=3) (N:=some 31) #[true,true,true,true,false,false] rfl rfl (by kernel_rfl) (by decide) (fun K hK=>?_);refine gR Tryz.func181 #[.agg #[.int .i64 50,.int .i64 t6]] ?_
   with_reducible refine (spec_LinPort.calls k 50 t6 t3 _ A26.out).mono ?_
   rintro e w47 ⟨rfl,hb⟩;refine ⟨_,rfl,?_⟩;replace HO0_0:=am (Kd.V_below (by (with_reducible repeat (first | apply Kd.V_alloc | apply Kd.V_drewN | apply Kd.V_drew));exact HO0_0.out) hb);replace HO11:=am (Kd.V_below (by (with_reducible repeat (first | apply Kd.V_alloc | apply Kd.V_drewN | apply Kd.V_drew));exact HO11.out) hb);replace BK7:=bkB BK7 hb;replace BK8:=bkB BK8 hb;replace BK9:=bkB BK9 hb;replace BK12:=bkB BK12 hb;replace HB:=hbS HB hb;(try clear hb);(try clear hb2);(try clear hk);(try clear hi);refine hK.out _ _ (bcell BK12 0) (fun hHeld=>?_);clear hK K;refine nm_ ?_;refine one_ (i:=4) (N:=none) #[true,true,true,true,true,false] rfl rfl (by kernel_rfl) (by decide) (fun K hK=>?_);have : w47.cell? ⟨gb8,0,none⟩ = some (.slice none 0 0):=bcell BK8 0;have:=bfz BK8 0;have:=NB7_8.out;have:=NB9_8.out;have:=NB12_8.out;have:=NB8_7.out;have:=NB8_9.out;have:=NB8_12.out;refine skip_ (w1:=?_) (by rfl) rfl ?_ ?_
   rotate_left
   ·go_simp
    rfl
   refine hK.out _ _ (((cell_far (p:=⟨gb8,_,none⟩) NB12_8.out _).trans (hHeld))) (fun hHeld=>?_);clear hK K;refine pu_ 5 (some 5) (bm 6 63) ?_;refine done_ (by kernel_rfl) ?_
   try go_wp2
   refine bodyPost_ret (results_ct rfl _ _ gb8 27 #[.slice Ao40 t2.length co40] (0,0) _ rfl (by (with_reducible repeat refine bu ?_);refine blk_put (cs:=#[.slice none 0 0]) ?_ 0 _ rfl;(with_reducible repeat refine bu ?_);exact BK8.out) Tryz.underlying27 rfl (by kernel_rfl)) rfl ?_;exact ⟨_,fi_,by (with_reducible repeat (first | apply Kd.V_alloc | apply Kd.V_drewN | apply Kd.V_drew));exact Kd.V_mono (Kd.V_far (p:=⟨gb8,0,none⟩) (Kd.V_mono HO11.out (fun k_ hk=>(⟨hk,hk.2.2.1⟩ : _ ∧ k_ ≠ gb8))) (fun _ hk=>hk.2) (.slice Ao40 t2.length co40)) (fun _ hk=>hk.1.1),m4_⟩
 ·replace c4:=Bool.eq_false_iff.mpr c4;subst c4;rw [if_neg nft_] at H;simp only [Option.some.injEq,Prod.mk.injEq] at H;obtain ⟨rfl,rfl⟩:=H
  go_enter Tryz.func161,Tryz.ntmps161
  go_wp2_with (first | ((with_reducible refine gD 2 rfl ?_);refine box_event rfl (N:=2) rfl (cs:=#[.slice A0_0 l0_0.length c0_0]) (t:=27) hr_ ?_;intro gb7 hg w49 hbox hb;replace HO0_0:=am (Kd.V_below (Kd.V_elderB (by (with_reducible repeat (first | apply Kd.V_alloc | apply Kd.V_drewN | apply Kd.V_drew));exact HO0_0.out) gb7 (Nat.le_of_eq hg.symm)) hb);have BK7:=am hbox;have GW7:=gwE HB hg;have GE7:=gwE HB hg;replace HB:=hbS HB hb;clear hb hbox hg) | ((with_reducible refine gD 4 rfl ?_);refine box_event rfl (N:=4) rfl (cs:=#[.slice none 0 0]) (t:=27) hr_ ?_;intro gb8 hg w50 hbox hb;replace HO0_0:=am (Kd.V_below (Kd.V_elderB (by (with_reducible repeat (first | apply Kd.V_alloc | apply Kd.V_drewN | apply Kd.V_drew));exact HO0_0.out) gb8 (Nat.le_of_eq hg.symm)) hb);have BK8:=am hbox;have GW8:=gwE HB hg;have GE8:=gwE HB hg;replace HB:=hbS HB hb;have NB7_8:=neL BK7 hg;have NB8_7:=neG BK7 hg;replace BK7:=bkB BK7 hb;clear hb hbox hg) | ((with_reducible refine gC 182 rfl ?_);refine gL (some 12) Tryz.func182 #[.string a1] ?_;(with_reducible refine (spec_LinSays.calls k a1 t1 t4 false _ A3.out).mono ?_);rintro e w51 ⟨rfl,hb⟩;refine ⟨_,rfl,?_⟩;replace HO0_0:=am (Kd.V_below (by (with_reducible repeat (first | apply Kd.V_alloc | apply Kd.V_drewN | apply Kd.V_drew));exact HO0_0.out) hb);replace BK7:=bkB BK7 hb;replace BK8:=bkB BK8 hb;replace HB:=hbS HB hb;(try clear hb)) | ((with_reducible refine gD 6 rfl ?_);refine box_event rfl (N:=6) rfl (cs:=#[.int .i64 0,.int .i64 0]) (t:=54) hr_ ?_;intro gb9 hg w52 hbox hb;replace HO0_0:=am (Kd.V_below (Kd.V_elderB (by (with_reducible repeat (first | apply Kd.V_alloc | apply Kd.V_drewN | apply Kd.V_drew));exact HO0_0.out) gb9 (Nat.le_of_eq hg.symm)) hb);have BK9:=am hbox;have GW9:=gwE HB hg;have GE9:=gwE HB hg;replace HB:=hbS HB hb;have NB7_9:=neL BK7 hg;have NB9_7:=neG BK7 hg;replace BK7:=bkB BK7 hb;have NB8_9:=neL BK8 hg;have NB9_8:=neG BK8 hg;replace BK8:=bkB BK8 hb;clear hb hbox hg;have:=NB9_7.out;have:=NB7_9.out;have:=NB9_8.out;have:=NB8_9.out;have ⟨_,_,_,_⟩:=cf2 BK9;have:=NB7_8.out;have:=NB8_7.out;have ⟨_,_⟩:=cf1 BK7;have ⟨_,_⟩:=cf1 BK8))
  refine bodyPost_ret (results_ct rfl _ _ gb8 27 #[.slice A0_0 l0_0.length c0_0] (0,0) _ rfl (by (with_reducible repeat refine bu ?_);refine blk_put (cs:=#[.slice none 0 0]) ?_ 0 _ rfl;(repeat (first | (with_reducible refine bu ?_) | refine blk_far ?_ NB8_9.out _));exact BK8.out) Tryz.underlying27 rfl (by kernel_rfl)) rfl ?_;exact ⟨_,fi_,by (with_reducible repeat (first | apply Kd.V_alloc | apply Kd.V_drewN | apply Kd.V_drew));exact Kd.V_mono (Kd.V_far (p:=⟨gb8,0,none⟩) (Kd.V_far (p:=⟨gb9,1,none⟩) (Kd.V_far (p:=⟨gb9,0,none⟩) (Kd.V_mono (Kd.V_mono HO0_0.out (fun k_ hk=>(⟨hk,hk.2⟩ : _ ∧ k_ ≠ gb9))) (fun k_ hk=>(⟨hk,hk.1.1.2⟩ : _ ∧ k_ ≠ gb8))) (fun _ hk=>hk.1.2) (.int .i64 t1)) (fun _ hk=>hk.1.2) (.int .i64 t4)) (fun _ hk=>hk.2) (.slice A0_0 l0_0.length c0_0)) (fun _ hk=>hk.1.1.1.1.1),m4_⟩
end
end Go.Proofs.YtgpolhlmedmloaaGreatDoor.P
