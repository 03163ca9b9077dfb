import Derived.Test.YtakfmcpjnkagmaaGreatDoorGPosAllx6
namespace Go.Proofs.YtakfmcpjnkagmaaGreatDoor.P
open Go.Proofs.YtakfmcpjnkagmaaGreatDoorUPosAll.PrintLast Go.Proofs.YtakfmcpjnkagmaaGreatDoorUPosAll.PrintMore Go.Proofs.YtakfmcpjnkagmaaGreatDoorUPosAll.PrintWords Go.RowKit
set_option linter.unusedVariables false
set_option linter.unusedSimpArgs false
section
attribute [local go_sem] max2_int min2_int max_two min_two max_three min_three max_four min_four
def impl_PosSpans.f (k : Nat) (l0_0 : List (S55)) (a1 : ByteArray) : Option ((List (S50))):=(impl_ofStream.f k l0_0 a1).bind fun t494=>(some t494)
theorem impl_PosSpans.mono : ∀ a0 a1 k,LeO (impl_PosSpans.f k a0 a1) (impl_PosSpans.f (k + 1) a0 a1):=by
 intro a0 a1 k
 unfold impl_PosSpans.f
 repeat' first | (with_reducible first | exact impl_ofStream.mono _ _ _ | exact LeO.refl _ | exact LeO.none _ | refine LeO.ite ?_ ?_ | refine LeO.bind ?_ (fun _=>?_)) | exact impl_ofStream.mono _ _ _ | exact LeO.none _ | refine LeO.ite ?_ ?_ | refine LeO.bind ?_ (fun _=>?_)
set_option maxHeartbeats 8000000 in
set_option maxRecDepth 100000 in
theorem impl_PosSpans.calls (k : Nat) (A0_0 : Option Addr) (c0_0 : Nat) (l0_0 : List (S55)) (a1 : ByteArray) (r : List (S50)) (w : World) (hr0_0 : Kd.C k55 w A0_0 l0_0.length l0_0) (hc0_0 : l0_0.length ≤ c0_0) (h : impl_PosSpans.f k l0_0 a1 = some r) (hE : EnvE w) :
  Calls Tryz.prog 19 #[.agg #[.slice A0_0 l0_0.length c0_0],.string a1] w fun e w'=>∃ v0_ : Value,e = .returned (v0_) ∧ Kd.R k50 50 w' w.heap.size (fun _=>True) v0_ r ∧ Below w.heap.size w w':=by
 have hu29:=Tryz.underlying29
 have HR0_0:=am hr0_0
 have HC0_0:=am hc0_0
 clear hr0_0 hc0_0
 have HB:=am (Below.refl w.heap.size w)
 have H : ((impl_ofStream.f k l0_0 a1).bind fun t494=>(some t494)) = some r:=h
 clear h
 obtain ⟨t494,A3,H⟩:=bse H
 try dsimp only at H
 obtain rfl:=Option.some.inj H
 go_enter Tryz.func19,Tryz.ntmps19
 go_wp2_with (first | ((with_reducible refine gD 2 rfl ?_);refine box_event rfl (N:=2) rfl (cs:=#[.slice A0_0 l0_0.length c0_0]) (t:=29) hr_ ?_;intro gb493 hg w4 hbox hb;have BK493:=am hbox;have GW493:=gwE HB hg;have GE493:=gwE HB hg;replace HB:=hbS HB hb;clear hb hbox hg;have:=bcell BK493 0;have:=bfz BK493 0) | ((with_reducible refine gC 37 rfl ?_);refine gL (some 7) Tryz.func37 #[.agg #[.slice A0_0 l0_0.length c0_0],.string a1] ?_;(with_reducible refine (impl_ofStream.calls k _ _ l0_0 a1 t494 _ ?side1 ?side2 A3.out (EnvE.below hE (bl HB))).mono ?_);(case side1=>exact m3_);(case side2=>exact HC0_0.out);rintro e w6 ⟨v495,rfl,ho0,hb⟩;refine ⟨_,rfl,?_⟩;have HO496:=am (Kd.R_lower ho0 (below_size (bl HB)));replace BK493:=bkB BK493 hb;replace HB:=hbS HB hb;(try clear hb);(try clear ho0)))
 go_ret
 exact ⟨_,fi_,by (with_reducible repeat apply ru);exact HO496.out,m2_⟩
end
section
attribute [local go_sem] max2_int min2_int max_two min_two max_three min_three max_four min_four
attribute [local go_sem high] eqA50
def laws_haSpans.l0 : Nat → List (S50) → List (S50) → Int → Option (Bool)
 | 0,_,_,_=>none
 | k + 1,x0,x1,x5=>if x5 < (x0.length : Int) then (if 0 ≤ x5 then (if x5 < (x1.length : Int) then (if (!(((rd_T50 x0 x5).f0) == ((rd_T50 x1 x5).f0)) || (!(((rd_T50 x0 x5).f1) == ((rd_T50 x1 x5).f1)) || (!(((rd_T50 x0 x5).f2) == ((rd_T50 x1 x5).f2)) || (!(((rd_T50 x0 x5).f3) == ((rd_T50 x1 x5).f3)) || (!(((rd_T50 x0 x5).f4) == ((rd_T50 x1 x5).f4))))))) = true then (some false) else (laws_haSpans.l0 k x0 x1 (wrap64 (x5 + 1)))) else (none)) else (none)) else (some true)
def laws_haSpans.f (k : Nat) (l0 : List (S50)) (l1 : List (S50)) : Option (Bool):=if (l0.length : Int) = (l1.length : Int) then (laws_haSpans.l0 k l0 l1 0) else (some false)
set_option maxHeartbeats 8000000 in
set_option maxRecDepth 100000 in
theorem laws_haSpans.calls (k : Nat) (A0 : Option Addr) (c0 : Nat) (l0 : List (S50)) (A1 : Option Addr) (c1 : Nat) (l1 : List (S50)) (r : Bool) (w : World) (hr0 : Kd.C k50 w A0 l0.length l0) (hc0 : l0.length ≤ c0) (hr1 : Kd.C k50 w A1 l1.length l1) (hc1 : l1.length ≤ c1) (h : laws_haSpans.f k l0 l1 = some r) :
  Calls Tryz.prog 25 #[.slice A0 l0.length c0,.slice A1 l1.length c1] w fun e w'=>e = .returned (.bool r) ∧ Drawn0 w w':=by
 have hu50:=Tryz.underlying50
 have HR0:=am hr0
 have HC0:=am hc0
 clear hr0 hc0
 have HR1:=am hr1
 have HC1:=am hc1
 clear hr1 hc1
 have H : (if (l0.length : Int) = (l1.length : Int) then (laws_haSpans.l0 k l0 l1 0) else (some false)) = some r:=h
 clear h
 by_cases c3 : (l0.length : Int) = (l1.length : Int)
 ·rw [if_pos c3] at H
  have c3b0 : ((l0.length : Int) == (l1.length : Int)) = true:=beq_iff_eq.mpr c3
  have c3b1 : ((l0.length : Int) != (l1.length : Int)) = false:=bne_eq_false_iff_eq.mpr c3
  have c3b2 : (l0.length == l1.length) = true:=by first | simpa using c3 | (simp at c3 ⊢;omega)
  clear c3
  have H':=am H
  clear H
  go_enter Tryz.func25,Tryz.ntmps25
  go_wp2
  repeat (go_quiet (fail);try go_wp2)
  go_loopg [5] k (fun kq v5 w'=>∃ (x5_1 : Int),v5 = .int .i64 x5_1 ∧ Aside0 (laws_haSpans.l0 kq l0 l1 x5_1 = some r) ∧ Aside0 (kq ≤ k) ∧ Drawn0 w w')
  case atStart=>exact ⟨(0),rs_,H',⟨Nat.le_refl _⟩,by repeat (first | exact Drawn0.refl _ | apply Drawn0.step)⟩
  case round=>
   clear H'
   try clear c1
   try clear c2
   try clear p2
   try clear c3
   try clear c3b0
   try clear c3b1
   try clear c3b2
   obtain ⟨x5_1,rfl,HA,HK1,⟨m1,rfl⟩⟩:=hrel
   cases gk with
   | zero=>exact absurd HA.out (by simp [laws_haSpans.l0])
   | succ k1=>
    have H:=HA.out
    clear HA
    simp only [laws_haSpans.l0] at H
    by_cases c4 : x5_1 < (l0.length : Int)
    ·rw [if_pos c4] at H
     have c4b0 : decide (x5_1 < (l0.length : Int)) = true:=decide_eq_true c4
     clear c4
     by_cases c5 : 0 ≤ x5_1
     ·rw [if_pos c5] at H
      have c5b0 : decide (0 ≤ x5_1) = true:=decide_eq_true c5
      clear c5
      by_cases c6 : x5_1 < (l1.length : Int)
      ·rw [if_pos c6] at H
       have c6b0 : decide (x5_1 < (l1.length : Int)) = true:=decide_eq_true c6
       clear c6
       by_cases c7 : (!(((rd_T50 l0 x5_1).f0) == ((rd_T50 l1 x5_1).f0)) || (!(((rd_T50 l0 x5_1).f1) == ((rd_T50 l1 x5_1).f1)) || (!(((rd_T50 l0 x5_1).f2) == ((rd_T50 l1 x5_1).f2)) || (!(((rd_T50 l0 x5_1).f3) == ((rd_T50 l1 x5_1).f3)) || (!(((rd_T50 l0 x5_1).f4) == ((rd_T50 l1 x5_1).f4))))))) = true
       ·rw [if_pos c7] at H
        have c7b0 : (!(((rd_T50 l0 x5_1).f0) == ((rd_T50 l1 x5_1).f0)) || (!(((rd_T50 l0 x5_1).f1) == ((rd_T50 l1 x5_1).f1)) || (!(((rd_T50 l0 x5_1).f2) == ((rd_T50 l1 x5_1).f2)) || (!(((rd_T50 l0 x5_1).f3) == ((rd_T50 l1 x5_1).f3)) || (!(((rd_T50 l0 x5_1).f4) == ((rd_T50 l1 x5_1).f4))))))) = true:=c7
        clear c7
        obtain rfl:=Option.some.inj H
        have p694 : 0 ≤ (x5_1 : Int):=of_decide_eq_true da_
        have q694 : x5_1 < (l0.length : Int):=of_decide_eq_true da_
        obtain ⟨ad694,e694,hx694_0,hx694_1,hx694_2,hx694_3,hx694_4⟩:=at_T50 HR0.out x5_1 p694 q694
        cases e694
        replace p694:=eq_true p694
        replace q694:=eq_true q694
        have p695 : 0 ≤ (x5_1 : Int):=of_decide_eq_true da_
        have q695 : x5_1 < (l1.length : Int):=of_decide_eq_true da_
        obtain ⟨ad695,e695,hx695_0,hx695_1,hx695_2,hx695_3,hx695_4⟩:=at_T50 HR1.out x5_1 p695 q695
        cases e695
        replace p695:=eq_true p695
        replace q695:=eq_true q695
        go_wp2
        repeat (go_quiet (fail);try go_wp2)
        go_ret
        exact ⟨fr_,dn_⟩
       ·rw [if_neg c7] at H
        have c7b0 : (!(((rd_T50 l0 x5_1).f0) == ((rd_T50 l1 x5_1).f0)) || (!(((rd_T50 l0 x5_1).f1) == ((rd_T50 l1 x5_1).f1)) || (!(((rd_T50 l0 x5_1).f2) == ((rd_T50 l1 x5_1).f2)) || (!(((rd_T50 l0 x5_1).f3) == ((rd_T50 l1 x5_1).f3)) || (!(((rd_T50 l0 x5_1).f4) == ((rd_T50 l1 x5_1).f4))))))) = false:=by simpa using c7
        clear c7
        have H':=am H
        clear H
        have p694 : 0 ≤ (x5_1 : Int):=of_decide_eq_true da_
        have q694 : x5_1 < (l0.length : Int):=of_decide_eq_true da_
        obtain ⟨ad694,e694,hx694_0,hx694_1,hx694_2,hx694_3,hx694_4⟩:=at_T50 HR0.out x5_1 p694 q694
        cases e694
        replace p694:=eq_true p694
        replace q694:=eq_true q694
        have p695 : 0 ≤ (x5_1 : Int):=of_decide_eq_true da_
        have q695 : x5_1 < (l1.length : Int):=of_decide_eq_true da_
        obtain ⟨ad695,e695,hx695_0,hx695_1,hx695_2,hx695_3,hx695_4⟩:=at_T50 HR1.out x5_1 p695 q695
        cases e695
        replace p695:=eq_true p695
        replace q695:=eq_true q695
        go_wp2
        repeat (go_quiet (fail);try go_wp2)
        go_roundg k1
        case measure=>have:=HK1.out;omega
        case rel=>exact ⟨(wrap64 (x5_1 + 1)),rs_,H',⟨by have:=HK1.out;omega⟩,by repeat (first | exact Drawn0.refl _ | apply Drawn0.step)⟩
      ·rw [if_neg c6] at H
       exact absurd H (by simp)
     ·rw [if_neg c5] at H
      exact absurd H (by simp)
    ·rw [if_neg c4] at H
     have c4b0 : decide (x5_1 < (l0.length : Int)) = false:=decide_eq_false c4
     clear c4
     obtain rfl:=Option.some.inj H
     go_wp2
     repeat (go_quiet (fail);try go_wp2)
     go_ret
     exact ⟨fr_,dn_⟩
 ·rw [if_neg c3] at H
  have c3b0 : ((l0.length : Int) == (l1.length : Int)) = false:=beq_eq_false_iff_ne.mpr c3
  have c3b1 : ((l0.length : Int) != (l1.length : Int)) = true:=bne_iff_ne.mpr c3
  have c3b2 : (l0.length == l1.length) = false:=by first | simpa using c3 | (simp at c3 ⊢;omega)
  obtain rfl:=Option.some.inj H
  go_enter Tryz.func25,Tryz.ntmps25
  go_wp2
  repeat (go_quiet (fail);try go_wp2)
  go_ret
  exact ⟨fr_,dn_⟩
end
section
attribute [local go_sem] max2_int min2_int max_two min_two max_three min_three max_four min_four
def laws_FnPosLine.l0 : Nat → ByteArray → List (S50) → Int → List (S55) → Option (Bool)
 | 0,_,_,_,_=>none
 | k + 1,x4,x5,x6,x780000=>if x6 < (x5.length : Int) then (if 0 ≤ x6 then ((impl_PosOut.f k x780000 x4 ((rd_T50 x5 x6).f0)).bind fun t790=>(if t790 = ((rd_T50 x5 x6).f2) then ((impl_PosBack.f k x780000 x4 ((rd_T50 x5 x6).f3)).bind fun t791=>(if t791 = ((rd_T50 x5 x6).f1) then ((impl_PosBack.f k x780000 x4 ((rd_T50 x5 x6).f2)).bind fun t792=>(if t792 = ((rd_T50 x5 x6).f0) then ((impl_PosOut.f k x780000 x4 (wrap64 (((rd_T50 x5 x6).f1) - 1))).bind fun t793=>(if t793 = ((rd_T50 x5 x6).f2) then (laws_FnPosLine.l0 k x4 x5 (wrap64 (x6 + 1)) x780000) else (some false))) else (some false))) else (some false))) else (some false))) else (none)) else ((laws_haOk.f).bind fun t787=>(some t787))
def laws_FnPosLine.f (k : Nat) (l0 : List Int) : Option (Bool):=if (l0.length : Int) > 1048576 then (some true) else ((spec_DrawPosSpans.f k l0).bind fun bt775=>((impl_PosSpans.f k bt775.1 bt775.2).bind fun t780=>((spec_PosSpans.f k bt775.1 bt775.2).bind fun t783=>((laws_haSpans.f k t780 t783).bind fun t786=>(if t786 = true then (laws_FnPosLine.l0 k bt775.2 t780 0 bt775.1) else (some false))))))
def laws_FnPosLine.T11 : Bool × List (List Nat × List Nat):=(true,[([],[]),([],[]),([],[]),([2],[2]),([0,1,3],[0,1,3]),([],[]),([5],[5]),([4,6],[4,6]),([7,4],[7]),([8],[8]),([8],[8]),([8],[8]),([11,8],[8,11]),([9,10,12,8,8],[8,9,10,12]),([8],[8]),([14,8],[8,14]),([13,15,8],[8,13,15]),([8,16],[8,16]),([17,13],[17]),([18],[18]),([18],[18]),([18],[18]),([21,18],[18,21]),([19,20,22,18,18],[18,19,20,22]),([18],[18]),([24,18],[18,24]),([23,25,18],[18,23,25]),([18,26],[18,26]),([27,23],[27]),([28],[28]),([28],[28]),([28],[28]),([31,28],[28,31]),([32,28],[28,32]),([29,30,33,28,28],[28,29,30,33]),([28],[28]),([35,28],[28,35]),([34,36,28],[28,34,36]),([28,37],[28,37])])
def laws_FnPosLine.B11 : List Nat:=[0,0,0,4,15,0,32,127,255,511,511,511,2559,8191,511,16895,65535,131071,262143,524287,524287,524287,2621439,8388607,524287,17301503,67108863,134217727,268435455,536870911,536870911,536870911,2684354559,6979321855,17179869183,536870911,34896609279,137438953471,274877906943]
theorem laws_FnPosLine.tab11 : rtab .any (opsOf Tryz.f8 11) = laws_FnPosLine.T11:=by kernel_rfl
theorem laws_FnPosLine.bits11 : waitsOk laws_FnPosLine.T11.2 laws_FnPosLine.B11 = true:=by kernel_rfl
set_option maxHeartbeats 8000000 in
set_option maxRecDepth 100000 in
theorem laws_FnPosLine.calls (k : Nat) (A0 : Option Addr) (c0 : Nat) (l0 : List Int) (r : Bool) (w : World) (hr0 : Kd.C (Kd.int .u8) w A0 l0.length l0) (hc0 : l0.length ≤ c0) (h : laws_FnPosLine.f k l0 = some r) (hrt : Aside0 (r = true)) (hE : EnvE w) :
  Calls Tryz.prog 8 #[.slice A0 l0.length c0] w fun e w'=>e = .returned (.bool r) ∧ Below w.heap.size w w':=by
 have hu29:=Tryz.underlying29
 have hu50:=Tryz.underlying50
 have HR0:=am hr0
 have HC0:=am hc0
 clear hr0 hc0
 have HB:=am (Below.refl w.heap.size w)
 have H : (if (l0.length : Int) > 1048576 then (some true) else ((spec_DrawPosSpans.f k l0).bind fun bt775=>((impl_PosSpans.f k bt775.1 bt775.2).bind fun t780=>((spec_PosSpans.f k bt775.1 bt775.2).bind fun t783=>((laws_haSpans.f k t780 t783).bind fun t786=>(if t786 = true then (laws_FnPosLine.l0 k bt775.2 t780 0 bt775.1) else (some false))))))) = some r:=h
 clear h
 by_cases c2 : (l0.length : Int) > 1048576
 ·rw [if_pos c2] at H
  have c2b0 : decide (1048576 < (l0.length : Int)) = true:=decide_eq_true c2
  have c2b1 : decide (1048576 < l0.length) = true:=decide_eq_true (by omega)
  clear c2
  obtain rfl:=Option.some.inj H
  go_enter Tryz.func8,Tryz.ntmps8
  go_wp2
  go_ret
  exact ⟨fi_,m0_⟩
 ·rw [if_neg c2] at H
  have c2b0 : decide (1048576 < (l0.length : Int)) = false:=decide_eq_false c2
  have c2b1 : decide (1048576 < l0.length) = false:=decide_eq_false (by omega)
  clear c2
  obtain ⟨⟨t775,t778⟩,A3,H⟩:=bse H
  try dsimp only at H
  obtain ⟨t780,A4,H⟩:=bse H
  try dsimp only at H
  obtain ⟨t783,A5,H⟩:=bse H
  try dsimp only at H
  obtain ⟨t786,A6,H⟩:=bse H
  try dsimp only at H
  by_cases c7 : t786 = true
  ·subst c7
   have H1 : (laws_FnPosLine.l0 k t778 t780 0 t775) = some r:=by rw [if_pos rfl] at H;exact H
   clear H
   have H:=H1
   clear H1
   have H':=am H
   clear H
   go_enter Tryz.func8,Tryz.ntmps8
   go_wp2_with (first | ((with_reducible refine gC 24 rfl ?_);refine gL (some 13) Tryz.func24 #[.slice A0 l0.length c0] ?_;(with_reducible refine (spec_DrawPosSpans.calls k _ _ l0 t775 t778 _ ?side1 ?side2 A3.out).mono ?_);(case side1=>exact m1_);(case side2=>exact HC0.out);rintro e w8 ⟨v776,rfl,ho0,hb⟩;refine ⟨_,rfl,?_⟩;have HO777:=am (Kd.R_lower ho0 (below_size (bl HB)));replace HB:=hbS HB hb;(try clear hb);(try clear ho0)) | ((with_reducible refine gD 3 rfl ?_);refine box_event rfl (N:=3) rfl (cs:=#[.slice none 0 0]) (t:=29) hr_ ?_;intro gb779 hg w9 hbox hb;replace HO777:=am (Kd.R_below (rs HO777) hb);have BK779:=am hbox;have GW779:=gwE HB hg;have GE779:=gwE HB hg;replace HB:=hbS HB hb;clear hb hbox hg;obtain ⟨Ao10,co10,eo10⟩:=Kd.R_slice HO777.out;subst eo10;have hcz11_0:=bcell BK779 0;have hfz11_0:=blk_frozen BK779.out 0) | ((with_reducible refine gC 19 rfl ?_);refine gL (some 18) Tryz.func19 #[.agg #[.slice Ao10 t775.length co10],.string t778] ?_;(with_reducible refine (impl_PosSpans.calls k _ _ t775 t778 t780 _ ?side1 ?side2 A4.out (EnvE.below hE (bl HB))).mono ?_);(case side1=>refine (Kd.R_reads' (e:=55) (base:=w.heap.size) (ok:=fun k_=>True) (n:=t775.length) (c:=co10) ?_).2.2;exact (by (with_reducible repeat apply ru);exact (Kd.R_mono (Kd.R_far (p:=⟨gb779,0,none⟩) (Kd.R_types HO777.out BK779.out (by decide)) (fun _ hk=>hk.2) (.slice Ao10 t775.length co10)) (fun _ h_=>h_.1))));(case side2=>exact (Kd.R_reads' HO777.out).2.1);rintro e w12 ⟨v781,rfl,ho0,hb⟩;refine ⟨_,rfl,?_⟩;replace HO777:=am (Kd.R_below (by (with_reducible repeat apply ru);exact (Kd.R_mono (Kd.R_far (p:=⟨gb779,0,none⟩) (Kd.R_types HO777.out BK779.out (by decide)) (fun _ hk=>hk.2) (.slice Ao10 t775.length co10)) (fun _ h_=>h_.1))) hb);have HO782:=am (Kd.R_lower ho0 (below_size (bl HB)));replace BK779:=am (blk_below (g:=gb779) (o:=.cells #[.slice Ao10 t775.length co10] 29 (0,0)) (by (with_reducible repeat refine bu ?_);refine blk_put (cs:=#[.slice none 0 0]) ?_ 0 _ rfl;(with_reducible repeat refine bu ?_);exact BK779.out) hb);replace HB:=hbS HB hb;(try clear hb);(try clear hk);(try clear ho0);have hcz13_0:=bcell BK779 0;have hfz13_0:=blk_frozen BK779.out 0) | ((with_reducible refine gC 18 rfl ?_);refine gL (some 22) Tryz.func18 #[.agg #[.slice Ao10 t775.length co10],.string t778] ?_;(with_reducible refine (spec_PosSpans.calls k _ _ t775 t778 t783 _ ?side1 ?side2 A5.out).mono ?_);(case side1=>exact rcx HO777);(case side2=>exact (Kd.R_reads' HO777.out).2.1);rintro e w14 ⟨v784,rfl,ho0,hb⟩;refine ⟨_,rfl,?_⟩;replace HO777:=am (Kd.R_below (rs HO777) hb);have HO785:=am (Kd.R_lower (Kd.R_new' ho0 (Kd.R_lt (rs HO782))) (below_size (bl HB)));replace HO782:=am (Kd.R_elder' (rs HO782) (Kd.R_base ho0) hb);replace BK779:=bkB BK779 hb;replace HB:=hbS HB hb;(try clear hb);(try clear ho0);obtain ⟨Ao15,co15,eo15⟩:=Kd.R_slice HO782.out;subst eo15;obtain ⟨Ao16,co16,eo16⟩:=Kd.R_slice HO785.out;subst eo16) | ((with_reducible refine gC 25 rfl ?_);refine gL (some 23) Tryz.func25 #[.slice Ao15 t780.length co15,.slice Ao16 t783.length co16] ?_;(with_reducible refine (laws_haSpans.calls k _ _ t780 _ _ t783 true _ ?side1 ?side2 ?side3 ?side4 A6.out).mono ?_);(case side1=>exact rcx HO782);(case side2=>exact (Kd.R_reads' HO782.out).2.1);(case side3=>exact rcx HO785);(case side4=>exact (Kd.R_reads' HO785.out).2.1);rintro e w' ⟨rfl,⟨nd,rfl⟩⟩;refine ⟨_,rfl,?_⟩))
   go_loopg [6] k (fun kq v6 w'=>∃ (x6_1 : Int),v6 = .int .i64 x6_1 ∧ Aside0 (laws_FnPosLine.l0 kq t778 t780 x6_1 t775 = some r) ∧ Aside0 (kq ≤ k) ∧ Aside0 (Kd.R k50 50 w' w.heap.size (fun _=>True) (.slice Ao15 t780.length co15) t780) ∧ Aside0 (Kd.R k55 55 w' w.heap.size (fun _=>True) (.slice Ao10 t775.length co10) t775) ∧ Aside0 (w'.heap[gb779]? = some (.cells #[(.slice Ao10 t775.length co10)] 29 (0,0))) ∧ Aside0 (Below w.heap.size w w'))
   case atStart=>exact ⟨(0),rs_,H',⟨Nat.le_refl _⟩,⟨by (with_reducible repeat apply ru);exact Kd.R_mono HO782.out (fun _ hk=>trivial)⟩,⟨by (with_reducible repeat apply ru);exact HO777.out⟩,⟨bk BK779⟩,⟨m2_⟩⟩
   case round=>
    clear H'
    try clear c1
    try clear c2
    try clear c2b0
    try clear c2b1
    try clear p2
    try clear c7
    try clear c8
    try clear hcz11_0
    try clear hcz13_0
    try clear hfz11_0
    try clear hfz13_0
    obtain ⟨x6_1,rfl,HA,HK1,HO_5,HO_780000,BK779,HB⟩:=hrel
    cases gk with
    | zero=>exact absurd HA.out (by simp [laws_FnPosLine.l0])
    | succ k1=>
     have H:=HA.out
     clear HA
     simp only [laws_FnPosLine.l0] at H
     by_cases c17 : x6_1 < (t780.length : Int)
     ·rw [if_pos c17] at H
      have c17b0 : decide (x6_1 < (t780.length : Int)) = true:=decide_eq_true c17
      clear c17
      by_cases c18 : 0 ≤ x6_1
      ·rw [if_pos c18] at H
       have c18b0 : decide (0 ≤ x6_1) = true:=decide_eq_true c18
       clear c18
       obtain ⟨t790,A19,H⟩:=bse H
       try dsimp only at H
       by_cases c20 : t790 = ((rd_T50 t780 x6_1).f2)
       ·rw [if_pos c20] at H
        have c20b0 : (t790 == ((rd_T50 t780 x6_1).f2)) = true:=beq_iff_eq.mpr c20
        have c20b1 : (t790 != ((rd_T50 t780 x6_1).f2)) = false:=bne_eq_false_iff_eq.mpr c20
        clear c20
        obtain ⟨t791,A21,H⟩:=bse H
        try dsimp only at H
        by_cases c22 : t791 = ((rd_T50 t780 x6_1).f1)
        ·rw [if_pos c22] at H
         have c22b0 : (t791 == ((rd_T50 t780 x6_1).f1)) = true:=beq_iff_eq.mpr c22
         have c22b1 : (t791 != ((rd_T50 t780 x6_1).f1)) = false:=bne_eq_false_iff_eq.mpr c22
         clear c22
         obtain ⟨t792,A23,H⟩:=bse H
         try dsimp only at H
         by_cases c24 : t792 = ((rd_T50 t780 x6_1).f0)
         ·rw [if_pos c24] at H
          have c24b0 : (t792 == ((rd_T50 t780 x6_1).f0)) = true:=beq_iff_eq.mpr c24
          have c24b1 : (t792 != ((rd_T50 t780 x6_1).f0)) = false:=bne_eq_false_iff_eq.mpr c24
          clear c24
          obtain ⟨t793,A25,H⟩:=bse H
          try dsimp only at H
          by_cases c26 : t793 = ((rd_T50 t780 x6_1).f2)
          ·rw [if_pos c26] at H
           have c26b0 : (t793 == ((rd_T50 t780 x6_1).f2)) = true:=beq_iff_eq.mpr c26
           have c26b1 : (t793 != ((rd_T50 t780 x6_1).f2)) = false:=bne_eq_false_iff_eq.mpr c26
           clear c26
           have H':=am H
           clear H
           have p788 : 0 ≤ (x6_1 : Int):=of_decide_eq_true da_
           have q788 : x6_1 < (t780.length : Int):=of_decide_eq_true da_
           obtain ⟨ad788,e788,hx788_0,hx788_1,hx788_2,hx788_3,hx788_4⟩:=at_T50 (Kd.R_reads' HO_5.out).2.2 x6_1 p788 q788
           cases e788
           replace p788:=eq_true p788
           replace q788:=eq_true q788
           try go_wp2_with (first | ((with_reducible refine gD 7 rfl ?_);refine box_event rfl (N:=7) rfl (cs:=#[.int .i64 0,.int .i64 0,.int .i64 0,.int .i64 0,.bool false]) (t:=50) hr_ ?_;intro gb789 hg w27 hbox hb;replace HO_5:=am (Kd.R_below (Kd.R_elderB (rs HO_5) gb789 (Nat.le_of_eq hg.symm)) hb);replace HO_780000:=am (Kd.R_below (rs HO_780000) hb);have BK789:=am hbox;have GW789:=gwE HB hg;have GE789:=gwE HB hg;replace HB:=hbS HB hb;have NB779_789:=neL BK779 hg;have NB789_779:=neG BK779 hg;replace BK779:=bkB BK779 hb;clear hb hbox hg;have:=NB789_779.out;have:=NB779_789.out;have:=bcell BK789 0;have:=bcell BK789 1;have:=bcell BK789 2;have:=bcell BK789 3;have:=bcell BK789 4;have:=bfz BK789 0;have:=bfz BK789 1;have:=bfz BK789 2;have:=bfz BK789 3;have:=bfz BK789 4))
           have n0_ : Aside0 (Kd.R k50 50 (((((w27.setCell ⟨gb789,0,none⟩ (.int .i64 ((rd_T50 t780 x6_1).f0))).setCell ⟨gb789,1,none⟩ (.int .i64 ((rd_T50 t780 x6_1).f1))).setCell ⟨gb789,2,none⟩ (.int .i64 ((rd_T50 t780 x6_1).f2))).setCell ⟨gb789,3,none⟩ (.int .i64 ((rd_T50 t780 x6_1).f3))).setCell ⟨gb789,4,none⟩ (.bool ((rd_T50 t780 x6_1).f4))) w.heap.size (fun k_=>k_ ≠ gb789) (.slice (some ad788) t780.length co15) t780):=⟨by (with_reducible repeat apply ru);exact Kd.R_mono (Kd.R_far (p:=⟨gb789,4,none⟩) (Kd.R_far (p:=⟨gb789,3,none⟩) (Kd.R_far (p:=⟨gb789,2,none⟩) (Kd.R_far (p:=⟨gb789,1,none⟩) (Kd.R_far (p:=⟨gb789,0,none⟩) (Kd.R_mono HO_5.out (fun k_ hk=>(⟨hk,hk.2⟩ : _ ∧ k_ ≠ gb789))) (fun _ hk=>hk.2) (.int .i64 ((rd_T50 t780 x6_1).f0))) (fun _ hk=>hk.2) (.int .i64 ((rd_T50 t780 x6_1).f1))) (fun _ hk=>hk.2) (.int .i64 ((rd_T50 t780 x6_1).f2))) (fun _ hk=>hk.2) (.int .i64 ((rd_T50 t780 x6_1).f3))) (fun _ hk=>hk.2) (.bool ((rd_T50 t780 x6_1).f4))) (fun _ hk=>hk.1.2)⟩
           have n1_ : Aside0 (Kd.R k55 55 (((((w27.setCell ⟨gb789,0,none⟩ (.int .i64 ((rd_T50 t780 x6_1).f0))).setCell ⟨gb789,1,none⟩ (.int .i64 ((rd_T50 t780 x6_1).f1))).setCell ⟨gb789,2,none⟩ (.int .i64 ((rd_T50 t780 x6_1).f2))).setCell ⟨gb789,3,none⟩ (.int .i64 ((rd_T50 t780 x6_1).f3))).setCell ⟨gb789,4,none⟩ (.bool ((rd_T50 t780 x6_1).f4))) w.heap.size (fun _=>True) (.slice Ao10 t775.length co10) t775):=⟨by (with_reducible repeat apply ru);exact Kd.R_mono (Kd.R_far (p:=⟨gb789,4,none⟩) (Kd.R_far (p:=⟨gb789,3,none⟩) (Kd.R_far (p:=⟨gb789,2,none⟩) (Kd.R_far (p:=⟨gb789,1,none⟩) (Kd.R_far (p:=⟨gb789,0,none⟩) (Kd.R_types HO_780000.out BK789.out (by decide)) (fun _ hk=>hk.2) (.int .i64 ((rd_T50 t780 x6_1).f0))) (fun _ hk=>hk.2) (.int .i64 ((rd_T50 t780 x6_1).f1))) (fun _ hk=>hk.2) (.int .i64 ((rd_T50 t780 x6_1).f2))) (fun _ hk=>hk.2) (.int .i64 ((rd_T50 t780 x6_1).f3))) (fun _ hk=>hk.2) (.bool ((rd_T50 t780 x6_1).f4))) (fun _ hk=>trivial)⟩
           have n2_ : Aside0 ((((((w27.setCell ⟨gb789,0,none⟩ (.int .i64 ((rd_T50 t780 x6_1).f0))).setCell ⟨gb789,1,none⟩ (.int .i64 ((rd_T50 t780 x6_1).f1))).setCell ⟨gb789,2,none⟩ (.int .i64 ((rd_T50 t780 x6_1).f2))).setCell ⟨gb789,3,none⟩ (.int .i64 ((rd_T50 t780 x6_1).f3))).setCell ⟨gb789,4,none⟩ (.bool ((rd_T50 t780 x6_1).f4))).heap[gb779]? = some (.cells #[.slice Ao10 t775.length co10] 29 (0,0))):=bf_ BK779
           have n3_ : Aside0 ((((((w27.setCell ⟨gb789,0,none⟩ (.int .i64 ((rd_T50 t780 x6_1).f0))).setCell ⟨gb789,1,none⟩ (.int .i64 ((rd_T50 t780 x6_1).f1))).setCell ⟨gb789,2,none⟩ (.int .i64 ((rd_T50 t780 x6_1).f2))).setCell ⟨gb789,3,none⟩ (.int .i64 ((rd_T50 t780 x6_1).f3))).setCell ⟨gb789,4,none⟩ (.bool ((rd_T50 t780 x6_1).f4))).heap[gb789]? = some (.cells #[.int .i64 ((rd_T50 t780 x6_1).f0),.int .i64 ((rd_T50 t780 x6_1).f1),.int .i64 ((rd_T50 t780 x6_1).f2),.int .i64 ((rd_T50 t780 x6_1).f3),.bool ((rd_T50 t780 x6_1).f4)] 50 (0,0))):=⟨by (with_reducible repeat refine bu ?_);refine blk_put (cs:=#[.int .i64 ((rd_T50 t780 x6_1).f0),.int .i64 ((rd_T50 t780 x6_1).f1),.int .i64 ((rd_T50 t780 x6_1).f2),.int .i64 ((rd_T50 t780 x6_1).f3),.bool false]) ?_ 4 _ rfl;(with_reducible repeat refine bu ?_);refine blk_put (cs:=#[.int .i64 ((rd_T50 t780 x6_1).f0),.int .i64 ((rd_T50 t780 x6_1).f1),.int .i64 ((rd_T50 t780 x6_1).f2),.int .i64 0,.bool false]) ?_ 3 _ rfl;(with_reducible repeat refine bu ?_);refine blk_put (cs:=#[.int .i64 ((rd_T50 t780 x6_1).f0),.int .i64 ((rd_T50 t780 x6_1).f1),.int .i64 0,.int .i64 0,.bool false]) ?_ 2 _ rfl;(with_reducible repeat refine bu ?_);refine blk_put (cs:=#[.int .i64 ((rd_T50 t780 x6_1).f0),.int .i64 0,.int .i64 0,.int .i64 0,.bool false]) ?_ 1 _ rfl;(with_reducible repeat refine bu ?_);refine blk_put (cs:=#[.int .i64 0,.int .i64 0,.int .i64 0,.int .i64 0,.bool false]) ?_ 0 _ rfl;(with_reducible repeat refine bu ?_);exact BK789.out⟩
           have n4_ : Aside0 (Below w.heap.size w (((((w27.setCell ⟨gb789,0,none⟩ (.int .i64 ((rd_T50 t780 x6_1).f0))).setCell ⟨gb789,1,none⟩ (.int .i64 ((rd_T50 t780 x6_1).f1))).setCell ⟨gb789,2,none⟩ (.int .i64 ((rd_T50 t780 x6_1).f2))).setCell ⟨gb789,3,none⟩ (.int .i64 ((rd_T50 t780 x6_1).f3))).setCell ⟨gb789,4,none⟩ (.bool ((rd_T50 t780 x6_1).f4)))):=⟨m2_⟩
           (try clear HO_5)
           (try clear HO_780000)
           (try clear BK779)
           (try clear BK789)
           (try clear HB)
           generalize (((((w27.setCell ⟨gb789,0,none⟩ (.int .i64 ((rd_T50 t780 x6_1).f0))).setCell ⟨gb789,1,none⟩ (.int .i64 ((rd_T50 t780 x6_1).f1))).setCell ⟨gb789,2,none⟩ (.int .i64 ((rd_T50 t780 x6_1).f2))).setCell ⟨gb789,3,none⟩ (.int .i64 ((rd_T50 t780 x6_1).f3))).setCell ⟨gb789,4,none⟩ (.bool ((rd_T50 t780 x6_1).f4))) = w30 at n0_ n1_ n2_ n3_ n4_ ⊢
           have HO_5:=n0_
           have HO_780000:=n1_
           have BK779:=n2_
           have BK789:=n3_
           have HB:=n4_
           clear n0_ n1_ n2_ n3_ n4_
           replace HO_5:=am (Kd.R_drew HO_5.out)
           replace HO_780000:=am (Kd.R_drew HO_780000.out)
           replace BK779:=am (blk_drew BK779.out)
           replace BK789:=am (blk_drew BK789.out)
           replace HB:=am (below_drew1 HB.out)
           refine start_ (n:=39) (S:=fun w'=>w'.cell? ⟨gb779,0,none⟩ = some (.slice Ao10 t775.length co10) ∧ w'.cell? ⟨gb789,0,none⟩ = some (.int .i64 ((rd_T50 t780 x6_1).f0)) ∧ w'.cell? ⟨gb789,1,none⟩ = some (.int .i64 ((rd_T50 t780 x6_1).f1)) ∧ w'.cell? ⟨gb789,2,none⟩ = some (.int .i64 ((rd_T50 t780 x6_1).f2)) ∧ w'.cell? ⟨gb789,3,none⟩ = some (.int .i64 ((rd_T50 t780 x6_1).f3)) ∧ w'.cell? ⟨gb789,4,none⟩ = some (.bool ((rd_T50 t780 x6_1).f4))) (ds:=[]) #[false,false,false,false,false,false,false,false,false,false,false,false,false,false,false,false,false,false,false,false,false,false,false,false,false,false,false,false,false,false,false,false,false,false,false,false,false,false,false] (by kernel_rfl) rfl rfl ⟨bcell BK779 0,bcell BK789 0,bcell BK789 1,bcell BK789 2,bcell BK789 3,bcell BK789 4⟩ (fun hHeld=>?_);refine with_tabW laws_FnPosLine.tab11 laws_FnPosLine.bits11 (fun HT_ HW_=>?_)
           generalize w30.drew = w31 at HO_5 HO_780000 BK779 BK789 HB hHeld ⊢
           refine pu_ 1 (some 36) (bm 39 2) ?_
           refine pu_ 2 (some 37) (bm 39 6) ?_
           refine pu_ 5 (some 40) (bm 39 38) ?_
           refine tk_ 0 (some 35) (bm 39 39) rfl (.inl ⟨rfl,m28_⟩) ?_
           refine tk_ 3 (some 38) (bm 39 47) rfl (.inl ⟨rfl,m28_⟩) ?_
           refine tk_ 6 (some 41) (bm 39 111) rfl (.inl ⟨rfl,m28_⟩) ?_
           refine on_ 4 (some 39) (bm 39 127) (fun K hK=>?_)
           refine gR Tryz.func14 #[.agg #[.slice Ao10 t775.length co10],.string t778,.int .i64 ((rd_T50 t780 x6_1).f0)] ?_
           with_reducible refine (impl_PosOut.calls k1 _ _ t775 t778 ((rd_T50 t780 x6_1).f0) t790 _ ?side1 ?side2 A19.out (EnvE.below hE (bl HB))).mono ?_
           (case side1=>exact rcx HO_780000)
           (case side2=>exact (Kd.R_reads' HO_780000.out).2.1)
           rintro e w32 ⟨rfl,hb⟩
           refine ⟨_,rfl,?_⟩
           replace HO_5:=am (Kd.R_below (rs HO_5) hb)
           replace HO_780000:=am (Kd.R_below (rs HO_780000) hb)
           replace BK779:=bkB BK779 hb
           replace BK789:=bkB BK789 hb
           replace HB:=hbS HB hb
           (try clear hb)
           (try clear hb2)
           (try clear hk)
           (try clear hi)
           refine hK.out _ _ ⟨bcell BK779 0,bcell BK789 0,bcell BK789 1,bcell BK789 2,bcell BK789 3,bcell BK789 4⟩ (fun hHeld=>?_)
           clear hK K
           refine nm_ ?_
           refine pu_ 7 (some 42) (bm 39 255) ?_
           refine pu_ 8 (some 43) (bm 39 511) ?_
           refine pu_ 10 (some 45) (bm 39 1535) ?_
           refine pu_ 11 (some 46) (bm 39 3583) ?_
           refine pu_ 14 (some 49) (bm 39 19967) ?_
           refine tk_ 9 (some 44) (bm 39 20479) rfl (.inl ⟨rfl,m28_⟩) ?_
           refine tk_ 12 (some 47) (bm 39 24575) rfl (.inl ⟨rfl,m28_⟩) ?_
           refine tk_ 15 (some 50) (bm 39 57343) rfl (.inl ⟨rfl,m28_⟩) ?_
           refine on_ 13 (some 48) (bm 39 65535) (fun K hK=>?_)
           refine gR Tryz.func17 #[.agg #[.slice Ao10 t775.length co10],.string t778,.int .i64 ((rd_T50 t780 x6_1).f3)] ?_
           with_reducible refine (impl_PosBack.calls k1 _ _ t775 t778 ((rd_T50 t780 x6_1).f3) t791 _ ?side1 ?side2 A21.out (EnvE.below hE (bl HB))).mono ?_
           (case side1=>exact rcx HO_780000)
           (case side2=>exact (Kd.R_reads' HO_780000.out).2.1)
           rintro e w33 ⟨rfl,hb⟩
           refine ⟨_,rfl,?_⟩
           replace HO_5:=am (Kd.R_below (rs HO_5) hb)
           replace HO_780000:=am (Kd.R_below (rs HO_780000) hb)
           replace BK779:=bkB BK779 hb
           replace BK789:=bkB BK789 hb
           replace HB:=hbS HB hb
           (try clear hb)
           (try clear hb2)
           (try clear hk)
           (try clear hi)
           refine hK.out _ _ ⟨bcell BK779 0,bcell BK789 0,bcell BK789 1,bcell BK789 2,bcell BK789 3,bcell BK789 4⟩ (fun hHeld=>?_)
           clear hK K
           refine nm_ ?_
           refine pu_ 16 (some 51) (bm 39 131071) ?_
           refine pu_ 17 (some 52) (bm 39 262143) ?_
           refine pu_ 18 (some 53) (bm 39 524287) ?_
           refine pu_ 20 (some 55) (bm 39 1572863) ?_
           refine pu_ 21 (some 56) (bm 39 3670015) ?_
           refine pu_ 24 (some 59) (bm 39 20447231) ?_
           refine tk_ 19 (some 54) (bm 39 20971519) rfl (.inl ⟨rfl,m28_⟩) ?_
           refine tk_ 22 (some 57) (bm 39 25165823) rfl (.inl ⟨rfl,m28_⟩) ?_
           refine tk_ 25 (some 60) (bm 39 58720255) rfl (.inl ⟨rfl,m28_⟩) ?_
           refine on_ 23 (some 58) (bm 39 67108863) (fun K hK=>?_)
           refine gR Tryz.func17 #[.agg #[.slice Ao10 t775.length co10],.string t778,.int .i64 ((rd_T50 t780 x6_1).f2)] ?_
           with_reducible refine (impl_PosBack.calls k1 _ _ t775 t778 ((rd_T50 t780 x6_1).f2) t792 _ ?side1 ?side2 A23.out (EnvE.below hE (bl HB))).mono ?_
           (case side1=>exact rcx HO_780000)
           (case side2=>exact (Kd.R_reads' HO_780000.out).2.1)
           rintro e w34 ⟨rfl,hb⟩
           refine ⟨_,rfl,?_⟩
           replace HO_5:=am (Kd.R_below (rs HO_5) hb)
           replace HO_780000:=am (Kd.R_below (rs HO_780000) hb)
           replace BK779:=bkB BK779 hb
           replace BK789:=bkB BK789 hb
           replace HB:=hbS HB hb
           (try clear hb)
           (try clear hb2)
           (try clear hk)
           (try clear hi)
           refine hK.out _ _ ⟨bcell BK779 0,bcell BK789 0,bcell BK789 1,bcell BK789 2,bcell BK789 3,bcell BK789 4⟩ (fun hHeld=>?_)
           clear hK K
           refine nm_ ?_
           refine pu_ 26 (some 61) (bm 39 134217727) ?_
           refine pu_ 27 (some 62) (bm 39 268435455) ?_
           refine pu_ 28 (some 63) (bm 39 536870911) ?_
           refine pu_ 30 (some 65) (bm 39 1610612735) ?_
           refine pu_ 31 (some 66) (bm 39 3758096383) ?_
           refine pu_ 35 (some 70) (bm 39 38117834751) ?_
           refine tk_ 29 (some 64) (bm 39 38654705663) rfl (.inl ⟨rfl,m28_⟩) ?_
           refine tk_ 32 (some 67) (bm 39 42949672959) rfl (.inl ⟨rfl,m28_⟩) ?_
           refine pu_ 33 (some 68) (bm 39 51539607551) ?_
           refine tk_ 36 (some 71) (bm 39 120259084287) rfl (.inl ⟨rfl,m28_⟩) ?_
           refine on_ 34 (some 69) (bm 39 137438953471) (fun K hK=>?_)
           refine gR Tryz.func14 #[.agg #[.slice Ao10 t775.length co10],.string t778,.int .i64 (wrap64 (((rd_T50 t780 x6_1).f1) - 1))] ?_
           with_reducible refine (impl_PosOut.calls k1 _ _ t775 t778 (wrap64 (((rd_T50 t780 x6_1).f1) - 1)) t793 _ ?side1 ?side2 A25.out (EnvE.below hE (bl HB))).mono ?_
           (case side1=>exact rcx HO_780000)
           (case side2=>exact (Kd.R_reads' HO_780000.out).2.1)
           rintro e w35 ⟨rfl,hb⟩
           refine ⟨_,rfl,?_⟩
           replace HO_5:=am (Kd.R_below (rs HO_5) hb)
           replace HO_780000:=am (Kd.R_below (rs HO_780000) hb)
           replace BK779:=bkB BK779 hb
           replace BK789:=bkB BK789 hb
           replace HB:=hbS HB hb
           (try clear hb)
           (try clear hb2)
           (try clear hk)
           (try clear hi)
           refine hK.out _ _ ⟨bcell BK779 0,bcell BK789 0,bcell BK789 1,bcell BK789 2,bcell BK789 3,bcell BK789 4⟩ (fun hHeld=>?_)
           clear hK K
           refine nm_ ?_
           refine pu_ 37 (some 72) (bm 39 274877906943) ?_
           refine pu_ 38 (some 73) (bm 39 549755813887) ?_
           refine done_ (done_of HT_.out (by kernel_rfl)) ?_
           try go_wp2
           go_roundg k1
           case measure=>have:=HK1.out;omega
           case rel=>exact ⟨(wrap64 (x6_1 + 1)),rs_,H',⟨by have:=HK1.out;omega⟩,⟨by (with_reducible repeat apply ru);exact Kd.R_mono HO_5.out (fun _ hk=>trivial)⟩,⟨by (with_reducible repeat apply ru);exact HO_780000.out⟩,⟨bk BK779⟩,⟨m2_⟩⟩
          ·rw [if_neg c26] at H
           have c26b0 : (t793 == ((rd_T50 t780 x6_1).f2)) = false:=beq_eq_false_iff_ne.mpr c26
           have c26b1 : (t793 != ((rd_T50 t780 x6_1).f2)) = true:=bne_iff_ne.mpr c26
           exact absurd ((Option.some.inj H).trans hrt.out) (by decide)
         ·rw [if_neg c24] at H
          have c24b0 : (t792 == ((rd_T50 t780 x6_1).f0)) = false:=beq_eq_false_iff_ne.mpr c24
          have c24b1 : (t792 != ((rd_T50 t780 x6_1).f0)) = true:=bne_iff_ne.mpr c24
          exact absurd ((Option.some.inj H).trans hrt.out) (by decide)
        ·rw [if_neg c22] at H
         have c22b0 : (t791 == ((rd_T50 t780 x6_1).f1)) = false:=beq_eq_false_iff_ne.mpr c22
         have c22b1 : (t791 != ((rd_T50 t780 x6_1).f1)) = true:=bne_iff_ne.mpr c22
         exact absurd ((Option.some.inj H).trans hrt.out) (by decide)
       ·rw [if_neg c20] at H
        have c20b0 : (t790 == ((rd_T50 t780 x6_1).f2)) = false:=beq_eq_false_iff_ne.mpr c20
        have c20b1 : (t790 != ((rd_T50 t780 x6_1).f2)) = true:=bne_iff_ne.mpr c20
        exact absurd ((Option.some.inj H).trans hrt.out) (by decide)
      ·rw [if_neg c18] at H
       exact absurd H (by simp)
     ·rw [if_neg c17] at H
      have c17b0 : decide (x6_1 < (t780.length : Int)) = false:=decide_eq_false c17
      clear c17
      obtain ⟨t787,A36,H⟩:=bse H
      try dsimp only at H
      obtain rfl:=Option.some.inj H
      go_wp2_with (first | ((with_reducible refine gC 28 rfl ?_);refine gL (some 74) Tryz.func28 #[] ?_;(with_reducible refine (laws_haOk.calls  t787 _ A36.out).mono ?_);rintro e w37 ⟨rfl,hb⟩;refine ⟨_,rfl,?_⟩;replace HO_5:=am (Kd.R_below (rs HO_5) hb);replace HO_780000:=am (Kd.R_below (rs HO_780000) hb);replace BK779:=bkB BK779 hb;replace HB:=hbS HB hb;(try clear hb)))
      go_ret
      exact ⟨fi_,m2_⟩
  ·replace c7:=Bool.eq_false_iff.mpr c7
   subst c7
   have H1 : (some false) = some r:=by rw [if_neg (show ¬ (false = true) by decide)] at H;exact H
   clear H
   have H:=H1
   clear H1
   exact absurd ((Option.some.inj H).trans hrt.out) (by decide)
def laws_FnPosLine.Pure : Prop:=∀ (l0 : List Int),l0.length ≤ maxLen → l0.length * 1 ≤ 140737488351232 → (∀ x ∈ l0,(Lit.int .u8 x).wf = true) → ∃ k,laws_FnPosLine.f k l0 = some true
theorem laws_FnPosLine.walk (P : laws_FnPosLine.Pure) (a0 : Option Addr) (len0 cap0 : Nat) (z0 : List Int) (w : World) (w0 : (a0 = none ∧ len0 = 0 ∧ cap0 = 0 ∧ z0 = []) ∨ ∃ x,a0 = some x ∧ len0 ≤ cap0 ∧ cap0 ≤ maxLen ∧ z0.length = cap0 ∧ (∀ i,i < z0.length → w.cell? (x.add i) = some (.int .u8 (z0.getD i 0))) ∧ ∀ n ∈ z0,(Lit.int .u8 n).wf = true) (y0 : len0 * 1 ≤ 140737488351232) (hE : EnvE w) :
  Calls Tryz.prog 8 #[.slice a0 len0 cap0] w fun e w'=>e = .returned (.bool true) ∧ Below w.heap.size w w':=by
 obtain ⟨l0,rfl,hr0,hm0,hw0,hc0⟩:=ReadsInt.ofRowC w0
 obtain ⟨k,h⟩:=P l0 hm0 y0 hw0
 refine (laws_FnPosLine.calls k _ _ l0 true w (Kd.C_of_reads (d:=(0 : Int)) (h1:=fun _=>rfl) hr0) hc0 h ⟨rfl⟩ hE).mono ?_
 rintro e w' ⟨rfl,hd⟩
 exact ⟨rfl,hd⟩
end
theorem haSpans_a (L : List S50) (hl : L.length ≤ 1000000) : Ans (fun k=>laws_haSpans.f k L L) (fun r=>r = true):=by
  unfold laws_haSpans.f
  refine Ans.pos rfl ?_
  have S : ∀ (m i : Nat),L.length - i = m → i ≤ L.length → Ans (fun k=>laws_haSpans.l0 k L L (i : Int)) (fun r=>r = true):=by
    intro m
    induction m with
    | zero=>
      intro i hm hi
      refine Ans.succ ?_
      unfold laws_haSpans.l0
      exact Ans.neg (by omega) (Ans.pure rfl)
    | succ m ih=>
      intro i hm hi
      refine Ans.succ ?_
      unfold laws_haSpans.l0
      rw [show wrap64 ((i : Int) + 1) = ((i + 1 : Nat) : Int) from w64 _ (by omega)]
      exact Ans.pos (by omega) (Ans.pos (by omega) (Ans.pos (by omega) (Ans.neg (by simp) (ih (i + 1) (by omega) (by omega)))))
  exact S _ 0 rfl (Nat.zero_le _)
theorem posSpans_a (l : List S55) (hl : l.length ≤ 2000000) (s : ByteArray) (hs : s.size ≤ 1048576) : Ans (fun k=>impl_PosSpans.f k l s) (fun r=>r = posL l s):=by
  unfold impl_PosSpans.f
  refine Ans.bind (implOfStream_a l hl s hs) ?_
  rintro _ rfl
  exact Ans.pure rfl
theorem pos_line (t : List S55) (s : ByteArray) : ∀ i,i < (posL t s).length → outW (posL t s) (rd_T50 (posL t s) (i : Int)).f0 = (rd_T50 (posL t s) (i : Int)).f2 ∧ thereW (posL t s) (rd_T50 (posL t s) (i : Int)).f3 = (rd_T50 (posL t s) (i : Int)).f1 ∧
    thereW (posL t s) (rd_T50 (posL t s) (i : Int)).f2 = (rd_T50 (posL t s) (i : Int)).f0 ∧ outW (posL t s) (wrap64 ((rd_T50 (posL t s) (i : Int)).f1 - 1)) = (rd_T50 (posL t s) (i : Int)).f2:=by
  cases c : okT t && strOkW s with
  | false=>unfold posL;rw [c];intro i h;simp at h
  | true=>
    simp only [Bool.and_eq_true] at c
    obtain ⟨R,_⟩:=pos_rises c.1 c.2
    intro i hi
    rw [R.r.get i hi]
    have h:=R.line hi
    have z:=R.at0 (i:=i + 1) (by omega)
    have hA:=R.bigA
    have e:=w64 ((sumS ((linesB s).take (i + 1)) : Int) - 1) (by omega)
    dsimp only
    rw [e]
    exact h
theorem laws_FnPosLine.pure : laws_FnPosLine.Pure:=by
  intro l0 _ _ hw0
  have hb0 : Bys l0:=bys_of hw0
  have A : Ans (fun k=>laws_FnPosLine.f k l0) (fun r=>r = true):=by
    unfold laws_FnPosLine.f
    refine Ans.ite (fun _=>Ans.pure rfl) (fun _=>?_)
    refine Ans.bind (drawPosSpans_a hb0) ?_
    rintro ⟨t,s⟩ ⟨ht,hs⟩
    dsimp only at *
    refine Ans.bind (posSpans_a t (by omega) s (by omega)) ?_
    rintro _ rfl
    refine Ans.bind (specPosSpans_a t (by omega) s (by omega)) ?_
    rintro _ rfl
    have h120:=posL_small t s
    refine Ans.bind (haSpans_a _ (by omega)) ?_
    rintro _ rfl
    refine Ans.pos rfl ?_
    have hP:=pos_line t s
    have G:=fun x=>implPosOut_a t (by omega) s (by omega) x
    have H:=fun x=>implPosBack_a t (by omega) s (by omega) x
    obtain ⟨M,hM⟩ : ∃ M,posL t s = M:=⟨_,rfl⟩
    rw [hM] at hP h120 ⊢
    simp only [hM] at G H
    have S : ∀ (m i : Nat),M.length - i = m → i ≤ M.length → Ans (fun k=>laws_FnPosLine.l0 k s M (i : Int) t) (fun r=>r = true):=by
      intro m
      induction m with
      | zero=>
        intro i hm hi
        refine Ans.succ ?_
        unfold laws_FnPosLine.l0
        rw [haOk_f]
        exact Ans.neg (by omega) (Ans.bsome (Ans.pure rfl))
      | succ m ih=>
        intro i hm hi
        have h:=Lib.hid (hP i (by omega))
        refine Ans.succ ?_
        unfold laws_FnPosLine.l0
        rw [show wrap64 ((i : Int) + 1) = ((i + 1 : Nat) : Int) from w64 _ (by omega)]
        refine Ans.pos (by omega) (Ans.pos (by omega) (Ans.bind (G _) ?_))
        rintro _ rfl
        refine Ans.pos h.out.1 (Ans.bind (H _) ?_)
        rintro _ rfl
        refine Ans.pos h.out.2.1 (Ans.bind (H _) ?_)
        rintro _ rfl
        refine Ans.pos h.out.2.2.1 (Ans.bind (G _) ?_)
        rintro _ rfl
        exact Ans.pos h.out.2.2.2 (ih (i + 1) (by omega) (by omega))
    exact S _ 0 rfl (Nat.zero_le _)
  obtain ⟨k,v,rfl,h⟩:=A.got
  exact ⟨k,h⟩
end Go.Proofs.YtakfmcpjnkagmaaGreatDoor.P
namespace Go.Proofs.YtakfmcpjnkagmaaGreatDoor.Pure
theorem FnPosLine : P.laws_FnPosLine.Pure:=P.laws_FnPosLine.pure
end Go.Proofs.YtakfmcpjnkagmaaGreatDoor.Pure
