import Derived.Test.YtakfmcpjnkagmaaGreatDoorGPosAllx6
namespace Go.Proofs.YtakfmcpjnkagmaaGreatDoor.P
open Go.Proofs.YtakfmcpjnkagmaaGreatDoorUPosAll.PrintLast Go.Proofs.YtakfmcpjnkagmaaGreatDoorUPosAll.PrintMore Go.Proofs.YtakfmcpjnkagmaaGreatDoorUPosAll.PrintWords Go.RowKit
set_option linter.unusedVariables false
set_option linter.unusedSimpArgs false
section
attribute [local go_sem] max2_int min2_int max_two min_two max_three min_three max_four min_four
mutual
def laws_FnPosOut.j0 : Nat → ByteArray → Int → Bool → List (S55) → Option (Bool)
 | 0,_,_,_,_=>none
 | k + 1,x4,x6,x36,x762000=>if x36 = true then (if x6 = 0 then ((laws_haOk.f).bind fun t766=>(some t766)) else (some false)) else ((impl_RwrStream.f k x762000 x4).bind fun bt767=>(laws_FnPosOut.l0 k x4 x6 bt767.2 0 x762000))
def laws_FnPosOut.l0 : Nat → ByteArray → Int → ByteArray → Int → List (S55) → Option (Bool)
 | 0,_,_,_,_,_=>none
 | k + 1,x4,x6,x8,x9,x762000=>if x9 < (x4.size : Int) then ((impl_PosOut.f k x762000 x4 x9).bind fun t773=>((impl_PosOut.f k x762000 x4 (wrap64 (x9 + 1))).bind fun t774=>(if t773 > t774 then (some false) else (laws_FnPosOut.l0 k x4 x6 x8 (wrap64 (x9 + 1)) x762000)))) else (if x6 ≥ 0 then (if x6 ≤ (x8.size : Int) then ((impl_PosOut.f k x762000 x4 (x4.size : Int)).bind fun t772=>(some (t772 == (x8.size : Int)))) else (some false)) else (some false))
end
def laws_FnPosOut.f (k : Nat) (l0 : List Int) : Option (Bool):=if (l0.length : Int) > 1048576 then (some true) else ((spec_DrawPosOut.f k l0).bind fun bt756=>((impl_PosOut.f k bt756.1 bt756.2.1 bt756.2.2).bind fun t762=>((spec_PosOut.f k bt756.1 bt756.2.1 bt756.2.2).bind fun t763=>(if t762 = t763 then ((spec_MapOk.f k bt756.1).bind fun t764=>(if t764 = true then ((spec_StrOk.f k bt756.2.1).bind fun t765=>(laws_FnPosOut.j0 k bt756.2.1 t762 (!t765) bt756.1)) else (laws_FnPosOut.j0 k bt756.2.1 t762 true bt756.1))) else (some false)))))
theorem laws_FnPosOut.mono_l : ∀ k,(∀ y0 y1 y2 y3,LeO (laws_FnPosOut.j0 k y0 y1 y2 y3) (laws_FnPosOut.j0 (k + 1) y0 y1 y2 y3)) ∧ (∀ y0 y1 y2 y3 y4,LeO (laws_FnPosOut.l0 k y0 y1 y2 y3 y4) (laws_FnPosOut.l0 (k + 1) y0 y1 y2 y3 y4))
 | 0=>⟨fun _ _ _ _ r h=>by simp [laws_FnPosOut.j0] at h,fun _ _ _ _ _ r h=>by simp [laws_FnPosOut.l0] at h⟩
 | k + 1=>by
  obtain ⟨ih0,ih1⟩:=laws_FnPosOut.mono_l k
  refine ⟨?_,?_⟩
  ·intro y0 y1 y2 y3
   unfold laws_FnPosOut.j0
   repeat' first | (with_reducible first | exact ih0 _ _ _ _ | exact ih1 _ _ _ _ _ | exact impl_PosOut.mono _ _ _ _ | exact impl_RwrStream.mono _ _ _ | exact spec_DrawPosOut.mono _ _ | exact spec_MapOk.mono _ _ | exact spec_PosOut.mono _ _ _ _ | exact spec_StrOk.mono _ _ | exact LeO.refl _ | exact LeO.none _ | refine LeO.ite ?_ ?_ | refine LeO.bind ?_ (fun _=>?_)) | exact ih0 _ _ _ _ | exact ih1 _ _ _ _ _ | exact impl_PosOut.mono _ _ _ _ | exact impl_RwrStream.mono _ _ _ | exact spec_DrawPosOut.mono _ _ | exact spec_MapOk.mono _ _ | exact spec_PosOut.mono _ _ _ _ | exact spec_StrOk.mono _ _ | exact LeO.none _ | refine LeO.ite ?_ ?_ | refine LeO.bind ?_ (fun _=>?_)
  ·intro y0 y1 y2 y3 y4
   unfold laws_FnPosOut.l0
   repeat' first | (with_reducible first | exact ih0 _ _ _ _ | exact ih1 _ _ _ _ _ | exact impl_PosOut.mono _ _ _ _ | exact impl_RwrStream.mono _ _ _ | exact spec_DrawPosOut.mono _ _ | exact spec_MapOk.mono _ _ | exact spec_PosOut.mono _ _ _ _ | exact spec_StrOk.mono _ _ | exact LeO.refl _ | exact LeO.none _ | refine LeO.ite ?_ ?_ | refine LeO.bind ?_ (fun _=>?_)) | exact ih0 _ _ _ _ | exact ih1 _ _ _ _ _ | exact impl_PosOut.mono _ _ _ _ | exact impl_RwrStream.mono _ _ _ | exact spec_DrawPosOut.mono _ _ | exact spec_MapOk.mono _ _ | exact spec_PosOut.mono _ _ _ _ | exact spec_StrOk.mono _ _ | exact LeO.none _ | refine LeO.ite ?_ ?_ | refine LeO.bind ?_ (fun _=>?_)
theorem laws_FnPosOut.mono : ∀ a0 k,LeO (laws_FnPosOut.f k a0) (laws_FnPosOut.f (k + 1) a0):=by
 intro a0 k
 obtain ⟨ih0,ih1⟩:=laws_FnPosOut.mono_l k
 unfold laws_FnPosOut.f
 repeat' first | (with_reducible first | exact ih0 _ _ _ _ | exact ih1 _ _ _ _ _ | exact impl_PosOut.mono _ _ _ _ | exact impl_RwrStream.mono _ _ _ | exact spec_DrawPosOut.mono _ _ | exact spec_MapOk.mono _ _ | exact spec_PosOut.mono _ _ _ _ | exact spec_StrOk.mono _ _ | exact LeO.refl _ | exact LeO.none _ | refine LeO.ite ?_ ?_ | refine LeO.bind ?_ (fun _=>?_)) | exact ih0 _ _ _ _ | exact ih1 _ _ _ _ _ | exact impl_PosOut.mono _ _ _ _ | exact impl_RwrStream.mono _ _ _ | exact spec_DrawPosOut.mono _ _ | exact spec_MapOk.mono _ _ | exact spec_PosOut.mono _ _ _ _ | exact spec_StrOk.mono _ _ | exact LeO.none _ | refine LeO.ite ?_ ?_ | refine LeO.bind ?_ (fun _=>?_)
def laws_FnPosOut.T13 : Bool × List (List Nat × List Nat):=(true,[([],[]),([],[]),([],[]),([0,1,2],[0,1,2]),([],[]),([],[]),([],[]),([6],[6]),([4,5,7,3],[4,5,7]),([3,8],[3,8])])
def laws_FnPosOut.B13 : List Nat:=[0,0,0,7,0,0,0,64,255,511]
theorem laws_FnPosOut.tab13 : rtab .any (opsOf Tryz.f7 13) = laws_FnPosOut.T13:=by kernel_rfl
theorem laws_FnPosOut.bits13 : waitsOk laws_FnPosOut.T13.2 laws_FnPosOut.B13 = true:=by kernel_rfl
set_option maxHeartbeats 8000000 in
set_option maxRecDepth 100000 in
theorem laws_FnPosOut.calls (k : Nat) (A0 : Option Addr) (c0 : Nat) (l0 : List Int) (r : Bool) (w : World) (hr0 : Kd.C (Kd.int .u8) w A0 l0.length l0) (hc0 : l0.length ≤ c0) (h : laws_FnPosOut.f k l0 = some r) (hrt : Aside0 (r = true)) (hE : EnvE w) :
  Calls Tryz.prog 7 #[.slice A0 l0.length c0] w fun e w'=>e = .returned (.bool r) ∧ Below w.heap.size w w':=by
 have hu29:=Tryz.underlying29
 have HR0:=am hr0
 have HC0:=am hc0
 clear hr0 hc0
 have HB:=am (Below.refl w.heap.size w)
 have H : (if (l0.length : Int) > 1048576 then (some true) else ((spec_DrawPosOut.f k l0).bind fun bt756=>((impl_PosOut.f k bt756.1 bt756.2.1 bt756.2.2).bind fun t762=>((spec_PosOut.f k bt756.1 bt756.2.1 bt756.2.2).bind fun t763=>(if t762 = t763 then ((spec_MapOk.f k bt756.1).bind fun t764=>(if t764 = true then ((spec_StrOk.f k bt756.2.1).bind fun t765=>(laws_FnPosOut.j0 k bt756.2.1 t762 (!t765) bt756.1)) else (laws_FnPosOut.j0 k bt756.2.1 t762 true bt756.1))) else (some false)))))) = some r:=h
 clear h
 by_cases c2 : (l0.length : Int) > 1048576
 ·rw [if_pos c2] at H
  have c2b0 : decide (1048576 < (l0.length : Int)) = true:=decide_eq_true c2
  have c2b1 : decide (1048576 < l0.length) = true:=decide_eq_true (by omega)
  clear c2
  obtain rfl:=Option.some.inj H
  go_enter Tryz.func7,Tryz.ntmps7
  go_wp2
  go_ret
  exact ⟨fi_,m0_⟩
 ·rw [if_neg c2] at H
  have c2b0 : decide (1048576 < (l0.length : Int)) = false:=decide_eq_false c2
  have c2b1 : decide (1048576 < l0.length) = false:=decide_eq_false (by omega)
  clear c2
  obtain ⟨⟨t756,t759,t760⟩,A3,H⟩:=bse H
  try dsimp only at H
  obtain ⟨t762,A4,H⟩:=bse H
  try dsimp only at H
  obtain ⟨t763,A5,H⟩:=bse H
  try dsimp only at H
  by_cases c6 : t762 = t763
  ·rw [if_pos c6] at H
   have c6b0 : (t762 == t763) = true:=beq_iff_eq.mpr c6
   have c6b1 : (t762 != t763) = false:=bne_eq_false_iff_eq.mpr c6
   clear c6
   have HC7:=am H
   clear H
   go_enter Tryz.func7,Tryz.ntmps7
   go_upto_region 7 with (first | ((with_reducible refine gC 31 rfl ?_);refine gL (some 15) Tryz.func31 #[.slice A0 l0.length c0] ?_;(with_reducible refine (spec_DrawPosOut.calls k _ _ l0 t756 t759 t760 _ ?side1 ?side2 A3.out).mono ?_);(case side1=>exact m1_);(case side2=>exact HC0.out);rintro e w8 ⟨v757,rfl,ho0,hb⟩;refine ⟨_,rfl,?_⟩;have HO758:=am (Kd.R_lower ho0 (below_size (bl HB)));replace HB:=hbS HB hb;(try clear hb);(try clear ho0)) | ((with_reducible refine gD 3 rfl ?_);refine box_event rfl (N:=3) rfl (cs:=#[.slice none 0 0]) (t:=29) hr_ ?_;intro gb761 hg w9 hbox hb;replace HO758:=am (Kd.R_below (rs HO758) hb);have BK761:=am hbox;have GW761:=gwE HB hg;have GE761:=gwE HB hg;replace HB:=hbS HB hb;clear hb hbox hg;obtain ⟨Ao10,co10,eo10⟩:=Kd.R_slice HO758.out;subst eo10;have hcz11_0:=bcell BK761 0;have hfz11_0:=blk_frozen BK761.out 0) | ((with_reducible refine gC 14 rfl ?_);refine gL (some 22) Tryz.func14 #[.agg #[.slice Ao10 t756.length co10],.string t759,.int .i64 t760] ?_;(with_reducible refine (impl_PosOut.calls k _ _ t756 t759 t760 t762 _ ?side1 ?side2 A4.out (EnvE.below hE (bl HB))).mono ?_);(case side1=>refine (Kd.R_reads' (e:=55) (base:=w.heap.size) (ok:=fun k_=>True) (n:=t756.length) (c:=co10) ?_).2.2;exact (by (with_reducible repeat apply ru);exact (Kd.R_mono (Kd.R_far (p:=⟨gb761,0,none⟩) (Kd.R_types HO758.out BK761.out (by decide)) (fun _ hk=>hk.2) (.slice Ao10 t756.length co10)) (fun _ h_=>h_.1))));(case side2=>exact (Kd.R_reads' HO758.out).2.1);rintro e w12 ⟨rfl,hb⟩;refine ⟨_,rfl,?_⟩;replace HO758:=am (Kd.R_below (by (with_reducible repeat apply ru);exact (Kd.R_mono (Kd.R_far (p:=⟨gb761,0,none⟩) (Kd.R_types HO758.out BK761.out (by decide)) (fun _ hk=>hk.2) (.slice Ao10 t756.length co10)) (fun _ h_=>h_.1))) hb);replace BK761:=am (blk_below (g:=gb761) (o:=.cells #[.slice Ao10 t756.length co10] 29 (0,0)) (by (with_reducible repeat refine bu ?_);refine blk_put (cs:=#[.slice none 0 0]) ?_ 0 _ rfl;(with_reducible repeat refine bu ?_);exact BK761.out) hb);replace HB:=hbS HB hb;(try clear hb);(try clear hk);have hcz13_0:=bcell BK761 0;have hfz13_0:=blk_frozen BK761.out 0) | ((with_reducible refine gC 12 rfl ?_);refine gL (some 27) Tryz.func12 #[.agg #[.slice Ao10 t756.length co10],.string t759,.int .i64 t760] ?_;(with_reducible refine (spec_PosOut.calls k _ _ t756 t759 t760 t763 _ ?side1 ?side2 A5.out).mono ?_);(case side1=>exact rcx HO758);(case side2=>exact (Kd.R_reads' HO758.out).2.1);rintro e w14 ⟨rfl,hb⟩;refine ⟨_,rfl,?_⟩;replace HO758:=am (Kd.R_below (rs HO758) hb);replace BK761:=bkB BK761 hb;replace HB:=hbS HB hb;(try clear hb)))
   (try simp only [Act.put,List.setIfInBounds_toArray,List.set_cons_zero,List.set_cons_succ])
   go_cut [36] (fun v36 wc=>∃ (kq : Nat) (x36_6 : Bool),v36 = .bool x36_6 ∧ Aside0 (laws_FnPosOut.j0 kq t759 t762 x36_6 t756 = some r) ∧ Aside0 (kq ≤ k) ∧ Aside0 (Kd.R k55 55 wc w.heap.size (fun _=>True) (.slice Ao10 t756.length co10) t756) ∧ Aside0 (wc.heap[gb761]? = some (.cells #[(.slice Ao10 t756.length co10)] 29 (0,0))) ∧ Aside0 (Below w.heap.size w wc))
   case first=>
    have H:=HC7.out
    clear HC7
    obtain ⟨t764,A15,H⟩:=bse H
    try dsimp only at H
    by_cases c16 : t764 = true
    ·subst c16
     have H1 : ((spec_StrOk.f k t759).bind fun t765=>(laws_FnPosOut.j0 k t759 t762 (!t765) t756)) = some r:=by rw [if_pos rfl] at H;exact H
     clear H
     have H:=H1
     clear H1
     obtain ⟨t765,A17,H⟩:=bse H
     try dsimp only at H
     have H':=am H
     clear H
     have hcz18_0:=bcell BK761 0
     have hfz18_0:=blk_frozen BK761.out 0
     go_wp2_with (first | ((with_reducible refine gC 26 rfl ?_);refine gL (some 30) Tryz.func26 #[.agg #[.slice Ao10 t756.length co10]] ?_;(with_reducible refine (spec_MapOk.calls k _ _ t756 true _ ?side1 ?side2 A15.out).mono ?_);(case side1=>exact rcx HO758);(case side2=>exact (Kd.R_reads' HO758.out).2.1);rintro e w19 ⟨rfl,hb⟩;refine ⟨_,rfl,?_⟩;replace HO758:=am (Kd.R_below (rs HO758) hb);replace BK761:=bkB BK761 hb;replace HB:=hbS HB hb;(try clear hb)) | (go_at_call 27;(with_reducible refine (spec_StrOk.calls k t759 t765 _ A17.out).mono ?_);rintro e w20 ⟨rfl,hb⟩;replace HO758:=am (Kd.R_below (rs HO758) hb);replace BK761:=bkB BK761 hb;replace HB:=hbS HB hb;(try clear hb)))
     go_meet
     case rel=>exact ⟨_,(!t765),rs_,H',⟨by first | omega | exact Nat.le_refl _⟩,⟨by (with_reducible repeat apply ru);exact HO758.out⟩,⟨bk BK761⟩,⟨m2_⟩⟩
    ·replace c16:=Bool.eq_false_iff.mpr c16
     subst c16
     have H1 : (laws_FnPosOut.j0 k t759 t762 true t756) = some r:=by rw [if_neg (show ¬ (false = true) by decide)] at H;exact H
     clear H
     have H:=H1
     clear H1
     have H':=am H
     clear H
     have hcz21_0:=bcell BK761 0
     have hfz21_0:=blk_frozen BK761.out 0
     go_wp2_with (first | ((with_reducible refine gC 26 rfl ?_);refine gL (some 30) Tryz.func26 #[.agg #[.slice Ao10 t756.length co10]] ?_;(with_reducible refine (spec_MapOk.calls k _ _ t756 false _ ?side1 ?side2 A15.out).mono ?_);(case side1=>exact rcx HO758);(case side2=>exact (Kd.R_reads' HO758.out).2.1);rintro e w22 ⟨rfl,hb⟩;refine ⟨_,rfl,?_⟩;replace HO758:=am (Kd.R_below (rs HO758) hb);replace BK761:=bkB BK761 hb;replace HB:=hbS HB hb;(try clear hb)))
     go_meet
     case rel=>exact ⟨_,(true),rs_,H',⟨by first | omega | exact Nat.le_refl _⟩,⟨by (with_reducible repeat apply ru);exact HO758.out⟩,⟨bk BK761⟩,⟨m2_⟩⟩
   case rest=>
    clear HC7
    try clear c1
    try clear c2
    try clear c2b0
    try clear c2b1
    try clear p2
    try clear c3
    try clear c6
    try clear c6b0
    try clear c6b1
    try clear c7
    try clear c12
    try clear c14
    try clear c16
    try clear hcz11_0
    try clear hcz13_0
    try clear hcz18_0
    try clear hcz21_0
    try clear hfz11_0
    try clear hfz13_0
    try clear hfz18_0
    try clear hfz21_0
    obtain ⟨kq,x36_6,rfl,HA,HJ6,HO_762000,BK761,HB⟩:=hcut
    cases kq with
    | zero=>exact absurd HA.out (by simp [laws_FnPosOut.j0])
    | succ kj6=>
     have H:=HA.out
     clear HA
     simp only [laws_FnPosOut.j0] at H
     by_cases c23 : x36_6 = true
     ·subst c23
      have H1 : (if t762 = 0 then ((laws_haOk.f).bind fun t766=>(some t766)) else (some false)) = some r:=by rw [if_pos rfl] at H;exact H
      clear H
      have H:=H1
      clear H1
      by_cases c24 : t762 = 0
      ·rw [if_pos c24] at H
       have c24b0 : (t762 == 0) = true:=beq_iff_eq.mpr c24
       have c24b1 : (t762 != 0) = false:=bne_eq_false_iff_eq.mpr c24
       clear c24
       obtain ⟨t766,A25,H⟩:=bse H
       try dsimp only at H
       obtain rfl:=Option.some.inj H
       go_wp2_with (first | (go_at_call 28;(with_reducible refine (laws_haOk.calls  t766 _ A25.out).mono ?_);rintro e w26 ⟨rfl,hb⟩;replace HO_762000:=am (Kd.R_below (rs HO_762000) hb);replace BK761:=bkB BK761 hb;replace HB:=hbS HB hb;(try clear hb)))
       go_ret
       exact ⟨fi_,m2_⟩
      ·rw [if_neg c24] at H
       have c24b0 : (t762 == 0) = false:=beq_eq_false_iff_ne.mpr c24
       have c24b1 : (t762 != 0) = true:=bne_iff_ne.mpr c24
       exact absurd ((Option.some.inj H).trans hrt.out) (by decide)
     ·replace c23:=Bool.eq_false_iff.mpr c23
      subst c23
      have H1 : ((impl_RwrStream.f kj6 t756 t759).bind fun bt767=>(laws_FnPosOut.l0 kj6 t759 t762 bt767.2 0 t756)) = some r:=by rw [if_neg (show ¬ (false = true) by decide)] at H;exact H
      clear H
      have H:=H1
      clear H1
      obtain ⟨⟨t767,t770⟩,A27,H⟩:=bse H
      try dsimp only at H
      have H':=am H
      clear H
      have hcz28_0:=bcell BK761 0
      have hfz28_0:=blk_frozen BK761.out 0
      go_wp2_with (first | ((with_reducible refine gC 30 rfl ?_);refine gL (some 45) Tryz.func30 #[.agg #[.slice Ao10 t756.length co10],.string t759] ?_;(with_reducible refine (impl_RwrStream.calls kj6 _ _ t756 t759 t767 t770 _ ?side1 ?side2 A27.out (EnvE.below hE (bl HB))).mono ?_);(case side1=>exact rcx HO_762000);(case side2=>exact (Kd.R_reads' HO_762000.out).2.1);rintro e w29 ⟨v768,rfl,ho0,hb⟩;refine ⟨_,rfl,?_⟩;have HO769:=am (Kd.R_lower (Kd.R_new' ho0 (Kd.R_lt (rs HO_762000))) (below_size (bl HB)));replace HO_762000:=am (Kd.R_elder' (rs HO_762000) (Kd.R_base ho0) hb);replace BK761:=bkB BK761 hb;replace HB:=hbS HB hb;(try clear hb);(try clear ho0)) | ((with_reducible refine gD 7 rfl ?_);refine box_event rfl (N:=7) rfl (cs:=#[.slice none 0 0]) (t:=29) hr_ ?_;intro gb771 hg w30 hbox hb;replace HO_762000:=am (Kd.R_below (rs HO_762000) hb);replace HO769:=am (Kd.R_below (rs HO769) hb);have BK771:=am hbox;have GW771:=gwE HB hg;have GE771:=gwE HB hg;replace HB:=hbS HB hb;have NB761_771:=neL BK761 hg;have NB771_761:=neG BK761 hg;replace BK761:=bkB BK761 hb;clear hb hbox hg;obtain ⟨Ao31,co31,eo31⟩:=Kd.R_slice HO769.out;subst eo31;have:=NB771_761.out;have:=NB761_771.out;have hcz33_0:=bcell BK771 0;have hfz33_0:=blk_frozen BK771.out 0))
      go_loopg [9] kj6 (fun kq v9 w'=>∃ (x9_2 : Int),v9 = .int .i64 x9_2 ∧ Aside0 (laws_FnPosOut.l0 kq t759 t762 t770 x9_2 t756 = some r) ∧ Aside0 (kq ≤ kj6) ∧ Aside0 (Kd.R k55 55 w' w.heap.size (fun k_=>some k_ ≠ ((.slice Ao31 t767.length co31) : Value).ownBlock) (.slice Ao10 t756.length co10) t756) ∧ Aside0 (Kd.R k55 55 w' w.heap.size (fun k_=>some k_ ≠ ((.slice Ao10 t756.length co10) : Value).ownBlock) (.slice Ao31 t767.length co31) t767) ∧ Aside0 (w'.heap[gb761]? = some (.cells #[(.slice Ao10 t756.length co10)] 29 (0,0))) ∧ Aside0 (w'.heap[gb771]? = some (.cells #[(.slice Ao31 t767.length co31)] 29 (0,0))) ∧ Aside0 (Below w.heap.size w w'))
      case atStart=>exact ⟨(0),rs_,H',⟨Nat.le_refl _⟩,⟨by (with_reducible repeat apply ru);exact Kd.R_mono (Kd.R_far (p:=⟨gb771,0,none⟩) (Kd.R_types HO_762000.out BK771.out (by decide)) (fun _ hk=>hk.2) (.slice Ao31 t767.length co31)) (fun _ hk=>hk.1.2)⟩,⟨by (with_reducible repeat apply ru);exact Kd.R_mono (Kd.R_far (p:=⟨gb771,0,none⟩) (Kd.R_types HO769.out BK771.out (by decide)) (fun _ hk=>hk.2) (.slice Ao31 t767.length co31)) (fun _ hk=>hk.1.2)⟩,bf_ BK761,⟨by (with_reducible repeat refine bu ?_);refine blk_put (cs:=#[.slice none 0 0]) ?_ 0 _ rfl;(with_reducible repeat refine bu ?_);exact BK771.out⟩,⟨m2_⟩⟩
      case round=>
       clear H'
       try clear c1
       try clear c2
       try clear c2b0
       try clear c2b1
       try clear p2
       try clear c3
       try clear c6
       try clear c6b0
       try clear c6b1
       try clear c7
       try clear c12
       try clear c14
       try clear c16
       try clear c23
       try clear c24
       try clear c24b0
       try clear c24b1
       try clear c26
       try clear c30
       try clear c31
       try clear c32
       try clear hcz11_0
       try clear hcz13_0
       try clear hcz18_0
       try clear hcz21_0
       try clear hcz28_0
       try clear hcz33_0
       try clear hfz11_0
       try clear hfz13_0
       try clear hfz18_0
       try clear hfz21_0
       try clear hfz28_0
       try clear hfz33_0
       try clear p2
       obtain ⟨x9_2,rfl,HA,HK2,HO_762000,HO_772000,BK761,BK771,HB⟩:=hrel
       cases gk with
       | zero=>exact absurd HA.out (by simp [laws_FnPosOut.l0])
       | succ k2=>
        have H:=HA.out
        clear HA
        simp only [laws_FnPosOut.l0] at H
        by_cases c34 : x9_2 < (t759.size : Int)
        ·rw [if_pos c34] at H
         have c34b0 : decide (x9_2 < (t759.size : Int)) = true:=decide_eq_true c34
         clear c34
         obtain ⟨t773,A35,H⟩:=bse H
         try dsimp only at H
         obtain ⟨t774,A36,H⟩:=bse H
         try dsimp only at H
         by_cases c37 : t773 > t774
         ·rw [if_pos c37] at H
          have c37b0 : decide (t774 < t773) = true:=decide_eq_true c37
          clear c37
          exact absurd ((Option.some.inj H).trans hrt.out) (by decide)
         ·rw [if_neg c37] at H
          have c37b0 : decide (t774 < t773) = false:=decide_eq_false c37
          clear c37
          have H':=am H
          clear H
          try go_wp2
          replace HO_762000:=am (Kd.R_drew HO_762000.out)
          replace HO_772000:=am (Kd.R_drew HO_772000.out)
          replace BK761:=am (blk_drew BK761.out)
          replace BK771:=am (blk_drew BK771.out)
          replace HB:=am (below_drew1 HB.out)
          refine start_ (n:=10) (S:=fun w'=>w'.cell? ⟨gb761,0,none⟩ = some (.slice Ao10 t756.length co10)) (ds:=[]) #[false,false,false,false,false,false,false,false,false,false] (by kernel_rfl) rfl rfl (bcell BK761 0) (fun hHeld=>?_);refine with_tabW laws_FnPosOut.tab13 laws_FnPosOut.bits13 (fun HT_ HW_=>?_)
          generalize wr.drew = w38 at HO_762000 HO_772000 BK761 BK771 HB hHeld ⊢
          refine pu_ 1 (some 55) (bm 10 2) ?_
          refine pu_ 2 (some 56) (bm 10 6) ?_
          refine pu_ 5 (some 59) (bm 10 38) ?_
          refine pu_ 6 (some 60) (bm 10 102) ?_
          refine pu_ 7 (some 61) (bm 10 230) ?_
          refine take_ (i:=0) (N:=some 54) (v:=?_) (a':=?_) #[true,true,true,false,false,true,true,true,false,false] rfl rfl (take_ofW HT_.out HW_.out (by kernel_rfl)) (fun _ _ _ h=>h) (Or.inl ⟨by rfl,?_⟩) hHeld ?_ ?_
          rotate_left
          ·intro w' s0
           go_simp
           with_reducible rfl
          rotate_left
          ·simp only [Act.put,List.setIfInBounds_toArray,List.set_cons_zero,List.set_cons_succ,i64_w,i32_w]
           rfl
          refine take_ (i:=4) (N:=some 58) (v:=?_) (a':=?_) #[true,true,true,false,true,true,true,true,false,false] rfl rfl (take_ofW HT_.out HW_.out (by kernel_rfl)) (fun _ _ _ h=>h) (Or.inl ⟨by rfl,?_⟩) hHeld ?_ ?_
          rotate_left
          ·intro w' s0
           go_simp
           with_reducible rfl
          rotate_left
          ·simp only [Act.put,List.setIfInBounds_toArray,List.set_cons_zero,List.set_cons_succ,i64_w,i32_w]
           rfl
          refine on_ 3 (some 57) (bm 10 255) (fun K hK=>?_)
          refine gR Tryz.func14 #[.agg #[.slice Ao10 t756.length co10],.string t759,.int .i64 x9_2] ?_
          with_reducible refine (impl_PosOut.calls k2 _ _ t756 t759 x9_2 t773 _ ?side1 ?side2 A35.out (EnvE.below hE (bl HB))).mono ?_
          (case side1=>exact rcx HO_762000)
          (case side2=>exact (Kd.R_reads' HO_762000.out).2.1)
          rintro e w39 ⟨rfl,hb⟩
          refine ⟨_,rfl,?_⟩
          replace HO_762000:=am (Kd.R_below (rs HO_762000) hb)
          replace HO_772000:=am (Kd.R_below (rs HO_772000) hb)
          replace BK761:=bkB BK761 hb
          replace BK771:=bkB BK771 hb
          replace HB:=hbS HB hb
          (try clear hb)
          (try clear hb2)
          (try clear hk)
          (try clear hi)
          refine hK.out _ _ (bcell BK761 0) (fun hHeld=>?_)
          clear hK K
          refine nm_ ?_
          refine on_ 8 (some 62) (bm 10 511) (fun K hK=>?_)
          refine gR Tryz.func14 #[.agg #[.slice Ao10 t756.length co10],.string t759,.int .i64 (wrap64 (x9_2 + 1))] ?_
          with_reducible refine (impl_PosOut.calls k2 _ _ t756 t759 (wrap64 (x9_2 + 1)) t774 _ ?side1 ?side2 A36.out (EnvE.below hE (bl HB))).mono ?_
          (case side1=>exact rcx HO_762000)
          (case side2=>exact (Kd.R_reads' HO_762000.out).2.1)
          rintro e w40 ⟨rfl,hb⟩
          refine ⟨_,rfl,?_⟩
          replace HO_762000:=am (Kd.R_below (rs HO_762000) hb)
          replace HO_772000:=am (Kd.R_below (rs HO_772000) hb)
          replace BK761:=bkB BK761 hb
          replace BK771:=bkB BK771 hb
          replace HB:=hbS HB hb
          (try clear hb)
          (try clear hb2)
          (try clear hk)
          (try clear hi)
          refine hK.out _ _ (bcell BK761 0) (fun hHeld=>?_)
          clear hK K
          refine nm_ ?_
          refine pu_ 9 (some 63) (bm 10 1023) ?_
          refine done_ (done_of HT_.out (by kernel_rfl)) ?_
          try go_wp2
          go_roundg k2
          case measure=>have:=HJ6.out;have:=HK2.out;omega
          case rel=>exact ⟨(wrap64 (x9_2 + 1)),rs_,H',⟨by have:=HJ6.out;have:=HK2.out;omega⟩,⟨by (with_reducible repeat apply ru);exact HO_762000.out⟩,⟨by (with_reducible repeat apply ru);exact HO_772000.out⟩,⟨bk BK761⟩,⟨bk BK771⟩,⟨m2_⟩⟩
        ·rw [if_neg c34] at H
         have c34b0 : decide (x9_2 < (t759.size : Int)) = false:=decide_eq_false c34
         clear c34
         by_cases c41 : t762 ≥ 0
         ·rw [if_pos c41] at H
          have c41b0 : decide (0 ≤ t762) = true:=decide_eq_true c41
          clear c41
          by_cases c42 : t762 ≤ (t770.size : Int)
          ·rw [if_pos c42] at H
           have c42b0 : decide (t762 ≤ (t770.size : Int)) = true:=decide_eq_true c42
           clear c42
           obtain ⟨t772,A43,H⟩:=bse H
           try dsimp only at H
           obtain rfl:=Option.some.inj H
           have:=NB761_771.out
           have:=NB771_761.out
           have:=bcell BK761 0
           have:=bfz BK761 0
           go_wp2_with (first | (go_at_call 14;(with_reducible refine (impl_PosOut.calls k2 _ _ t756 t759 (t759.size : Int) t772 _ ?side1 ?side2 A43.out (EnvE.below hE (bl HB))).mono ?_);(case side1=>exact rcx HO_762000);(case side2=>exact (Kd.R_reads' HO_762000.out).2.1);rintro e w46 ⟨rfl,hb⟩;replace HO_762000:=am (Kd.R_below (rs HO_762000) hb);replace HO_772000:=am (Kd.R_below (rs HO_772000) hb);replace BK761:=bkB BK761 hb;replace BK771:=bkB BK771 hb;replace HB:=hbS HB hb;(try clear hb)))
           go_ret
           exact ⟨fi_,m2_⟩
          ·rw [if_neg c42] at H
           have c42b0 : decide (t762 ≤ (t770.size : Int)) = false:=decide_eq_false c42
           clear c42
           exact absurd ((Option.some.inj H).trans hrt.out) (by decide)
         ·rw [if_neg c41] at H
          have c41b0 : decide (0 ≤ t762) = false:=decide_eq_false c41
          clear c41
          exact absurd ((Option.some.inj H).trans hrt.out) (by decide)
  ·rw [if_neg c6] at H
   have c6b0 : (t762 == t763) = false:=beq_eq_false_iff_ne.mpr c6
   have c6b1 : (t762 != t763) = true:=bne_iff_ne.mpr c6
   exact absurd ((Option.some.inj H).trans hrt.out) (by decide)
def laws_FnPosOut.Pure : Prop:=∀ (l0 : List Int),l0.length ≤ maxLen → l0.length * 1 ≤ 140737488351232 → (∀ x ∈ l0,(Lit.int .u8 x).wf = true) → ∃ k,laws_FnPosOut.f k l0 = some true
theorem laws_FnPosOut.walk (P : laws_FnPosOut.Pure) (a0 : Option Addr) (len0 cap0 : Nat) (z0 : List Int) (w : World) (w0 : (a0 = none ∧ len0 = 0 ∧ cap0 = 0 ∧ z0 = []) ∨ ∃ x,a0 = some x ∧ len0 ≤ cap0 ∧ cap0 ≤ maxLen ∧ z0.length = cap0 ∧ (∀ i,i < z0.length → w.cell? (x.add i) = some (.int .u8 (z0.getD i 0))) ∧ ∀ n ∈ z0,(Lit.int .u8 n).wf = true) (y0 : len0 * 1 ≤ 140737488351232) (hE : EnvE w) :
  Calls Tryz.prog 7 #[.slice a0 len0 cap0] w fun e w'=>e = .returned (.bool true) ∧ Below w.heap.size w w':=by
 obtain ⟨l0,rfl,hr0,hm0,hw0,hc0⟩:=ReadsInt.ofRowC w0
 obtain ⟨k,h⟩:=P l0 hm0 y0 hw0
 refine (laws_FnPosOut.calls k _ _ l0 true w (Kd.C_of_reads (d:=(0 : Int)) (h1:=fun _=>rfl) hr0) hc0 h ⟨rfl⟩ hE).mono ?_
 rintro e w' ⟨rfl,hd⟩
 exact ⟨rfl,hd⟩
end
theorem laws_FnPosOut.pure : laws_FnPosOut.Pure:=by
  intro l0 _ _ hw0
  have hb0 : Bys l0:=bys_of hw0
  have J : ∀ (s : ByteArray) (t : List S55),Ans (fun k=>laws_FnPosOut.j0 k s 0 true t) (fun v=>v = true):=by
    intro s t
    refine Ans.succ ?_
    unfold laws_FnPosOut.j0
    refine Ans.pos rfl (Ans.pos rfl ?_)
    rw [haOk_f]
    exact Ans.bsome (Ans.pure rfl)
  have A : Ans (fun k=>laws_FnPosOut.f k l0) (fun r=>r = true):=by
    unfold laws_FnPosOut.f
    refine Ans.ite (fun _=>Ans.pure rfl) (fun _=>?_)
    refine Ans.bind (drawPosOut_a hb0) ?_
    rintro ⟨t,s,x⟩ ⟨ht,hs⟩
    dsimp only at *
    refine Ans.bind (implPosOut_a t (by omega) s (by omega) x) ?_
    rintro _ rfl
    refine Ans.bind (specPosOut_a t (by omega) s (by omega) x) ?_
    rintro _ rfl
    refine Ans.pos rfl (Ans.bind (specMapOk_a t (by omega)) ?_)
    rintro _ rfl
    cases c : okT t with
    | false=>rw [posL_no1 c,outW_nil];exact Ans.neg (by simp) (J s t)
    | true=>
      refine Ans.pos rfl (Ans.bind (specStrOk_a s (by omega)) ?_)
      rintro _ rfl
      cases cs : strOkW s with
      | false=>rw [posL_no2 cs,outW_nil];exact J s t
      | true=>
        obtain ⟨F,O,T,eF,eO,_,hF,hs120,_,o1,o2,o3,t1,t2,t3,t4⟩:=pos_facts c cs
        have O3:=Lib.hid o3
        clear o3 t1 t2 t3 t4
        refine Ans.succ ?_
        unfold laws_FnPosOut.j0
        refine Ans.neg (by simp) (Ans.bind (implRwrStream_a t (by omega) s (by omega)) ?_)
        rintro _ rfl
        rw [rwrStream_ok c cs,eF,eO]
        dsimp only
        have G : ∀ x,Ans (fun k=>impl_PosOut.f k t s x) (fun r=>r = O x):=fun x=>by rw [← eO];exact implPosOut_a t (by omega) s (by omega) x
        clear eF eO
        have L : ∀ (m i : Nat),s.size - i = m → i ≤ s.size → Ans (fun k=>laws_FnPosOut.l0 k s (O x) F (i : Int) t) (fun v=>v = true):=by
          intro m
          induction m with
          | zero=>
            intro i hm hi
            refine Ans.succ ?_
            unfold laws_FnPosOut.l0
            refine Ans.neg (by omega) (Ans.pos (o1 x).1 (Ans.pos (o1 x).2 (Ans.bind (G _) ?_)))
            rintro _ rfl
            rw [O3.out]
            exact Ans.pure (by simp)
          | succ m ih=>
            intro i hm hi
            refine Ans.succ ?_
            unfold laws_FnPosOut.l0
            rw [show wrap64 ((i : Int) + 1) = ((i + 1 : Nat) : Int) from w64 _ (by omega)]
            refine Ans.pos (by omega) (Ans.bind (G _) ?_)
            rintro _ rfl
            refine Ans.bind (G _) ?_
            rintro _ rfl
            exact Ans.neg (Int.not_lt.mpr (o2 _ _ (by omega))) (ih (i + 1) (by omega) (by omega))
        exact L _ 0 rfl (Nat.zero_le _)
  obtain ⟨k,v,rfl,h⟩:=A.got
  exact ⟨k,h⟩
end Go.Proofs.YtakfmcpjnkagmaaGreatDoor.P
namespace Go.Proofs.YtakfmcpjnkagmaaGreatDoor.Pure
theorem FnPosOut : P.laws_FnPosOut.Pure:=P.laws_FnPosOut.pure
end Go.Proofs.YtakfmcpjnkagmaaGreatDoor.Pure
