import Derived.Test.YtakfmcpjnkagmaaGreatDoorGPosAllx6
namespace Go.Proofs.YtakfmcpjnkagmaaGreatDoor.P
open Go.Proofs.YtakfmcpjnkagmaaGreatDoorUPosAll.PrintLast Go.Proofs.YtakfmcpjnkagmaaGreatDoorUPosAll.PrintMore Go.Proofs.YtakfmcpjnkagmaaGreatDoorUPosAll.PrintWords Go.RowKit
set_option linter.unusedVariables false
set_option linter.unusedSimpArgs false
section
attribute [local go_sem] max2_int min2_int max_two min_two max_three min_three max_four min_four
def impl_PosSpans.f (k : Nat) (l0_0 : List (S55)) (a1 : ByteArray) : Option ((List (S50))):=(impl_ofStream.f k l0_0 a1).bind fun t494=>(some t494)
theorem impl_PosSpans.mono : ∀ a0 a1 k,LeO (impl_PosSpans.f k a0 a1) (impl_PosSpans.f (k + 1) a0 a1):=by
 intro a0 a1 k
 unfold impl_PosSpans.f
 repeat' first | (with_reducible first | exact impl_ofStream.mono _ _ _ | exact LeO.refl _ | exact LeO.none _ | refine LeO.ite ?_ ?_ | refine LeO.bind ?_ (fun _=>?_)) | exact impl_ofStream.mono _ _ _ | exact LeO.none _ | refine LeO.ite ?_ ?_ | refine LeO.bind ?_ (fun _=>?_)
set_option maxHeartbeats 8000000 in
set_option maxRecDepth 100000 in
theorem impl_PosSpans.calls (k : Nat) (A0_0 : Option Addr) (c0_0 : Nat) (l0_0 : List (S55)) (a1 : ByteArray) (r : List (S50)) (w : World) (hr0_0 : Kd.C k55 w A0_0 l0_0.length l0_0) (hc0_0 : l0_0.length ≤ c0_0) (h : impl_PosSpans.f k l0_0 a1 = some r) (hE : EnvE w) :
  Calls Tryz.prog 19 #[.agg #[.slice A0_0 l0_0.length c0_0],.string a1] w fun e w'=>∃ v0_ : Value,e = .returned (v0_) ∧ Kd.R k50 50 w' w.heap.size (fun _=>True) v0_ r ∧ Below w.heap.size w w':=by
 have hu29:=Tryz.underlying29
 have HR0_0:=am hr0_0
 have HC0_0:=am hc0_0
 clear hr0_0 hc0_0
 have HB:=am (Below.refl w.heap.size w)
 have H : ((impl_ofStream.f k l0_0 a1).bind fun t494=>(some t494)) = some r:=h
 clear h
 obtain ⟨t494,A3,H⟩:=bse H
 try dsimp only at H
 obtain rfl:=Option.some.inj H
 go_enter Tryz.func19,Tryz.ntmps19
 go_wp2_with (first | ((with_reducible refine gD 2 rfl ?_);refine box_event rfl (N:=2) rfl (cs:=#[.slice A0_0 l0_0.length c0_0]) (t:=29) hr_ ?_;intro gb493 hg w4 hbox hb;have BK493:=am hbox;have GW493:=gwE HB hg;have GE493:=gwE HB hg;replace HB:=hbS HB hb;clear hb hbox hg;have:=bcell BK493 0;have:=bfz BK493 0) | ((with_reducible refine gC 37 rfl ?_);refine gL (some 7) Tryz.func37 #[.agg #[.slice A0_0 l0_0.length c0_0],.string a1] ?_;(with_reducible refine (impl_ofStream.calls k _ _ l0_0 a1 t494 _ ?side1 ?side2 A3.out (EnvE.below hE (bl HB))).mono ?_);(case side1=>exact m3_);(case side2=>exact HC0_0.out);rintro e w6 ⟨v495,rfl,ho0,hb⟩;refine ⟨_,rfl,?_⟩;have HO496:=am (Kd.R_lower ho0 (below_size (bl HB)));replace BK493:=bkB BK493 hb;replace HB:=hbS HB hb;(try clear hb);(try clear ho0)))
 go_ret
 exact ⟨_,fi_,by (with_reducible repeat apply ru);exact HO496.out,m2_⟩
mutual
def laws_FnPosBack.j0 : Nat → ByteArray → Int → Bool → List (S55) → Option (Bool)
 | 0,_,_,_,_=>none
 | k + 1,x4,x6,x39,x835000=>if x39 = true then (if x6 = 0 then ((laws_haOk.f).bind fun t839=>(some t839)) else (some false)) else ((impl_RwrStream.f k x835000 x4).bind fun bt840=>(laws_FnPosBack.l0 k x4 x6 bt840.2 0 x835000))
def laws_FnPosBack.l0 : Nat → ByteArray → Int → ByteArray → Int → List (S55) → Option (Bool)
 | 0,_,_,_,_,_=>none
 | k + 1,x4,x6,x8,x9,x835000=>if x9 < (x8.size : Int) then ((impl_PosBack.f k x835000 x4 x9).bind fun t853=>((impl_PosBack.f k x835000 x4 (wrap64 (x9 + 1))).bind fun t854=>(if t853 > t854 then (some false) else ((impl_PosOut.f k x835000 x4 t853).bind fun t855=>(if t855 > x9 then (some false) else (laws_FnPosBack.l0 k x4 x6 x8 (wrap64 (x9 + 1)) x835000)))))) else ((impl_StrLines.f x4).bind fun bt845=>(if x6 ≥ 0 then (if x6 ≤ (wrap64 ((x4.size : Int) - (bt845.2.size : Int))) then ((impl_PosBack.f k x835000 x4 (x8.size : Int)).bind fun t849=>(if t849 = (wrap64 ((x4.size : Int) - (bt845.2.size : Int))) then ((impl_PosSpans.f k x835000 x4).bind fun t850=>(some ((bt845.1.length : Int) == (t850.length : Int)))) else (some false))) else (some false)) else (some false)))
end
def laws_FnPosBack.f (k : Nat) (l0 : List Int) : Option (Bool):=if (l0.length : Int) > 1048576 then (some true) else ((spec_DrawPosBack.f k l0).bind fun bt829=>((impl_PosBack.f k bt829.1 bt829.2.1 bt829.2.2).bind fun t835=>((spec_PosBack.f k bt829.1 bt829.2.1 bt829.2.2).bind fun t836=>(if t835 = t836 then ((spec_MapOk.f k bt829.1).bind fun t837=>(if t837 = true then ((spec_StrOk.f k bt829.2.1).bind fun t838=>(laws_FnPosBack.j0 k bt829.2.1 t835 (!t838) bt829.1)) else (laws_FnPosBack.j0 k bt829.2.1 t835 true bt829.1))) else (some false)))))
theorem laws_FnPosBack.mono_l : ∀ k,(∀ y0 y1 y2 y3,LeO (laws_FnPosBack.j0 k y0 y1 y2 y3) (laws_FnPosBack.j0 (k + 1) y0 y1 y2 y3)) ∧ (∀ y0 y1 y2 y3 y4,LeO (laws_FnPosBack.l0 k y0 y1 y2 y3 y4) (laws_FnPosBack.l0 (k + 1) y0 y1 y2 y3 y4))
 | 0=>⟨fun _ _ _ _ r h=>by simp [laws_FnPosBack.j0] at h,fun _ _ _ _ _ r h=>by simp [laws_FnPosBack.l0] at h⟩
 | k + 1=>by
  obtain ⟨ih0,ih1⟩:=laws_FnPosBack.mono_l k
  refine ⟨?_,?_⟩
  ·intro y0 y1 y2 y3
   unfold laws_FnPosBack.j0
   repeat' first | (with_reducible first | exact ih0 _ _ _ _ | exact ih1 _ _ _ _ _ | exact impl_PosBack.mono _ _ _ _ | exact impl_PosOut.mono _ _ _ _ | exact impl_PosSpans.mono _ _ _ | exact impl_RwrStream.mono _ _ _ | exact spec_DrawPosBack.mono _ _ | exact spec_MapOk.mono _ _ | exact spec_PosBack.mono _ _ _ _ | exact spec_StrOk.mono _ _ | exact LeO.refl _ | exact LeO.none _ | refine LeO.ite ?_ ?_ | refine LeO.bind ?_ (fun _=>?_)) | exact ih0 _ _ _ _ | exact ih1 _ _ _ _ _ | exact impl_PosBack.mono _ _ _ _ | exact impl_PosOut.mono _ _ _ _ | exact impl_PosSpans.mono _ _ _ | exact impl_RwrStream.mono _ _ _ | exact spec_DrawPosBack.mono _ _ | exact spec_MapOk.mono _ _ | exact spec_PosBack.mono _ _ _ _ | exact spec_StrOk.mono _ _ | exact LeO.none _ | refine LeO.ite ?_ ?_ | refine LeO.bind ?_ (fun _=>?_)
  ·intro y0 y1 y2 y3 y4
   unfold laws_FnPosBack.l0
   repeat' first | (with_reducible first | exact ih0 _ _ _ _ | exact ih1 _ _ _ _ _ | exact impl_PosBack.mono _ _ _ _ | exact impl_PosOut.mono _ _ _ _ | exact impl_PosSpans.mono _ _ _ | exact impl_RwrStream.mono _ _ _ | exact spec_DrawPosBack.mono _ _ | exact spec_MapOk.mono _ _ | exact spec_PosBack.mono _ _ _ _ | exact spec_StrOk.mono _ _ | exact LeO.refl _ | exact LeO.none _ | refine LeO.ite ?_ ?_ | refine LeO.bind ?_ (fun _=>?_)) | exact ih0 _ _ _ _ | exact ih1 _ _ _ _ _ | exact impl_PosBack.mono _ _ _ _ | exact impl_PosOut.mono _ _ _ _ | exact impl_PosSpans.mono _ _ _ | exact impl_RwrStream.mono _ _ _ | exact spec_DrawPosBack.mono _ _ | exact spec_MapOk.mono _ _ | exact spec_PosBack.mono _ _ _ _ | exact spec_StrOk.mono _ _ | exact LeO.none _ | refine LeO.ite ?_ ?_ | refine LeO.bind ?_ (fun _=>?_)
theorem laws_FnPosBack.mono : ∀ a0 k,LeO (laws_FnPosBack.f k a0) (laws_FnPosBack.f (k + 1) a0):=by
 intro a0 k
 obtain ⟨ih0,ih1⟩:=laws_FnPosBack.mono_l k
 unfold laws_FnPosBack.f
 repeat' first | (with_reducible first | exact ih0 _ _ _ _ | exact ih1 _ _ _ _ _ | exact impl_PosBack.mono _ _ _ _ | exact impl_PosOut.mono _ _ _ _ | exact impl_PosSpans.mono _ _ _ | exact impl_RwrStream.mono _ _ _ | exact spec_DrawPosBack.mono _ _ | exact spec_MapOk.mono _ _ | exact spec_PosBack.mono _ _ _ _ | exact spec_StrOk.mono _ _ | exact LeO.refl _ | exact LeO.none _ | refine LeO.ite ?_ ?_ | refine LeO.bind ?_ (fun _=>?_)) | exact ih0 _ _ _ _ | exact ih1 _ _ _ _ _ | exact impl_PosBack.mono _ _ _ _ | exact impl_PosOut.mono _ _ _ _ | exact impl_PosSpans.mono _ _ _ | exact impl_RwrStream.mono _ _ _ | exact spec_DrawPosBack.mono _ _ | exact spec_MapOk.mono _ _ | exact spec_PosBack.mono _ _ _ _ | exact spec_StrOk.mono _ _ | exact LeO.none _ | refine LeO.ite ?_ ?_ | refine LeO.bind ?_ (fun _=>?_)
set_option maxHeartbeats 8000000 in
set_option maxRecDepth 100000 in
theorem laws_FnPosBack.calls (k : Nat) (A0 : Option Addr) (c0 : Nat) (l0 : List Int) (r : Bool) (w : World) (hr0 : Kd.C (Kd.int .u8) w A0 l0.length l0) (hc0 : l0.length ≤ c0) (h : laws_FnPosBack.f k l0 = some r) (hrt : Aside0 (r = true)) (hE : EnvE w) :
  Calls Tryz.prog 10 #[.slice A0 l0.length c0] w fun e w'=>e = .returned (.bool r) ∧ Below w.heap.size w w':=by
 have hu29:=Tryz.underlying29
 have HR0:=am hr0
 have HC0:=am hc0
 clear hr0 hc0
 have HB:=am (Below.refl w.heap.size w)
 have H : (if (l0.length : Int) > 1048576 then (some true) else ((spec_DrawPosBack.f k l0).bind fun bt829=>((impl_PosBack.f k bt829.1 bt829.2.1 bt829.2.2).bind fun t835=>((spec_PosBack.f k bt829.1 bt829.2.1 bt829.2.2).bind fun t836=>(if t835 = t836 then ((spec_MapOk.f k bt829.1).bind fun t837=>(if t837 = true then ((spec_StrOk.f k bt829.2.1).bind fun t838=>(laws_FnPosBack.j0 k bt829.2.1 t835 (!t838) bt829.1)) else (laws_FnPosBack.j0 k bt829.2.1 t835 true bt829.1))) else (some false)))))) = some r:=h
 clear h
 by_cases c2 : (l0.length : Int) > 1048576
 ·rw [if_pos c2] at H
  have c2b0 : decide (1048576 < (l0.length : Int)) = true:=decide_eq_true c2
  have c2b1 : decide (1048576 < l0.length) = true:=decide_eq_true (by omega)
  clear c2
  obtain rfl:=Option.some.inj H
  go_enter Tryz.func10,Tryz.ntmps10
  go_wp2
  go_ret
  exact ⟨fi_,m0_⟩
 ·rw [if_neg c2] at H
  have c2b0 : decide (1048576 < (l0.length : Int)) = false:=decide_eq_false c2
  have c2b1 : decide (1048576 < l0.length) = false:=decide_eq_false (by omega)
  clear c2
  obtain ⟨⟨t829,t832,t833⟩,A3,H⟩:=bse H
  try dsimp only at H
  obtain ⟨t835,A4,H⟩:=bse H
  try dsimp only at H
  obtain ⟨t836,A5,H⟩:=bse H
  try dsimp only at H
  by_cases c6 : t835 = t836
  ·rw [if_pos c6] at H
   have c6b0 : (t835 == t836) = true:=beq_iff_eq.mpr c6
   have c6b1 : (t835 != t836) = false:=bne_eq_false_iff_eq.mpr c6
   clear c6
   have HC7:=am H
   clear H
   go_enter Tryz.func10,Tryz.ntmps10
   go_upto_region 7 with (first | ((with_reducible refine gC 32 rfl ?_);refine gL (some 18) Tryz.func32 #[.slice A0 l0.length c0] ?_;(with_reducible refine (spec_DrawPosBack.calls k _ _ l0 t829 t832 t833 _ ?side1 ?side2 A3.out).mono ?_);(case side1=>exact m1_);(case side2=>exact HC0.out);rintro e w8 ⟨v830,rfl,ho0,hb⟩;refine ⟨_,rfl,?_⟩;have HO831:=am (Kd.R_lower ho0 (below_size (bl HB)));replace HB:=hbS HB hb;(try clear hb);(try clear ho0)) | ((with_reducible refine gD 3 rfl ?_);refine box_event rfl (N:=3) rfl (cs:=#[.slice none 0 0]) (t:=29) hr_ ?_;intro gb834 hg w9 hbox hb;replace HO831:=am (Kd.R_below (rs HO831) hb);have BK834:=am hbox;have GW834:=gwE HB hg;have GE834:=gwE HB hg;replace HB:=hbS HB hb;clear hb hbox hg;obtain ⟨Ao10,co10,eo10⟩:=Kd.R_slice HO831.out;subst eo10;have hcz11_0:=bcell BK834 0;have hfz11_0:=blk_frozen BK834.out 0) | ((with_reducible refine gC 17 rfl ?_);refine gL (some 25) Tryz.func17 #[.agg #[.slice Ao10 t829.length co10],.string t832,.int .i64 t833] ?_;(with_reducible refine (impl_PosBack.calls k _ _ t829 t832 t833 t835 _ ?side1 ?side2 A4.out (EnvE.below hE (bl HB))).mono ?_);(case side1=>refine (Kd.R_reads' (e:=55) (base:=w.heap.size) (ok:=fun k_=>True) (n:=t829.length) (c:=co10) ?_).2.2;exact (by (with_reducible repeat apply ru);exact (Kd.R_mono (Kd.R_far (p:=⟨gb834,0,none⟩) (Kd.R_types HO831.out BK834.out (by decide)) (fun _ hk=>hk.2) (.slice Ao10 t829.length co10)) (fun _ h_=>h_.1))));(case side2=>exact (Kd.R_reads' HO831.out).2.1);rintro e w12 ⟨rfl,hb⟩;refine ⟨_,rfl,?_⟩;replace HO831:=am (Kd.R_below (by (with_reducible repeat apply ru);exact (Kd.R_mono (Kd.R_far (p:=⟨gb834,0,none⟩) (Kd.R_types HO831.out BK834.out (by decide)) (fun _ hk=>hk.2) (.slice Ao10 t829.length co10)) (fun _ h_=>h_.1))) hb);replace BK834:=am (blk_below (g:=gb834) (o:=.cells #[.slice Ao10 t829.length co10] 29 (0,0)) (by (with_reducible repeat refine bu ?_);refine blk_put (cs:=#[.slice none 0 0]) ?_ 0 _ rfl;(with_reducible repeat refine bu ?_);exact BK834.out) hb);replace HB:=hbS HB hb;(try clear hb);(try clear hk);have hcz13_0:=bcell BK834 0;have hfz13_0:=blk_frozen BK834.out 0) | ((with_reducible refine gC 16 rfl ?_);refine gL (some 30) Tryz.func16 #[.agg #[.slice Ao10 t829.length co10],.string t832,.int .i64 t833] ?_;(with_reducible refine (spec_PosBack.calls k _ _ t829 t832 t833 t836 _ ?side1 ?side2 A5.out).mono ?_);(case side1=>exact rcx HO831);(case side2=>exact (Kd.R_reads' HO831.out).2.1);rintro e w14 ⟨rfl,hb⟩;refine ⟨_,rfl,?_⟩;replace HO831:=am (Kd.R_below (rs HO831) hb);replace BK834:=bkB BK834 hb;replace HB:=hbS HB hb;(try clear hb)))
   (try simp only [Act.put,List.setIfInBounds_toArray,List.set_cons_zero,List.set_cons_succ])
   go_cut [39] (fun v39 wc=>∃ (kq : Nat) (x39_6 : Bool),v39 = .bool x39_6 ∧ Aside0 (laws_FnPosBack.j0 kq t832 t835 x39_6 t829 = some r) ∧ Aside0 (kq ≤ k) ∧ Aside0 (Kd.R k55 55 wc w.heap.size (fun _=>True) (.slice Ao10 t829.length co10) t829) ∧ Aside0 (wc.heap[gb834]? = some (.cells #[(.slice Ao10 t829.length co10)] 29 (0,0))) ∧ Aside0 (Below w.heap.size w wc))
   case first=>
    have H:=HC7.out
    clear HC7
    obtain ⟨t837,A15,H⟩:=bse H
    try dsimp only at H
    by_cases c16 : t837 = true
    ·subst c16
     have H1 : ((spec_StrOk.f k t832).bind fun t838=>(laws_FnPosBack.j0 k t832 t835 (!t838) t829)) = some r:=by rw [if_pos rfl] at H;exact H
     clear H
     have H:=H1
     clear H1
     obtain ⟨t838,A17,H⟩:=bse H
     try dsimp only at H
     have H':=am H
     clear H
     have hcz18_0:=bcell BK834 0
     have hfz18_0:=blk_frozen BK834.out 0
     go_wp2_with (first | ((with_reducible refine gC 26 rfl ?_);refine gL (some 33) Tryz.func26 #[.agg #[.slice Ao10 t829.length co10]] ?_;(with_reducible refine (spec_MapOk.calls k _ _ t829 true _ ?side1 ?side2 A15.out).mono ?_);(case side1=>exact rcx HO831);(case side2=>exact (Kd.R_reads' HO831.out).2.1);rintro e w19 ⟨rfl,hb⟩;refine ⟨_,rfl,?_⟩;replace HO831:=am (Kd.R_below (rs HO831) hb);replace BK834:=bkB BK834 hb;replace HB:=hbS HB hb;(try clear hb)) | (go_at_call 27;(with_reducible refine (spec_StrOk.calls k t832 t838 _ A17.out).mono ?_);rintro e w20 ⟨rfl,hb⟩;replace HO831:=am (Kd.R_below (rs HO831) hb);replace BK834:=bkB BK834 hb;replace HB:=hbS HB hb;(try clear hb)))
     go_meet
     case rel=>exact ⟨_,(!t838),rs_,H',⟨by first | omega | exact Nat.le_refl _⟩,⟨by (with_reducible repeat apply ru);exact HO831.out⟩,⟨bk BK834⟩,⟨m2_⟩⟩
    ·replace c16:=Bool.eq_false_iff.mpr c16
     subst c16
     have H1 : (laws_FnPosBack.j0 k t832 t835 true t829) = some r:=by rw [if_neg (show ¬ (false = true) by decide)] at H;exact H
     clear H
     have H:=H1
     clear H1
     have H':=am H
     clear H
     have hcz21_0:=bcell BK834 0
     have hfz21_0:=blk_frozen BK834.out 0
     go_wp2_with (first | ((with_reducible refine gC 26 rfl ?_);refine gL (some 33) Tryz.func26 #[.agg #[.slice Ao10 t829.length co10]] ?_;(with_reducible refine (spec_MapOk.calls k _ _ t829 false _ ?side1 ?side2 A15.out).mono ?_);(case side1=>exact rcx HO831);(case side2=>exact (Kd.R_reads' HO831.out).2.1);rintro e w22 ⟨rfl,hb⟩;refine ⟨_,rfl,?_⟩;replace HO831:=am (Kd.R_below (rs HO831) hb);replace BK834:=bkB BK834 hb;replace HB:=hbS HB hb;(try clear hb)))
     go_meet
     case rel=>exact ⟨_,(true),rs_,H',⟨by first | omega | exact Nat.le_refl _⟩,⟨by (with_reducible repeat apply ru);exact HO831.out⟩,⟨bk BK834⟩,⟨m2_⟩⟩
   case rest=>
    clear HC7
    try clear c1
    try clear c2
    try clear c2b0
    try clear c2b1
    try clear p2
    try clear c3
    try clear c6
    try clear c6b0
    try clear c6b1
    try clear c10
    try clear c16
    try clear c17
    try clear hcz11_0
    try clear hcz13_0
    try clear hcz18_0
    try clear hcz21_0
    try clear hfz11_0
    try clear hfz13_0
    try clear hfz18_0
    try clear hfz21_0
    obtain ⟨kq,x39_6,rfl,HA,HJ6,HO_835000,BK834,HB⟩:=hcut
    cases kq with
    | zero=>exact absurd HA.out (by simp [laws_FnPosBack.j0])
    | succ kj6=>
     have H:=HA.out
     clear HA
     simp only [laws_FnPosBack.j0] at H
     by_cases c23 : x39_6 = true
     ·subst c23
      have H1 : (if t835 = 0 then ((laws_haOk.f).bind fun t839=>(some t839)) else (some false)) = some r:=by rw [if_pos rfl] at H;exact H
      clear H
      have H:=H1
      clear H1
      by_cases c24 : t835 = 0
      ·rw [if_pos c24] at H
       have c24b0 : (t835 == 0) = true:=beq_iff_eq.mpr c24
       have c24b1 : (t835 != 0) = false:=bne_eq_false_iff_eq.mpr c24
       clear c24
       obtain ⟨t839,A25,H⟩:=bse H
       try dsimp only at H
       obtain rfl:=Option.some.inj H
       go_wp2_with (first | (go_at_call 28;(with_reducible refine (laws_haOk.calls  t839 _ A25.out).mono ?_);rintro e w26 ⟨rfl,hb⟩;replace HO_835000:=am (Kd.R_below (rs HO_835000) hb);replace BK834:=bkB BK834 hb;replace HB:=hbS HB hb;(try clear hb)))
       go_ret
       exact ⟨fi_,m2_⟩
      ·rw [if_neg c24] at H
       have c24b0 : (t835 == 0) = false:=beq_eq_false_iff_ne.mpr c24
       have c24b1 : (t835 != 0) = true:=bne_iff_ne.mpr c24
       exact absurd ((Option.some.inj H).trans hrt.out) (by decide)
     ·replace c23:=Bool.eq_false_iff.mpr c23
      subst c23
      have H1 : ((impl_RwrStream.f kj6 t829 t832).bind fun bt840=>(laws_FnPosBack.l0 kj6 t832 t835 bt840.2 0 t829)) = some r:=by rw [if_neg (show ¬ (false = true) by decide)] at H;exact H
      clear H
      have H:=H1
      clear H1
      obtain ⟨⟨t840,t843⟩,A27,H⟩:=bse H
      try dsimp only at H
      have H':=am H
      clear H
      have hcz28_0:=bcell BK834 0
      have hfz28_0:=blk_frozen BK834.out 0
      go_wp2_with (first | ((with_reducible refine gC 30 rfl ?_);refine gL (some 48) Tryz.func30 #[.agg #[.slice Ao10 t829.length co10],.string t832] ?_;(with_reducible refine (impl_RwrStream.calls kj6 _ _ t829 t832 t840 t843 _ ?side1 ?side2 A27.out (EnvE.below hE (bl HB))).mono ?_);(case side1=>exact rcx HO_835000);(case side2=>exact (Kd.R_reads' HO_835000.out).2.1);rintro e w29 ⟨v841,rfl,ho0,hb⟩;refine ⟨_,rfl,?_⟩;have HO842:=am (Kd.R_lower (Kd.R_new' ho0 (Kd.R_lt (rs HO_835000))) (below_size (bl HB)));replace HO_835000:=am (Kd.R_elder' (rs HO_835000) (Kd.R_base ho0) hb);replace BK834:=bkB BK834 hb;replace HB:=hbS HB hb;(try clear hb);(try clear ho0)) | ((with_reducible refine gD 7 rfl ?_);refine box_event rfl (N:=7) rfl (cs:=#[.slice none 0 0]) (t:=29) hr_ ?_;intro gb844 hg w30 hbox hb;replace HO_835000:=am (Kd.R_below (rs HO_835000) hb);replace HO842:=am (Kd.R_below (rs HO842) hb);have BK844:=am hbox;have GW844:=gwE HB hg;have GE844:=gwE HB hg;replace HB:=hbS HB hb;have NB834_844:=neL BK834 hg;have NB844_834:=neG BK834 hg;replace BK834:=bkB BK834 hb;clear hb hbox hg;obtain ⟨Ao31,co31,eo31⟩:=Kd.R_slice HO842.out;subst eo31;have:=NB844_834.out;have:=NB834_844.out;have hcz33_0:=bcell BK844 0;have hfz33_0:=blk_frozen BK844.out 0))
      go_loopg [9] kj6 (fun kq v9 w'=>∃ (x9_2 : Int),v9 = .int .i64 x9_2 ∧ Aside0 (laws_FnPosBack.l0 kq t832 t835 t843 x9_2 t829 = some r) ∧ Aside0 (kq ≤ kj6) ∧ Aside0 (Kd.R k55 55 w' w.heap.size (fun k_=>some k_ ≠ ((.slice Ao31 t840.length co31) : Value).ownBlock) (.slice Ao10 t829.length co10) t829) ∧ Aside0 (Kd.R k55 55 w' w.heap.size (fun k_=>some k_ ≠ ((.slice Ao10 t829.length co10) : Value).ownBlock) (.slice Ao31 t840.length co31) t840) ∧ Aside0 (w'.heap[gb834]? = some (.cells #[(.slice Ao10 t829.length co10)] 29 (0,0))) ∧ Aside0 (w'.heap[gb844]? = some (.cells #[(.slice Ao31 t840.length co31)] 29 (0,0))) ∧ Aside0 (Below w.heap.size w w'))
      case atStart=>exact ⟨(0),rs_,H',⟨Nat.le_refl _⟩,⟨by (with_reducible repeat apply ru);exact Kd.R_mono (Kd.R_far (p:=⟨gb844,0,none⟩) (Kd.R_types HO_835000.out BK844.out (by decide)) (fun _ hk=>hk.2) (.slice Ao31 t840.length co31)) (fun _ hk=>hk.1.2)⟩,⟨by (with_reducible repeat apply ru);exact Kd.R_mono (Kd.R_far (p:=⟨gb844,0,none⟩) (Kd.R_types HO842.out BK844.out (by decide)) (fun _ hk=>hk.2) (.slice Ao31 t840.length co31)) (fun _ hk=>hk.1.2)⟩,bf_ BK834,⟨by (with_reducible repeat refine bu ?_);refine blk_put (cs:=#[.slice none 0 0]) ?_ 0 _ rfl;(with_reducible repeat refine bu ?_);exact BK844.out⟩,⟨m2_⟩⟩
      case round=>
       clear H'
       try clear c1
       try clear c2
       try clear c2b0
       try clear c2b1
       try clear p2
       try clear c3
       try clear c6
       try clear c6b0
       try clear c6b1
       try clear c10
       try clear c16
       try clear c17
       try clear c23
       try clear c24
       try clear c24b0
       try clear c24b1
       try clear c26
       try clear c30
       try clear c32
       try clear hcz11_0
       try clear hcz13_0
       try clear hcz18_0
       try clear hcz21_0
       try clear hcz28_0
       try clear hcz33_0
       try clear hfz11_0
       try clear hfz13_0
       try clear hfz18_0
       try clear hfz21_0
       try clear hfz28_0
       try clear hfz33_0
       try clear p2
       obtain ⟨x9_2,rfl,HA,HK2,HO_835000,HO_845000,BK834,BK844,HB⟩:=hrel
       cases gk with
       | zero=>exact absurd HA.out (by simp [laws_FnPosBack.l0])
       | succ k2=>
        have H:=HA.out
        clear HA
        simp only [laws_FnPosBack.l0] at H
        by_cases c34 : x9_2 < (t843.size : Int)
        ·rw [if_pos c34] at H
         have c34b0 : decide (x9_2 < (t843.size : Int)) = true:=decide_eq_true c34
         clear c34
         obtain ⟨t853,A35,H⟩:=bse H
         try dsimp only at H
         obtain ⟨t854,A36,H⟩:=bse H
         try dsimp only at H
         by_cases c37 : t853 > t854
         ·rw [if_pos c37] at H
          have c37b0 : decide (t854 < t853) = true:=decide_eq_true c37
          clear c37
          exact absurd ((Option.some.inj H).trans hrt.out) (by decide)
         ·rw [if_neg c37] at H
          have c37b0 : decide (t854 < t853) = false:=decide_eq_false c37
          clear c37
          obtain ⟨t855,A38,H⟩:=bse H
          try dsimp only at H
          by_cases c39 : t855 > x9_2
          ·rw [if_pos c39] at H
           have c39b0 : decide (x9_2 < t855) = true:=decide_eq_true c39
           clear c39
           exact absurd ((Option.some.inj H).trans hrt.out) (by decide)
          ·rw [if_neg c39] at H
           have c39b0 : decide (x9_2 < t855) = false:=decide_eq_false c39
           clear c39
           have H':=am H
           clear H
           have:=NB834_844.out
           have:=NB844_834.out
           have:=bcell BK834 0
           have:=bfz BK834 0
           go_wp2_with (first | ((with_reducible refine gC 17 rfl ?_);refine gL (some 60) Tryz.func17 #[.agg #[.slice Ao10 t829.length co10],.string t832,.int .i64 x9_2] ?_;(with_reducible refine (impl_PosBack.calls k2 _ _ t829 t832 x9_2 t853 _ ?side1 ?side2 A35.out (EnvE.below hE (bl HB))).mono ?_);(case side1=>exact rcx HO_835000);(case side2=>exact (Kd.R_reads' HO_835000.out).2.1);rintro e w42 ⟨rfl,hb⟩;refine ⟨_,rfl,?_⟩;replace HO_835000:=am (Kd.R_below (rs HO_835000) hb);replace HO_845000:=am (Kd.R_below (rs HO_845000) hb);replace BK834:=bkB BK834 hb;replace BK844:=bkB BK844 hb;replace HB:=hbS HB hb;(try clear hb);have:=bcell BK834 0;have:=bfz BK834 0) | ((with_reducible refine gC 17 rfl ?_);refine gL (some 66) Tryz.func17 #[.agg #[.slice Ao10 t829.length co10],.string t832,.int .i64 (wrap64 (x9_2 + 1))] ?_;(with_reducible refine (impl_PosBack.calls k2 _ _ t829 t832 (wrap64 (x9_2 + 1)) t854 _ ?side1 ?side2 A36.out (EnvE.below hE (bl HB))).mono ?_);(case side1=>exact rcx HO_835000);(case side2=>exact (Kd.R_reads' HO_835000.out).2.1);rintro e w44 ⟨rfl,hb⟩;refine ⟨_,rfl,?_⟩;replace HO_835000:=am (Kd.R_below (rs HO_835000) hb);replace HO_845000:=am (Kd.R_below (rs HO_845000) hb);replace BK834:=bkB BK834 hb;replace BK844:=bkB BK844 hb;replace HB:=hbS HB hb;(try clear hb);have:=bcell BK834 0;have:=bfz BK834 0) | (go_at_call 14;(with_reducible refine (impl_PosOut.calls k2 _ _ t829 t832 t853 t855 _ ?side1 ?side2 A38.out (EnvE.below hE (bl HB))).mono ?_);(case side1=>exact rcx HO_835000);(case side2=>exact (Kd.R_reads' HO_835000.out).2.1);rintro e w46 ⟨rfl,hb⟩;replace HO_835000:=am (Kd.R_below (rs HO_835000) hb);replace HO_845000:=am (Kd.R_below (rs HO_845000) hb);replace BK834:=bkB BK834 hb;replace BK844:=bkB BK844 hb;replace HB:=hbS HB hb;(try clear hb)))
           go_roundg k2
           case measure=>have:=HJ6.out;have:=HK2.out;omega
           case rel=>exact ⟨(wrap64 (x9_2 + 1)),rs_,H',⟨by have:=HJ6.out;have:=HK2.out;omega⟩,⟨by (with_reducible repeat apply ru);exact HO_835000.out⟩,⟨by (with_reducible repeat apply ru);exact HO_845000.out⟩,⟨bk BK834⟩,⟨bk BK844⟩,⟨m2_⟩⟩
        ·rw [if_neg c34] at H
         have c34b0 : decide (x9_2 < (t843.size : Int)) = false:=decide_eq_false c34
         clear c34
         obtain ⟨⟨t845,t846⟩,A47,H⟩:=bse H
         try dsimp only at H
         by_cases c48 : t835 ≥ 0
         ·rw [if_pos c48] at H
          have c48b0 : decide (0 ≤ t835) = true:=decide_eq_true c48
          clear c48
          by_cases c49 : t835 ≤ (wrap64 ((t832.size : Int) - (t846.size : Int)))
          ·rw [if_pos c49] at H
           have c49b0 : decide (t835 ≤ (wrap64 ((t832.size : Int) - (t846.size : Int)))) = true:=decide_eq_true c49
           clear c49
           obtain ⟨t849,A50,H⟩:=bse H
           try dsimp only at H
           by_cases c51 : t849 = (wrap64 ((t832.size : Int) - (t846.size : Int)))
           ·rw [if_pos c51] at H
            have c51b0 : (t849 == (wrap64 ((t832.size : Int) - (t846.size : Int)))) = true:=beq_iff_eq.mpr c51
            have c51b1 : (t849 != (wrap64 ((t832.size : Int) - (t846.size : Int)))) = false:=bne_eq_false_iff_eq.mpr c51
            clear c51
            obtain ⟨t850,A52,H⟩:=bse H
            try dsimp only at H
            obtain rfl:=Option.some.inj H
            go_wp2_with (first | ((with_reducible refine gC 29 rfl ?_);refine gL (some 78) Tryz.func29 #[.string t832] ?_;(with_reducible refine (impl_StrLines.calls t832 t845 t846 _ A47.out (Env.below hE.e (bl HB))).mono ?_);rintro e w53 ⟨v847,rfl,ho0,hb⟩;refine ⟨_,rfl,?_⟩;replace HO_835000:=am (Kd.R_below (rs HO_835000) hb);replace HO_845000:=am (Kd.R_below (rs HO_845000) hb);have HO848:=am (Kd.R_lower ho0 (below_size (bl HB)));replace BK834:=bkB BK834 hb;replace BK844:=bkB BK844 hb;replace HB:=hbS HB hb;(try clear hb);(try clear ho0);have:=NB834_844.out;have:=NB844_834.out;have:=bcell BK834 0;have:=bfz BK834 0) | (go_at_call 17;(with_reducible refine (impl_PosBack.calls k2 _ _ t829 t832 (t843.size : Int) t849 _ ?side1 ?side2 A50.out (EnvE.below hE (bl HB))).mono ?_);(case side1=>exact rcx HO_835000);(case side2=>exact (Kd.R_reads' HO_835000.out).2.1);rintro e w56 ⟨rfl,hb⟩;replace HO_835000:=am (Kd.R_below (rs HO_835000) hb);replace HO_845000:=am (Kd.R_below (rs HO_845000) hb);replace HO848:=am (Kd.R_below (rs HO848) hb);replace BK834:=bkB BK834 hb;replace BK844:=bkB BK844 hb;replace HB:=hbS HB hb;(try clear hb);obtain ⟨Ao57,co57,eo57⟩:=Kd.R_slice HO848.out;subst eo57;have:=bcell BK834 0;have:=bfz BK834 0) | (go_at_call 19;(with_reducible refine (impl_PosSpans.calls k2 _ _ t829 t832 t850 _ ?side1 ?side2 A52.out (EnvE.below hE (bl HB))).mono ?_);(case side1=>exact rcx HO_835000);(case side2=>exact (Kd.R_reads' HO_835000.out).2.1);rintro e w59 ⟨v851,rfl,ho0,hb⟩;replace HO_835000:=am (Kd.R_below (rs HO_835000) hb);replace HO_845000:=am (Kd.R_below (rs HO_845000) hb);replace HO848:=am (Kd.R_below (rs HO848) hb);have HO852:=am (Kd.R_lower ho0 (below_size (bl HB)));replace BK834:=bkB BK834 hb;replace BK844:=bkB BK844 hb;replace HB:=hbS HB hb;(try clear hb);(try clear ho0);obtain ⟨Ao60,co60,eo60⟩:=Kd.R_slice HO852.out;subst eo60))
            go_ret
            exact ⟨fi_,m2_⟩
           ·rw [if_neg c51] at H
            have c51b0 : (t849 == (wrap64 ((t832.size : Int) - (t846.size : Int)))) = false:=beq_eq_false_iff_ne.mpr c51
            have c51b1 : (t849 != (wrap64 ((t832.size : Int) - (t846.size : Int)))) = true:=bne_iff_ne.mpr c51
            exact absurd ((Option.some.inj H).trans hrt.out) (by decide)
          ·rw [if_neg c49] at H
           have c49b0 : decide (t835 ≤ (wrap64 ((t832.size : Int) - (t846.size : Int)))) = false:=decide_eq_false c49
           clear c49
           exact absurd ((Option.some.inj H).trans hrt.out) (by decide)
         ·rw [if_neg c48] at H
          have c48b0 : decide (0 ≤ t835) = false:=decide_eq_false c48
          clear c48
          exact absurd ((Option.some.inj H).trans hrt.out) (by decide)
  ·rw [if_neg c6] at H
   have c6b0 : (t835 == t836) = false:=beq_eq_false_iff_ne.mpr c6
   have c6b1 : (t835 != t836) = true:=bne_iff_ne.mpr c6
   exact absurd ((Option.some.inj H).trans hrt.out) (by decide)
def laws_FnPosBack.Pure : Prop:=∀ (l0 : List Int),l0.length ≤ maxLen → l0.length * 1 ≤ 140737488351232 → (∀ x ∈ l0,(Lit.int .u8 x).wf = true) → ∃ k,laws_FnPosBack.f k l0 = some true
theorem laws_FnPosBack.walk (P : laws_FnPosBack.Pure) (a0 : Option Addr) (len0 cap0 : Nat) (z0 : List Int) (w : World) (w0 : (a0 = none ∧ len0 = 0 ∧ cap0 = 0 ∧ z0 = []) ∨ ∃ x,a0 = some x ∧ len0 ≤ cap0 ∧ cap0 ≤ maxLen ∧ z0.length = cap0 ∧ (∀ i,i < z0.length → w.cell? (x.add i) = some (.int .u8 (z0.getD i 0))) ∧ ∀ n ∈ z0,(Lit.int .u8 n).wf = true) (y0 : len0 * 1 ≤ 140737488351232) (hE : EnvE w) :
  Calls Tryz.prog 10 #[.slice a0 len0 cap0] w fun e w'=>e = .returned (.bool true) ∧ Below w.heap.size w w':=by
 obtain ⟨l0,rfl,hr0,hm0,hw0,hc0⟩:=ReadsInt.ofRowC w0
 obtain ⟨k,h⟩:=P l0 hm0 y0 hw0
 refine (laws_FnPosBack.calls k _ _ l0 true w (Kd.C_of_reads (d:=(0 : Int)) (h1:=fun _=>rfl) hr0) hc0 h ⟨rfl⟩ hE).mono ?_
 rintro e w' ⟨rfl,hd⟩
 exact ⟨rfl,hd⟩
end
theorem laws_FnPosBack.pure : laws_FnPosBack.Pure:=by
  intro l0 _ _ hw0
  have hb0 : Bys l0:=bys_of hw0
  have J : ∀ (s : ByteArray) (t : List S55),Ans (fun k=>laws_FnPosBack.j0 k s 0 true t) (fun v=>v = true):=by
    intro s t
    refine Ans.succ ?_
    unfold laws_FnPosBack.j0
    refine Ans.pos rfl (Ans.pos rfl ?_)
    rw [haOk_f]
    exact Ans.bsome (Ans.pure rfl)
  have A : Ans (fun k=>laws_FnPosBack.f k l0) (fun r=>r = true):=by
    unfold laws_FnPosBack.f
    refine Ans.ite (fun _=>Ans.pure rfl) (fun _=>?_)
    refine Ans.bind (drawPosBack_a hb0) ?_
    rintro ⟨t,s,x⟩ ⟨ht,hs⟩
    dsimp only at *
    refine Ans.bind (implPosBack_a t (by omega) s (by omega) x) ?_
    rintro _ rfl
    refine Ans.bind (specPosBack_a t (by omega) s (by omega) x) ?_
    rintro _ rfl
    refine Ans.pos rfl (Ans.bind (specMapOk_a t (by omega)) ?_)
    rintro _ rfl
    cases c : okT t with
    | false=>rw [posL_no1 c,thereW_nil];exact Ans.neg (by simp) (J s t)
    | true=>
      refine Ans.pos rfl (Ans.bind (specStrOk_a s (by omega)) ?_)
      rintro _ rfl
      cases cs : strOkW s with
      | false=>rw [posL_no2 cs,thereW_nil];exact J s t
      | true=>
        have hn:=(pos_rises c cs).2.1
        obtain ⟨F,O,T,eF,eO,eT,hF,hs120,hr,o1,o2,o3,t1,t2,t3,t4⟩:=pos_facts c cs
        have T3:=Lib.hid t3
        clear o3 t3
        refine Ans.succ ?_
        unfold laws_FnPosBack.j0
        refine Ans.neg (by simp) (Ans.bind (implRwrStream_a t (by omega) s (by omega)) ?_)
        rintro _ rfl
        rw [rwrStream_ok c cs,eF,eT]
        dsimp only
        have G : ∀ x,Ans (fun k=>impl_PosOut.f k t s x) (fun r=>r = O x):=fun x=>by rw [← eO];exact implPosOut_a t (by omega) s (by omega) x
        have H : ∀ x,Ans (fun k=>impl_PosBack.f k t s x) (fun r=>r = T x):=fun x=>by rw [← eT];exact implPosBack_a t (by omega) s (by omega) x
        have P : Ans (fun k=>impl_PosSpans.f k t s) (fun r=>r = posL t s):=by
          unfold impl_PosSpans.f
          refine Ans.bind (implOfStream_a t (by omega) s (by omega)) ?_
          rintro _ rfl
          exact Ans.pure rfl
        clear eF eO eT
        have HW:=Lib.hid (show wrap64 ((s.size : Int) - ((restB s).size : Int)) = (s.size : Int) - ((restB s).size : Int) from w64 _ (by omega))
        have L : ∀ (m i : Nat),F.size - i = m → i ≤ F.size → Ans (fun k=>laws_FnPosBack.l0 k s (T x) F (i : Int) t) (fun v=>v = true):=by
          intro m
          induction m with
          | zero=>
            intro i hm hi
            refine Ans.succ ?_
            unfold laws_FnPosBack.l0
            refine Ans.neg (by omega) ?_
            rw [implStrLines_f (by omega)]
            refine Ans.bsome ?_
            dsimp only
            rw [HW.out]
            refine Ans.pos (t1 x).1 (Ans.pos (t1 x).2 (Ans.bind (H _) ?_))
            rintro _ rfl
            refine Ans.pos T3.out (Ans.bind P ?_)
            rintro _ rfl
            exact Ans.pure (by rw [hn];simp)
          | succ m ih=>
            intro i hm hi
            refine Ans.succ ?_
            unfold laws_FnPosBack.l0
            rw [show wrap64 ((i : Int) + 1) = ((i + 1 : Nat) : Int) from w64 _ (by omega)]
            refine Ans.pos (by omega) (Ans.bind (H _) ?_)
            rintro _ rfl
            refine Ans.bind (H _) ?_
            rintro _ rfl
            refine Ans.neg (Int.not_lt.mpr (t2 _ _ (by omega))) (Ans.bind (G _) ?_)
            rintro _ rfl
            exact Ans.neg (Int.not_lt.mpr (t4 _ (by omega))) (ih (i + 1) (by omega) (by omega))
        exact L _ 0 rfl (Nat.zero_le _)
  obtain ⟨k,v,rfl,h⟩:=A.got
  exact ⟨k,h⟩
end Go.Proofs.YtakfmcpjnkagmaaGreatDoor.P
namespace Go.Proofs.YtakfmcpjnkagmaaGreatDoor.Pure
theorem FnPosBack : P.laws_FnPosBack.Pure:=P.laws_FnPosBack.pure
end Go.Proofs.YtakfmcpjnkagmaaGreatDoor.Pure
