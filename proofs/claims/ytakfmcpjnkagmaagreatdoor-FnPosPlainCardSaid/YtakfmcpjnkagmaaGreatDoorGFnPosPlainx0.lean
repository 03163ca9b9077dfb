import Derived.Test.YtakfmcpjnkagmaaGreatDoorGPosAllx6
namespace Go.Proofs.YtakfmcpjnkagmaaGreatDoor.P
open Go.Proofs.YtakfmcpjnkagmaaGreatDoorUPosAll.PrintLast Go.Proofs.YtakfmcpjnkagmaaGreatDoorUPosAll.PrintMore Go.Proofs.YtakfmcpjnkagmaaGreatDoorUPosAll.PrintWords Go.RowKit
set_option linter.unusedVariables false
set_option linter.unusedSimpArgs false
section
attribute [local go_sem] max2_int min2_int max_two min_two max_three min_three max_four min_four
mutual
def laws_FnPosPlain.j0 : Nat → ByteArray → Int → Int → Bool → List (S55) → Option (Bool)
 | 0,_,_,_,_,_=>none
 | k + 1,x4,x5,x6,x40,x806000=>if x40 = true then ((laws_haOk.f).bind fun t810=>(some t810)) else ((impl_StrLines.f x4).bind fun bt811=>(laws_FnPosPlain.l0 k x4 x5 x6 bt811.1 bt811.2 0 x806000))
def laws_FnPosPlain.l0 : Nat → ByteArray → Int → Int → List ByteArray → ByteArray → Int → List (S55) → Option (Bool)
 | 0,_,_,_,_,_,_,_=>none
 | k + 1,x4,x5,x6,x7,x8,x9,x806000=>if x9 < (x7.length : Int) then (if 0 ≤ x9 then ((impl_LinSays.f (rdOf ByteArray.empty x7 x9)).bind fun bt824=>(if bt824.2.2 = true then ((laws_haOk.f).bind fun t828=>(some t828)) else (laws_FnPosPlain.l0 k x4 x5 x6 x7 x8 (wrap64 (x9 + 1)) x806000))) else (none)) else ((impl_RwrStream.f k x806000 x4).bind fun bt815=>(if bt815.2.size + x8.size ≤ 9223372036854775807 then (if (bt815.2 ++ x8).toList = x4.toList then (if x5 < 0 then ((laws_haOk.f).bind fun t820=>(some t820)) else (if x5 > (bt815.2.size : Int) then ((laws_haOk.f).bind fun t821=>(some t821)) else (if x6 = x5 then ((laws_haOk.f).bind fun t822=>(some t822)) else (some false)))) else (some false)) else (none)))
end
def laws_FnPosPlain.f (k : Nat) (l0 : List Int) : Option (Bool):=if (l0.length : Int) > 1048576 then (some true) else ((spec_DrawPosBack.f k l0).bind fun bt800=>((impl_PosBack.f k bt800.1 bt800.2.1 bt800.2.2).bind fun t806=>((spec_PosBack.f k bt800.1 bt800.2.1 bt800.2.2).bind fun t807=>(if t806 = t807 then ((spec_MapOk.f k bt800.1).bind fun t808=>(if t808 = true then ((spec_StrOk.f k bt800.2.1).bind fun t809=>(laws_FnPosPlain.j0 k bt800.2.1 bt800.2.2 t806 (!t809) bt800.1)) else (laws_FnPosPlain.j0 k bt800.2.1 bt800.2.2 t806 true bt800.1))) else (some false)))))
theorem laws_FnPosPlain.mono_l : ∀ k,(∀ y0 y1 y2 y3 y4,LeO (laws_FnPosPlain.j0 k y0 y1 y2 y3 y4) (laws_FnPosPlain.j0 (k + 1) y0 y1 y2 y3 y4)) ∧ (∀ y0 y1 y2 y3 y4 y5 y6,LeO (laws_FnPosPlain.l0 k y0 y1 y2 y3 y4 y5 y6) (laws_FnPosPlain.l0 (k + 1) y0 y1 y2 y3 y4 y5 y6))
 | 0=>⟨fun _ _ _ _ _ r h=>by simp [laws_FnPosPlain.j0] at h,fun _ _ _ _ _ _ _ r h=>by simp [laws_FnPosPlain.l0] at h⟩
 | k + 1=>by
  obtain ⟨ih0,ih1⟩:=laws_FnPosPlain.mono_l k
  refine ⟨?_,?_⟩
  ·intro y0 y1 y2 y3 y4
   unfold laws_FnPosPlain.j0
   repeat' first | (with_reducible first | exact ih0 _ _ _ _ _ | exact ih1 _ _ _ _ _ _ _ | exact impl_PosBack.mono _ _ _ _ | exact impl_RwrStream.mono _ _ _ | exact spec_DrawPosBack.mono _ _ | exact spec_MapOk.mono _ _ | exact spec_PosBack.mono _ _ _ _ | exact spec_StrOk.mono _ _ | exact LeO.refl _ | exact LeO.none _ | refine LeO.ite ?_ ?_ | refine LeO.bind ?_ (fun _=>?_)) | exact ih0 _ _ _ _ _ | exact ih1 _ _ _ _ _ _ _ | exact impl_PosBack.mono _ _ _ _ | exact impl_RwrStream.mono _ _ _ | exact spec_DrawPosBack.mono _ _ | exact spec_MapOk.mono _ _ | exact spec_PosBack.mono _ _ _ _ | exact spec_StrOk.mono _ _ | exact LeO.none _ | refine LeO.ite ?_ ?_ | refine LeO.bind ?_ (fun _=>?_)
  ·intro y0 y1 y2 y3 y4 y5 y6
   unfold laws_FnPosPlain.l0
   repeat' first | (with_reducible first | exact ih0 _ _ _ _ _ | exact ih1 _ _ _ _ _ _ _ | exact impl_PosBack.mono _ _ _ _ | exact impl_RwrStream.mono _ _ _ | exact spec_DrawPosBack.mono _ _ | exact spec_MapOk.mono _ _ | exact spec_PosBack.mono _ _ _ _ | exact spec_StrOk.mono _ _ | exact LeO.refl _ | exact LeO.none _ | refine LeO.ite ?_ ?_ | refine LeO.bind ?_ (fun _=>?_)) | exact ih0 _ _ _ _ _ | exact ih1 _ _ _ _ _ _ _ | exact impl_PosBack.mono _ _ _ _ | exact impl_RwrStream.mono _ _ _ | exact spec_DrawPosBack.mono _ _ | exact spec_MapOk.mono _ _ | exact spec_PosBack.mono _ _ _ _ | exact spec_StrOk.mono _ _ | exact LeO.none _ | refine LeO.ite ?_ ?_ | refine LeO.bind ?_ (fun _=>?_)
theorem laws_FnPosPlain.mono : ∀ a0 k,LeO (laws_FnPosPlain.f k a0) (laws_FnPosPlain.f (k + 1) a0):=by
 intro a0 k
 obtain ⟨ih0,ih1⟩:=laws_FnPosPlain.mono_l k
 unfold laws_FnPosPlain.f
 repeat' first | (with_reducible first | exact ih0 _ _ _ _ _ | exact ih1 _ _ _ _ _ _ _ | exact impl_PosBack.mono _ _ _ _ | exact impl_RwrStream.mono _ _ _ | exact spec_DrawPosBack.mono _ _ | exact spec_MapOk.mono _ _ | exact spec_PosBack.mono _ _ _ _ | exact spec_StrOk.mono _ _ | exact LeO.refl _ | exact LeO.none _ | refine LeO.ite ?_ ?_ | refine LeO.bind ?_ (fun _=>?_)) | exact ih0 _ _ _ _ _ | exact ih1 _ _ _ _ _ _ _ | exact impl_PosBack.mono _ _ _ _ | exact impl_RwrStream.mono _ _ _ | exact spec_DrawPosBack.mono _ _ | exact spec_MapOk.mono _ _ | exact spec_PosBack.mono _ _ _ _ | exact spec_StrOk.mono _ _ | exact LeO.none _ | refine LeO.ite ?_ ?_ | refine LeO.bind ?_ (fun _=>?_)
set_option maxHeartbeats 8000000 in
set_option maxRecDepth 100000 in
theorem laws_FnPosPlain.calls (k : Nat) (A0 : Option Addr) (c0 : Nat) (l0 : List Int) (r : Bool) (w : World) (hr0 : Kd.C (Kd.int .u8) w A0 l0.length l0) (hc0 : l0.length ≤ c0) (h : laws_FnPosPlain.f k l0 = some r) (hrt : Aside0 (r = true)) (hE : EnvE w) :
  Calls Tryz.prog 9 #[.slice A0 l0.length c0] w fun e w'=>e = .returned (.bool r) ∧ Below w.heap.size w w':=by
 have hu29:=Tryz.underlying29
 have hu55:=Tryz.underlying55
 have HR0:=am hr0
 have HC0:=am hc0
 clear hr0 hc0
 have HB:=am (Below.refl w.heap.size w)
 have H : (if (l0.length : Int) > 1048576 then (some true) else ((spec_DrawPosBack.f k l0).bind fun bt800=>((impl_PosBack.f k bt800.1 bt800.2.1 bt800.2.2).bind fun t806=>((spec_PosBack.f k bt800.1 bt800.2.1 bt800.2.2).bind fun t807=>(if t806 = t807 then ((spec_MapOk.f k bt800.1).bind fun t808=>(if t808 = true then ((spec_StrOk.f k bt800.2.1).bind fun t809=>(laws_FnPosPlain.j0 k bt800.2.1 bt800.2.2 t806 (!t809) bt800.1)) else (laws_FnPosPlain.j0 k bt800.2.1 bt800.2.2 t806 true bt800.1))) else (some false)))))) = some r:=h
 clear h
 by_cases c2 : (l0.length : Int) > 1048576
 ·rw [if_pos c2] at H
  have c2b0 : decide (1048576 < (l0.length : Int)) = true:=decide_eq_true c2
  have c2b1 : decide (1048576 < l0.length) = true:=decide_eq_true (by omega)
  clear c2
  obtain rfl:=Option.some.inj H
  go_enter Tryz.func9,Tryz.ntmps9
  go_wp2
  go_ret
  exact ⟨fi_,m0_⟩
 ·rw [if_neg c2] at H
  have c2b0 : decide (1048576 < (l0.length : Int)) = false:=decide_eq_false c2
  have c2b1 : decide (1048576 < l0.length) = false:=decide_eq_false (by omega)
  clear c2
  obtain ⟨⟨t800,t803,t804⟩,A3,H⟩:=bse H
  try dsimp only at H
  obtain ⟨t806,A4,H⟩:=bse H
  try dsimp only at H
  obtain ⟨t807,A5,H⟩:=bse H
  try dsimp only at H
  by_cases c6 : t806 = t807
  ·rw [if_pos c6] at H
   have c6b0 : (t806 == t807) = true:=beq_iff_eq.mpr c6
   have c6b1 : (t806 != t807) = false:=bne_eq_false_iff_eq.mpr c6
   clear c6
   have HC7:=am H
   clear H
   go_enter Tryz.func9,Tryz.ntmps9
   go_upto_region 7 with (first | ((with_reducible refine gC 32 rfl ?_);refine gL (some 19) Tryz.func32 #[.slice A0 l0.length c0] ?_;(with_reducible refine (spec_DrawPosBack.calls k _ _ l0 t800 t803 t804 _ ?side1 ?side2 A3.out).mono ?_);(case side1=>exact m1_);(case side2=>exact HC0.out);rintro e w8 ⟨v801,rfl,ho0,hb⟩;refine ⟨_,rfl,?_⟩;have HO802:=am (Kd.R_lower ho0 (below_size (bl HB)));replace HB:=hbS HB hb;(try clear hb);(try clear ho0)) | ((with_reducible refine gD 3 rfl ?_);refine box_event rfl (N:=3) rfl (cs:=#[.slice none 0 0]) (t:=29) hr_ ?_;intro gb805 hg w9 hbox hb;replace HO802:=am (Kd.R_below (rs HO802) hb);have BK805:=am hbox;have GW805:=gwE HB hg;have GE805:=gwE HB hg;replace HB:=hbS HB hb;clear hb hbox hg;obtain ⟨Ao10,co10,eo10⟩:=Kd.R_slice HO802.out;subst eo10;have hcz11_0:=bcell BK805 0;have hfz11_0:=blk_frozen BK805.out 0) | ((with_reducible refine gC 17 rfl ?_);refine gL (some 26) Tryz.func17 #[.agg #[.slice Ao10 t800.length co10],.string t803,.int .i64 t804] ?_;(with_reducible refine (impl_PosBack.calls k _ _ t800 t803 t804 t806 _ ?side1 ?side2 A4.out (EnvE.below hE (bl HB))).mono ?_);(case side1=>refine (Kd.R_reads' (e:=55) (base:=w.heap.size) (ok:=fun k_=>True) (n:=t800.length) (c:=co10) ?_).2.2;exact (by (with_reducible repeat apply ru);exact (Kd.R_mono (Kd.R_far (p:=⟨gb805,0,none⟩) (Kd.R_types HO802.out BK805.out (by decide)) (fun _ hk=>hk.2) (.slice Ao10 t800.length co10)) (fun _ h_=>h_.1))));(case side2=>exact (Kd.R_reads' HO802.out).2.1);rintro e w12 ⟨rfl,hb⟩;refine ⟨_,rfl,?_⟩;replace HO802:=am (Kd.R_below (by (with_reducible repeat apply ru);exact (Kd.R_mono (Kd.R_far (p:=⟨gb805,0,none⟩) (Kd.R_types HO802.out BK805.out (by decide)) (fun _ hk=>hk.2) (.slice Ao10 t800.length co10)) (fun _ h_=>h_.1))) hb);replace BK805:=am (blk_below (g:=gb805) (o:=.cells #[.slice Ao10 t800.length co10] 29 (0,0)) (by (with_reducible repeat refine bu ?_);refine blk_put (cs:=#[.slice none 0 0]) ?_ 0 _ rfl;(with_reducible repeat refine bu ?_);exact BK805.out) hb);replace HB:=hbS HB hb;(try clear hb);(try clear hk);have hcz13_0:=bcell BK805 0;have hfz13_0:=blk_frozen BK805.out 0) | ((with_reducible refine gC 16 rfl ?_);refine gL (some 31) Tryz.func16 #[.agg #[.slice Ao10 t800.length co10],.string t803,.int .i64 t804] ?_;(with_reducible refine (spec_PosBack.calls k _ _ t800 t803 t804 t807 _ ?side1 ?side2 A5.out).mono ?_);(case side1=>exact rcx HO802);(case side2=>exact (Kd.R_reads' HO802.out).2.1);rintro e w14 ⟨rfl,hb⟩;refine ⟨_,rfl,?_⟩;replace HO802:=am (Kd.R_below (rs HO802) hb);replace BK805:=bkB BK805 hb;replace HB:=hbS HB hb;(try clear hb)))
   (try simp only [Act.put,List.setIfInBounds_toArray,List.set_cons_zero,List.set_cons_succ])
   go_cut [40] (fun v40 wc=>∃ (kq : Nat) (x40_6 : Bool),v40 = .bool x40_6 ∧ Aside0 (laws_FnPosPlain.j0 kq t803 t804 t806 x40_6 t800 = some r) ∧ Aside0 (kq ≤ k) ∧ Aside0 (Kd.R k55 55 wc w.heap.size (fun _=>True) (.slice Ao10 t800.length co10) t800) ∧ Aside0 (wc.heap[gb805]? = some (.cells #[(.slice Ao10 t800.length co10)] 29 (0,0))) ∧ Aside0 (Below w.heap.size w wc))
   case first=>
    have H:=HC7.out
    clear HC7
    obtain ⟨t808,A15,H⟩:=bse H
    try dsimp only at H
    by_cases c16 : t808 = true
    ·subst c16
     have H1 : ((spec_StrOk.f k t803).bind fun t809=>(laws_FnPosPlain.j0 k t803 t804 t806 (!t809) t800)) = some r:=by rw [if_pos rfl] at H;exact H
     clear H
     have H:=H1
     clear H1
     obtain ⟨t809,A17,H⟩:=bse H
     try dsimp only at H
     have H':=am H
     clear H
     have hcz18_0:=bcell BK805 0
     have hfz18_0:=blk_frozen BK805.out 0
     go_wp2_with (first | ((with_reducible refine gC 26 rfl ?_);refine gL (some 34) Tryz.func26 #[.agg #[.slice Ao10 t800.length co10]] ?_;(with_reducible refine (spec_MapOk.calls k _ _ t800 true _ ?side1 ?side2 A15.out).mono ?_);(case side1=>exact rcx HO802);(case side2=>exact (Kd.R_reads' HO802.out).2.1);rintro e w19 ⟨rfl,hb⟩;refine ⟨_,rfl,?_⟩;replace HO802:=am (Kd.R_below (rs HO802) hb);replace BK805:=bkB BK805 hb;replace HB:=hbS HB hb;(try clear hb)) | (go_at_call 27;(with_reducible refine (spec_StrOk.calls k t803 t809 _ A17.out).mono ?_);rintro e w20 ⟨rfl,hb⟩;replace HO802:=am (Kd.R_below (rs HO802) hb);replace BK805:=bkB BK805 hb;replace HB:=hbS HB hb;(try clear hb)))
     go_meet
     case rel=>exact ⟨_,(!t809),rs_,H',⟨by first | omega | exact Nat.le_refl _⟩,⟨by (with_reducible repeat apply ru);exact HO802.out⟩,⟨bk BK805⟩,⟨m2_⟩⟩
    ·replace c16:=Bool.eq_false_iff.mpr c16
     subst c16
     have H1 : (laws_FnPosPlain.j0 k t803 t804 t806 true t800) = some r:=by rw [if_neg (show ¬ (false = true) by decide)] at H;exact H
     clear H
     have H:=H1
     clear H1
     have H':=am H
     clear H
     have hcz21_0:=bcell BK805 0
     have hfz21_0:=blk_frozen BK805.out 0
     go_wp2_with (first | ((with_reducible refine gC 26 rfl ?_);refine gL (some 34) Tryz.func26 #[.agg #[.slice Ao10 t800.length co10]] ?_;(with_reducible refine (spec_MapOk.calls k _ _ t800 false _ ?side1 ?side2 A15.out).mono ?_);(case side1=>exact rcx HO802);(case side2=>exact (Kd.R_reads' HO802.out).2.1);rintro e w22 ⟨rfl,hb⟩;refine ⟨_,rfl,?_⟩;replace HO802:=am (Kd.R_below (rs HO802) hb);replace BK805:=bkB BK805 hb;replace HB:=hbS HB hb;(try clear hb)))
     go_meet
     case rel=>exact ⟨_,(true),rs_,H',⟨by first | omega | exact Nat.le_refl _⟩,⟨by (with_reducible repeat apply ru);exact HO802.out⟩,⟨bk BK805⟩,⟨m2_⟩⟩
   case rest=>
    clear HC7
    try clear c1
    try clear c2
    try clear c2b0
    try clear c2b1
    try clear p2
    try clear c3
    try clear c6
    try clear c6b0
    try clear c6b1
    try clear c9
    try clear c16
    try clear c17
    try clear hcz11_0
    try clear hcz13_0
    try clear hcz18_0
    try clear hcz21_0
    try clear hfz11_0
    try clear hfz13_0
    try clear hfz18_0
    try clear hfz21_0
    obtain ⟨kq,x40_6,rfl,HA,HJ6,HO_806000,BK805,HB⟩:=hcut
    cases kq with
    | zero=>exact absurd HA.out (by simp [laws_FnPosPlain.j0])
    | succ kj6=>
     have H:=HA.out
     clear HA
     simp only [laws_FnPosPlain.j0] at H
     by_cases c23 : x40_6 = true
     ·subst c23
      have H1 : ((laws_haOk.f).bind fun t810=>(some t810)) = some r:=by rw [if_pos rfl] at H;exact H
      clear H
      have H:=H1
      clear H1
      obtain ⟨t810,A24,H⟩:=bse H
      try dsimp only at H
      obtain rfl:=Option.some.inj H
      go_wp2_with (first | ((with_reducible refine gC 28 rfl ?_);refine gL (some 41) Tryz.func28 #[] ?_;(with_reducible refine (laws_haOk.calls  t810 _ A24.out).mono ?_);rintro e w25 ⟨rfl,hb⟩;refine ⟨_,rfl,?_⟩;replace HO_806000:=am (Kd.R_below (rs HO_806000) hb);replace BK805:=bkB BK805 hb;replace HB:=hbS HB hb;(try clear hb)))
      go_ret
      exact ⟨fi_,m2_⟩
     ·replace c23:=Bool.eq_false_iff.mpr c23
      subst c23
      have H1 : ((impl_StrLines.f t803).bind fun bt811=>(laws_FnPosPlain.l0 kj6 t803 t804 t806 bt811.1 bt811.2 0 t800)) = some r:=by rw [if_neg (show ¬ (false = true) by decide)] at H;exact H
      clear H
      have H:=H1
      clear H1
      obtain ⟨⟨t811,t812⟩,A26,H⟩:=bse H
      try dsimp only at H
      have H':=am H
      clear H
      go_wp2_with (first | ((with_reducible refine gC 29 rfl ?_);refine gL (some 44) Tryz.func29 #[.string t803] ?_;(with_reducible refine (impl_StrLines.calls t803 t811 t812 _ A26.out (Env.below hE.e (bl HB))).mono ?_);rintro e w27 ⟨v813,rfl,ho0,hb⟩;refine ⟨_,rfl,?_⟩;replace HO_806000:=am (Kd.R_below (rs HO_806000) hb);have HO814:=am (Kd.R_lower ho0 (below_size (bl HB)));replace BK805:=bkB BK805 hb;replace HB:=hbS HB hb;(try clear hb);(try clear ho0)))
      go_loopg [9] kj6 (fun kq v9 w'=>∃ (x9_2 : Int),v9 = .int .i64 x9_2 ∧ Aside0 (laws_FnPosPlain.l0 kq t803 t804 t806 t811 t812 x9_2 t800 = some r) ∧ Aside0 (kq ≤ kj6) ∧ Aside0 (Kd.R Kd.string 9 w' w.heap.size (fun _=>True) v813 t811) ∧ Aside0 (Kd.R k55 55 w' w.heap.size (fun _=>True) (.slice Ao10 t800.length co10) t800) ∧ Aside0 (w'.heap[gb805]? = some (.cells #[(.slice Ao10 t800.length co10)] 29 (0,0))) ∧ Aside0 (Below w.heap.size w w'))
      case atStart=>exact ⟨(0),rs_,H',⟨Nat.le_refl _⟩,⟨by (with_reducible repeat apply ru);exact HO814.out⟩,⟨by (with_reducible repeat apply ru);exact HO_806000.out⟩,⟨bk BK805⟩,⟨m2_⟩⟩
      case round=>
       clear H'
       try clear c1
       try clear c2
       try clear c2b0
       try clear c2b1
       try clear p2
       try clear c3
       try clear c6
       try clear c6b0
       try clear c6b1
       try clear c9
       try clear c16
       try clear c17
       try clear c23
       try clear c26
       try clear hcz11_0
       try clear hcz13_0
       try clear hcz18_0
       try clear hcz21_0
       try clear hfz11_0
       try clear hfz13_0
       try clear hfz18_0
       try clear hfz21_0
       try clear p2
       obtain ⟨x9_2,rfl,HA,HK2,HO_7,HO_806000,BK805,HB⟩:=hrel
       cases gk with
       | zero=>exact absurd HA.out (by simp [laws_FnPosPlain.l0])
       | succ k2=>
        have H:=HA.out
        clear HA
        simp only [laws_FnPosPlain.l0] at H
        by_cases c28 : x9_2 < (t811.length : Int)
        ·rw [if_pos c28] at H
         have c28b0 : decide (x9_2 < (t811.length : Int)) = true:=decide_eq_true c28
         clear c28
         by_cases c29 : 0 ≤ x9_2
         ·rw [if_pos c29] at H
          have c29b0 : decide (0 ≤ x9_2) = true:=decide_eq_true c29
          clear c29
          obtain ⟨⟨t824,t825,t826⟩,A30,H⟩:=bse H
          try dsimp only at H
          by_cases c31 : t826 = true
          ·subst c31
           have H1 : ((laws_haOk.f).bind fun t828=>(some t828)) = some r:=by rw [if_pos rfl] at H;exact H
           clear H
           have H:=H1
           clear H1
           obtain ⟨t828,A32,H⟩:=bse H
           try dsimp only at H
           obtain rfl:=Option.some.inj H
           obtain ⟨Ao33,co33,eo33⟩:=Kd.R_slice HO_7.out
           subst eo33
           have p823 : 0 ≤ (x9_2 : Int):=of_decide_eq_true da_
           have q823 : x9_2 < (t811.length : Int):=of_decide_eq_true da_
           obtain ⟨ad823,e823,hx823_0⟩:=Kd.at_string (Kd.R_reads' HO_7.out).2.2 x9_2 p823 q823
           cases e823
           replace p823:=eq_true p823
           replace q823:=eq_true q823
           go_wp2_with (first | ((with_reducible refine gC 33 rfl ?_);refine gL (some 58) Tryz.func33 #[.string (rdOf ByteArray.empty t811 x9_2)] ?_;(with_reducible refine (impl_LinSays.calls (rdOf ByteArray.empty t811 x9_2) t824 t825 true _ A30.out (EnvE.below hE (bl HB))).mono ?_);rintro e w34 ⟨rfl,hb⟩;refine ⟨_,rfl,?_⟩;replace HO_7:=am (Kd.R_below (rs HO_7) hb);replace HO_806000:=am (Kd.R_below (rs HO_806000) hb);replace BK805:=bkB BK805 hb;replace HB:=hbS HB hb;(try clear hb)) | ((with_reducible refine gD 10 rfl ?_);refine box_event rfl (N:=10) rfl (cs:=#[.int .i64 0,.int .i64 0]) (t:=55) hr_ ?_;intro gb827 hg w35 hbox hb;replace HO_7:=am (Kd.R_below (rs HO_7) hb);replace HO_806000:=am (Kd.R_below (Kd.R_elderB (rs HO_806000) gb827 (Nat.le_of_eq hg.symm)) hb);have BK827:=am hbox;have GW827:=gwE HB hg;have GE827:=gwE HB hg;replace HB:=hbS HB hb;have NB805_827:=neL BK805 hg;have NB827_805:=neG BK805 hg;replace BK805:=bkB BK805 hb;clear hb hbox hg;have:=NB827_805.out;have:=NB805_827.out;have:=bcell BK827 0;have:=bcell BK827 1;have:=bfz BK827 0;have:=bfz BK827 1) | ((with_reducible refine gC 28 rfl ?_);refine gL (some 62) Tryz.func28 #[] ?_;(with_reducible refine (laws_haOk.calls  t828 _ A32.out).mono ?_);rintro e w38 ⟨rfl,hb⟩;refine ⟨_,rfl,?_⟩;replace HO_7:=am (Kd.R_below (by (with_reducible repeat apply ru);exact (Kd.R_mono (Kd.R_far (p:=⟨gb827,1,none⟩) (Kd.R_far (p:=⟨gb827,0,none⟩) (Kd.R_types HO_7.out BK827.out (by decide)) (fun _ hk=>hk.2) (.int .i64 t824)) (fun _ hk=>hk.2) (.int .i64 t825)) (fun _ h_=>h_.1))) hb);replace HO_806000:=am (Kd.R_below (by (with_reducible repeat apply ru);exact (Kd.R_mono (Kd.R_far (p:=⟨gb827,1,none⟩) (Kd.R_far (p:=⟨gb827,0,none⟩) (Kd.R_mono HO_806000.out (fun k_ hk=>(⟨hk,hk.2⟩ : _ ∧ k_ ≠ gb827))) (fun _ hk=>hk.2) (.int .i64 t824)) (fun _ hk=>hk.2) (.int .i64 t825)) (fun _ h_=>h_.1))) hb);replace BK805:=am (blk_below (g:=gb805) (o:=.cells #[.slice Ao10 t800.length co10] 29 (0,0)) (by (with_reducible repeat refine bu ?_);refine blk_far ?_ NB805_827.out _;(with_reducible repeat refine bu ?_);refine blk_far ?_ NB805_827.out _;(with_reducible repeat refine bu ?_);exact BK805.out) hb);replace BK827:=am (blk_below (g:=gb827) (o:=.cells #[.int .i64 t824,.int .i64 t825] 55 (0,0)) (by (with_reducible repeat refine bu ?_);refine blk_put (cs:=#[.int .i64 t824,.int .i64 0]) ?_ 1 _ rfl;(with_reducible repeat refine bu ?_);refine blk_put (cs:=#[.int .i64 0,.int .i64 0]) ?_ 0 _ rfl;(with_reducible repeat refine bu ?_);exact BK827.out) hb);replace HB:=hbS HB hb;(try clear hb);(try clear hk)))
           go_ret
           exact ⟨fi_,m2_⟩
          ·replace c31:=Bool.eq_false_iff.mpr c31
           subst c31
           have H1 : (laws_FnPosPlain.l0 k2 t803 t804 t806 t811 t812 (wrap64 (x9_2 + 1)) t800) = some r:=by rw [if_neg (show ¬ (false = true) by decide)] at H;exact H
           clear H
           have H:=H1
           clear H1
           have H':=am H
           clear H
           obtain ⟨Ao39,co39,eo39⟩:=Kd.R_slice HO_7.out
           subst eo39
           have p823 : 0 ≤ (x9_2 : Int):=of_decide_eq_true da_
           have q823 : x9_2 < (t811.length : Int):=of_decide_eq_true da_
           obtain ⟨ad823,e823,hx823_0⟩:=Kd.at_string (Kd.R_reads' HO_7.out).2.2 x9_2 p823 q823
           cases e823
           replace p823:=eq_true p823
           replace q823:=eq_true q823
           go_wp2_with (first | ((with_reducible refine gC 33 rfl ?_);refine gL (some 58) Tryz.func33 #[.string (rdOf ByteArray.empty t811 x9_2)] ?_;(with_reducible refine (impl_LinSays.calls (rdOf ByteArray.empty t811 x9_2) t824 t825 false _ A30.out (EnvE.below hE (bl HB))).mono ?_);rintro e w40 ⟨rfl,hb⟩;refine ⟨_,rfl,?_⟩;replace HO_7:=am (Kd.R_below (rs HO_7) hb);replace HO_806000:=am (Kd.R_below (rs HO_806000) hb);replace BK805:=bkB BK805 hb;replace HB:=hbS HB hb;(try clear hb)) | ((with_reducible refine gD 10 rfl ?_);refine box_event rfl (N:=10) rfl (cs:=#[.int .i64 0,.int .i64 0]) (t:=55) hr_ ?_;intro gb827 hg w41 hbox hb;replace HO_7:=am (Kd.R_below (rs HO_7) hb);replace HO_806000:=am (Kd.R_below (Kd.R_elderB (rs HO_806000) gb827 (Nat.le_of_eq hg.symm)) hb);have BK827:=am hbox;have GW827:=gwE HB hg;have GE827:=gwE HB hg;replace HB:=hbS HB hb;have NB805_827:=neL BK805 hg;have NB827_805:=neG BK805 hg;replace BK805:=bkB BK805 hb;clear hb hbox hg;have:=NB827_805.out;have:=NB805_827.out;have:=bcell BK827 0;have:=bcell BK827 1;have:=bfz BK827 0;have:=bfz BK827 1))
           go_roundg k2
           case measure=>have:=HJ6.out;have:=HK2.out;omega
           case rel=>exact ⟨(wrap64 (x9_2 + 1)),rs_,H',⟨by have:=HJ6.out;have:=HK2.out;omega⟩,⟨by (with_reducible repeat apply ru);exact Kd.R_mono (Kd.R_far (p:=⟨gb827,1,none⟩) (Kd.R_far (p:=⟨gb827,0,none⟩) (Kd.R_types HO_7.out BK827.out (by decide)) (fun _ hk=>hk.2) (.int .i64 t824)) (fun _ hk=>hk.2) (.int .i64 t825)) (fun _ hk=>trivial)⟩,⟨by (with_reducible repeat apply ru);exact Kd.R_mono (Kd.R_far (p:=⟨gb827,1,none⟩) (Kd.R_far (p:=⟨gb827,0,none⟩) (Kd.R_mono HO_806000.out (fun k_ hk=>(⟨hk,hk.2⟩ : _ ∧ k_ ≠ gb827))) (fun _ hk=>hk.2) (.int .i64 t824)) (fun _ hk=>hk.2) (.int .i64 t825)) (fun _ hk=>trivial)⟩,bf_ BK805,⟨m2_⟩⟩
         ·rw [if_neg c29] at H
          exact absurd H (by simp)
        ·rw [if_neg c28] at H
         have c28b0 : decide (x9_2 < (t811.length : Int)) = false:=decide_eq_false c28
         clear c28
         obtain ⟨⟨t815,t818⟩,A44,H⟩:=bse H
         try dsimp only at H
         by_cases c45 : t818.size + t812.size ≤ 9223372036854775807
         ·rw [if_pos c45] at H
          have c45b0:=eq_true c45
          have c45b1 : decide (t818.size + t812.size ≤ 9223372036854775807) = true:=decide_eq_true c45
          try have c45b2 : (9223372036854775807 < t818.size + t812.size) = False:=eq_false (Nat.not_lt.2 c45)
          by_cases c46 : (t818 ++ t812).toList = t803.toList
          ·rw [if_pos c46] at H
           have c46b0 : ((t818 ++ t812).toList == t803.toList) = true:=beq_iff_eq.mpr c46
           have c46b1 : ((t818 ++ t812).toList != t803.toList) = false:=bne_eq_false_iff_eq.mpr c46
           clear c46
           by_cases c47 : t804 < 0
           ·rw [if_pos c47] at H
            have c47b0 : decide (t804 < 0) = true:=decide_eq_true c47
            clear c47
            obtain ⟨t820,A48,H⟩:=bse H
            try dsimp only at H
            obtain rfl:=Option.some.inj H
            obtain ⟨Ao49,co49,eo49⟩:=Kd.R_slice HO_7.out
            subst eo49
            have:=bcell BK805 0
            have:=bfz BK805 0
            go_wp2_with (first | ((with_reducible refine gC 30 rfl ?_);refine gL (some 66) Tryz.func30 #[.agg #[.slice Ao10 t800.length co10],.string t803] ?_;(with_reducible refine (impl_RwrStream.calls k2 _ _ t800 t803 t815 t818 _ ?side1 ?side2 A44.out (EnvE.below hE (bl HB))).mono ?_);(case side1=>exact rcx HO_806000);(case side2=>exact (Kd.R_reads' HO_806000.out).2.1);rintro e w51 ⟨v816,rfl,ho0,hb⟩;refine ⟨_,rfl,?_⟩;replace HO_7:=am (Kd.R_below (rs HO_7) hb);have HO817:=am (Kd.R_lower (Kd.R_new' ho0 (Kd.R_lt (rs HO_806000))) (below_size (bl HB)));replace HO_806000:=am (Kd.R_elder' (rs HO_806000) (Kd.R_base ho0) hb);replace BK805:=bkB BK805 hb;replace HB:=hbS HB hb;(try clear hb);(try clear ho0)) | ((with_reducible refine gD 12 rfl ?_);refine box_event rfl (N:=12) rfl (cs:=#[.slice none 0 0]) (t:=29) hr_ ?_;intro gb819 hg w52 hbox hb;replace HO_7:=am (Kd.R_below (rs HO_7) hb);replace HO_806000:=am (Kd.R_below (rs HO_806000) hb);replace HO817:=am (Kd.R_below (rs HO817) hb);have BK819:=am hbox;have GW819:=gwE HB hg;have GE819:=gwE HB hg;replace HB:=hbS HB hb;have NB805_819:=neL BK805 hg;have NB819_805:=neG BK805 hg;replace BK805:=bkB BK805 hb;clear hb hbox hg;obtain ⟨Ao53,co53,eo53⟩:=Kd.R_slice HO817.out;subst eo53;have:=NB819_805.out;have:=NB805_819.out;have:=bcell BK819 0;have:=bfz BK819 0) | (go_at_call 28;(with_reducible refine (laws_haOk.calls  t820 _ A48.out).mono ?_);rintro e w56 ⟨rfl,hb⟩;replace HO_7:=am (Kd.R_below (by (with_reducible repeat apply ru);exact (Kd.R_mono (Kd.R_far (p:=⟨gb819,0,none⟩) (Kd.R_types HO_7.out BK819.out (by decide)) (fun _ hk=>hk.2) (.slice Ao53 t815.length co53)) (fun _ h_=>h_.1))) hb);replace HO_806000:=am (Kd.R_below (by (with_reducible repeat apply ru);exact (Kd.R_mono (Kd.R_far (p:=⟨gb819,0,none⟩) (Kd.R_types HO_806000.out BK819.out (by decide)) (fun _ hk=>hk.2) (.slice Ao53 t815.length co53)) (fun _ h_=>h_.1))) hb);replace HO817:=am (Kd.R_below (by (with_reducible repeat apply ru);exact (Kd.R_mono (Kd.R_far (p:=⟨gb819,0,none⟩) (Kd.R_types HO817.out BK819.out (by decide)) (fun _ hk=>hk.2) (.slice Ao53 t815.length co53)) (fun _ h_=>h_.1))) hb);replace BK805:=am (blk_below (g:=gb805) (o:=.cells #[.slice Ao10 t800.length co10] 29 (0,0)) (by (with_reducible repeat refine bu ?_);refine blk_far ?_ NB805_819.out _;(with_reducible repeat refine bu ?_);exact BK805.out) hb);replace BK819:=am (blk_below (g:=gb819) (o:=.cells #[.slice Ao53 t815.length co53] 29 (0,0)) (by (with_reducible repeat refine bu ?_);refine blk_put (cs:=#[.slice none 0 0]) ?_ 0 _ rfl;(with_reducible repeat refine bu ?_);exact BK819.out) hb);replace HB:=hbS HB hb;(try clear hb);(try clear hk)))
            go_ret
            exact ⟨fi_,m2_⟩
           ·rw [if_neg c47] at H
            have c47b0 : decide (t804 < 0) = false:=decide_eq_false c47
            clear c47
            by_cases c57 : t804 > (t818.size : Int)
            ·rw [if_pos c57] at H
             have c57b0 : decide ((t818.size : Int) < t804) = true:=decide_eq_true c57
             clear c57
             obtain ⟨t821,A58,H⟩:=bse H
             try dsimp only at H
             obtain rfl:=Option.some.inj H
             obtain ⟨Ao59,co59,eo59⟩:=Kd.R_slice HO_7.out
             subst eo59
             have:=bcell BK805 0
             have:=bfz BK805 0
             go_wp2_with (first | ((with_reducible refine gC 30 rfl ?_);refine gL (some 66) Tryz.func30 #[.agg #[.slice Ao10 t800.length co10],.string t803] ?_;(with_reducible refine (impl_RwrStream.calls k2 _ _ t800 t803 t815 t818 _ ?side1 ?side2 A44.out (EnvE.below hE (bl HB))).mono ?_);(case side1=>exact rcx HO_806000);(case side2=>exact (Kd.R_reads' HO_806000.out).2.1);rintro e w61 ⟨v816,rfl,ho0,hb⟩;refine ⟨_,rfl,?_⟩;replace HO_7:=am (Kd.R_below (rs HO_7) hb);have HO817:=am (Kd.R_lower (Kd.R_new' ho0 (Kd.R_lt (rs HO_806000))) (below_size (bl HB)));replace HO_806000:=am (Kd.R_elder' (rs HO_806000) (Kd.R_base ho0) hb);replace BK805:=bkB BK805 hb;replace HB:=hbS HB hb;(try clear hb);(try clear ho0)) | ((with_reducible refine gD 12 rfl ?_);refine box_event rfl (N:=12) rfl (cs:=#[.slice none 0 0]) (t:=29) hr_ ?_;intro gb819 hg w62 hbox hb;replace HO_7:=am (Kd.R_below (rs HO_7) hb);replace HO_806000:=am (Kd.R_below (rs HO_806000) hb);replace HO817:=am (Kd.R_below (rs HO817) hb);have BK819:=am hbox;have GW819:=gwE HB hg;have GE819:=gwE HB hg;replace HB:=hbS HB hb;have NB805_819:=neL BK805 hg;have NB819_805:=neG BK805 hg;replace BK805:=bkB BK805 hb;clear hb hbox hg;obtain ⟨Ao63,co63,eo63⟩:=Kd.R_slice HO817.out;subst eo63;have:=NB819_805.out;have:=NB805_819.out;have:=bcell BK819 0;have:=bfz BK819 0) | (go_at_call 28;(with_reducible refine (laws_haOk.calls  t821 _ A58.out).mono ?_);rintro e w66 ⟨rfl,hb⟩;replace HO_7:=am (Kd.R_below (by (with_reducible repeat apply ru);exact (Kd.R_mono (Kd.R_far (p:=⟨gb819,0,none⟩) (Kd.R_types HO_7.out BK819.out (by decide)) (fun _ hk=>hk.2) (.slice Ao63 t815.length co63)) (fun _ h_=>h_.1))) hb);replace HO_806000:=am (Kd.R_below (by (with_reducible repeat apply ru);exact (Kd.R_mono (Kd.R_far (p:=⟨gb819,0,none⟩) (Kd.R_types HO_806000.out BK819.out (by decide)) (fun _ hk=>hk.2) (.slice Ao63 t815.length co63)) (fun _ h_=>h_.1))) hb);replace HO817:=am (Kd.R_below (by (with_reducible repeat apply ru);exact (Kd.R_mono (Kd.R_far (p:=⟨gb819,0,none⟩) (Kd.R_types HO817.out BK819.out (by decide)) (fun _ hk=>hk.2) (.slice Ao63 t815.length co63)) (fun _ h_=>h_.1))) hb);replace BK805:=am (blk_below (g:=gb805) (o:=.cells #[.slice Ao10 t800.length co10] 29 (0,0)) (by (with_reducible repeat refine bu ?_);refine blk_far ?_ NB805_819.out _;(with_reducible repeat refine bu ?_);exact BK805.out) hb);replace BK819:=am (blk_below (g:=gb819) (o:=.cells #[.slice Ao63 t815.length co63] 29 (0,0)) (by (with_reducible repeat refine bu ?_);refine blk_put (cs:=#[.slice none 0 0]) ?_ 0 _ rfl;(with_reducible repeat refine bu ?_);exact BK819.out) hb);replace HB:=hbS HB hb;(try clear hb);(try clear hk)))
             go_ret
             exact ⟨fi_,m2_⟩
            ·rw [if_neg c57] at H
             have c57b0 : decide ((t818.size : Int) < t804) = false:=decide_eq_false c57
             clear c57
             by_cases c67 : t806 = t804
             ·rw [if_pos c67] at H
              have c67b0 : (t806 == t804) = true:=beq_iff_eq.mpr c67
              have c67b1 : (t806 != t804) = false:=bne_eq_false_iff_eq.mpr c67
              clear c67
              obtain ⟨t822,A68,H⟩:=bse H
              try dsimp only at H
              obtain rfl:=Option.some.inj H
              obtain ⟨Ao69,co69,eo69⟩:=Kd.R_slice HO_7.out
              subst eo69
              have:=bcell BK805 0
              have:=bfz BK805 0
              go_wp2_with (first | ((with_reducible refine gC 30 rfl ?_);refine gL (some 66) Tryz.func30 #[.agg #[.slice Ao10 t800.length co10],.string t803] ?_;(with_reducible refine (impl_RwrStream.calls k2 _ _ t800 t803 t815 t818 _ ?side1 ?side2 A44.out (EnvE.below hE (bl HB))).mono ?_);(case side1=>exact rcx HO_806000);(case side2=>exact (Kd.R_reads' HO_806000.out).2.1);rintro e w71 ⟨v816,rfl,ho0,hb⟩;refine ⟨_,rfl,?_⟩;replace HO_7:=am (Kd.R_below (rs HO_7) hb);have HO817:=am (Kd.R_lower (Kd.R_new' ho0 (Kd.R_lt (rs HO_806000))) (below_size (bl HB)));replace HO_806000:=am (Kd.R_elder' (rs HO_806000) (Kd.R_base ho0) hb);replace BK805:=bkB BK805 hb;replace HB:=hbS HB hb;(try clear hb);(try clear ho0)) | ((with_reducible refine gD 12 rfl ?_);refine box_event rfl (N:=12) rfl (cs:=#[.slice none 0 0]) (t:=29) hr_ ?_;intro gb819 hg w72 hbox hb;replace HO_7:=am (Kd.R_below (rs HO_7) hb);replace HO_806000:=am (Kd.R_below (rs HO_806000) hb);replace HO817:=am (Kd.R_below (rs HO817) hb);have BK819:=am hbox;have GW819:=gwE HB hg;have GE819:=gwE HB hg;replace HB:=hbS HB hb;have NB805_819:=neL BK805 hg;have NB819_805:=neG BK805 hg;replace BK805:=bkB BK805 hb;clear hb hbox hg;obtain ⟨Ao73,co73,eo73⟩:=Kd.R_slice HO817.out;subst eo73;have:=NB819_805.out;have:=NB805_819.out;have:=bcell BK819 0;have:=bfz BK819 0) | (go_at_call 28;(with_reducible refine (laws_haOk.calls  t822 _ A68.out).mono ?_);rintro e w76 ⟨rfl,hb⟩;replace HO_7:=am (Kd.R_below (by (with_reducible repeat apply ru);exact (Kd.R_mono (Kd.R_far (p:=⟨gb819,0,none⟩) (Kd.R_types HO_7.out BK819.out (by decide)) (fun _ hk=>hk.2) (.slice Ao73 t815.length co73)) (fun _ h_=>h_.1))) hb);replace HO_806000:=am (Kd.R_below (by (with_reducible repeat apply ru);exact (Kd.R_mono (Kd.R_far (p:=⟨gb819,0,none⟩) (Kd.R_types HO_806000.out BK819.out (by decide)) (fun _ hk=>hk.2) (.slice Ao73 t815.length co73)) (fun _ h_=>h_.1))) hb);replace HO817:=am (Kd.R_below (by (with_reducible repeat apply ru);exact (Kd.R_mono (Kd.R_far (p:=⟨gb819,0,none⟩) (Kd.R_types HO817.out BK819.out (by decide)) (fun _ hk=>hk.2) (.slice Ao73 t815.length co73)) (fun _ h_=>h_.1))) hb);replace BK805:=am (blk_below (g:=gb805) (o:=.cells #[.slice Ao10 t800.length co10] 29 (0,0)) (by (with_reducible repeat refine bu ?_);refine blk_far ?_ NB805_819.out _;(with_reducible repeat refine bu ?_);exact BK805.out) hb);replace BK819:=am (blk_below (g:=gb819) (o:=.cells #[.slice Ao73 t815.length co73] 29 (0,0)) (by (with_reducible repeat refine bu ?_);refine blk_put (cs:=#[.slice none 0 0]) ?_ 0 _ rfl;(with_reducible repeat refine bu ?_);exact BK819.out) hb);replace HB:=hbS HB hb;(try clear hb);(try clear hk)))
              go_ret
              exact ⟨fi_,m2_⟩
             ·rw [if_neg c67] at H
              have c67b0 : (t806 == t804) = false:=beq_eq_false_iff_ne.mpr c67
              have c67b1 : (t806 != t804) = true:=bne_iff_ne.mpr c67
              exact absurd ((Option.some.inj H).trans hrt.out) (by decide)
          ·rw [if_neg c46] at H
           have c46b0 : ((t818 ++ t812).toList == t803.toList) = false:=beq_eq_false_iff_ne.mpr c46
           have c46b1 : ((t818 ++ t812).toList != t803.toList) = true:=bne_iff_ne.mpr c46
           exact absurd ((Option.some.inj H).trans hrt.out) (by decide)
         ·rw [if_neg c45] at H
          exact absurd H (by simp)
  ·rw [if_neg c6] at H
   have c6b0 : (t806 == t807) = false:=beq_eq_false_iff_ne.mpr c6
   have c6b1 : (t806 != t807) = true:=bne_iff_ne.mpr c6
   exact absurd ((Option.some.inj H).trans hrt.out) (by decide)
def laws_FnPosPlain.Pure : Prop:=∀ (l0 : List Int),l0.length ≤ maxLen → l0.length * 1 ≤ 140737488351232 → (∀ x ∈ l0,(Lit.int .u8 x).wf = true) → ∃ k,laws_FnPosPlain.f k l0 = some true
theorem laws_FnPosPlain.walk (P : laws_FnPosPlain.Pure) (a0 : Option Addr) (len0 cap0 : Nat) (z0 : List Int) (w : World) (w0 : (a0 = none ∧ len0 = 0 ∧ cap0 = 0 ∧ z0 = []) ∨ ∃ x,a0 = some x ∧ len0 ≤ cap0 ∧ cap0 ≤ maxLen ∧ z0.length = cap0 ∧ (∀ i,i < z0.length → w.cell? (x.add i) = some (.int .u8 (z0.getD i 0))) ∧ ∀ n ∈ z0,(Lit.int .u8 n).wf = true) (y0 : len0 * 1 ≤ 140737488351232) (hE : EnvE w) :
  Calls Tryz.prog 9 #[.slice a0 len0 cap0] w fun e w'=>e = .returned (.bool true) ∧ Below w.heap.size w w':=by
 obtain ⟨l0,rfl,hr0,hm0,hw0,hc0⟩:=ReadsInt.ofRowC w0
 obtain ⟨k,h⟩:=P l0 hm0 y0 hw0
 refine (laws_FnPosPlain.calls k _ _ l0 true w (Kd.C_of_reads (d:=(0 : Int)) (h1:=fun _=>rfl) hr0) hc0 h ⟨rfl⟩ hE).mono ?_
 rintro e w' ⟨rfl,hd⟩
 exact ⟨rfl,hd⟩
end
theorem join_lines : ∀ (l : List UInt8) (w : ByteArray),joinS (lineL w l) ++ restL w l = w ++ ⟨l.toArray⟩
  | [],w=>by rw [lineL,restL];exact bax (by simp [joinS])
  | c :: l,w=>by
    by_cases h : c = 59
    · have e:=join_lines l ⟨#[]⟩
      rw [lineL,if_pos h,restL,if_pos h,joinS]
      have e2 : joinS (lineL ⟨#[]⟩ l) ++ restL ⟨#[]⟩ l = ⟨l.toArray⟩:=by rw [e];exact bax (by simp)
      rw [show (w ++ (⟨#[59]⟩ : ByteArray)) ++ joinS (lineL ⟨#[]⟩ l) ++ restL ⟨#[]⟩ l = (w ++ (⟨#[59]⟩ : ByteArray)) ++ (joinS (lineL ⟨#[]⟩ l) ++ restL ⟨#[]⟩ l) from bax (by simp),e2,h]
      exact bax (by simp)
    · have e:=join_lines l (w ++ ⟨#[c]⟩)
      rw [lineL,if_neg h,restL,if_neg h,e]
      exact bax (by simp)
theorem join_rest (s : ByteArray) : joinS (linesB s) ++ restB s = s:=by
  have e : joinS (linesB s) ++ restB s = (⟨#[]⟩ : ByteArray) ++ ⟨s.data.toList.toArray⟩:=join_lines s.data.toList ⟨#[]⟩
  rw [e]
  exact bax (by simp)
theorem pos_plain {t : List S55} {s : ByteArray} (c : okT t = true) (cs : strOkW s = true) (hn : ∀ y ∈ linesB s,saysW y = none) :
    joinS (farsL t (linesB s)) = joinS (linesB s) ∧ ∀ x,0 ≤ x → x ≤ ((joinS (linesB s)).size : Int) → thereW (posL t s) x = x:=by
  obtain ⟨R,hl,hA,hB⟩:=pos_rises c cs
  have e:=(fars_again (linesB s) t hn).1
  rw [e] at R hB
  refine ⟨by rw [e],fun x h0 h1=>R.same (fun i hi=>rfl) (fun i hi=>?_) h0 ?_⟩
  · rw [hl] at hi
    unfold plainQ
    exact beq_self_eq_true _
  · rw [← hB] at h1;exact h1
theorem laws_FnPosPlain.pure : laws_FnPosPlain.Pure:=by
  intro l0 _ _ hw0
  have hb0 : Bys l0:=bys_of hw0
  have OK : ∀ {α : Type} (v : Bool),v = true → Ans (fun _ : Nat=>(laws_haOk.f).bind fun t=>(some t)) (fun v=>v = true):=by
    intro _ v _
    rw [haOk_f]
    exact Ans.bsome (Ans.pure rfl)
  have J : ∀ (s : ByteArray) (x n : Int) (t : List S55),Ans (fun k=>laws_FnPosPlain.j0 k s x n true t) (fun v=>v = true):=by
    intro s x n t
    refine Ans.succ ?_
    unfold laws_FnPosPlain.j0
    exact Ans.pos rfl (OK (α:=Unit) true rfl)
  have A : Ans (fun k=>laws_FnPosPlain.f k l0) (fun r=>r = true):=by
    unfold laws_FnPosPlain.f
    refine Ans.ite (fun _=>Ans.pure rfl) (fun _=>?_)
    refine Ans.bind (drawPosBack_a hb0) ?_
    rintro ⟨t,s,x⟩ ⟨ht,hs⟩
    dsimp only at *
    refine Ans.bind (implPosBack_a t (by omega) s (by omega) x) ?_
    rintro _ rfl
    refine Ans.bind (specPosBack_a t (by omega) s (by omega) x) ?_
    rintro _ rfl
    refine Ans.pos rfl (Ans.bind (specMapOk_a t (by omega)) ?_)
    rintro _ rfl
    cases c : okT t with
    | false=>exact Ans.neg (by simp) (J s _ _ t)
    | true=>
      refine Ans.pos rfl (Ans.bind (specStrOk_a s (by omega)) ?_)
      rintro _ rfl
      cases cs : strOkW s with
      | false=>exact J s _ _ t
      | true=>
        obtain ⟨h120,hall,_⟩:=strOkW_parts cs
        have hz:=(linesB_size s).1
        refine Ans.succ ?_
        unfold laws_FnPosPlain.j0
        refine Ans.neg (by simp) ?_
        rw [implStrLines_f (by omega)]
        refine Ans.bsome ?_
        dsimp only
        have hj:=join_rest s
        have hp:=fun h=>pos_plain (t:=t) c cs h
        obtain ⟨n,hn⟩ : ∃ n,thereW (posL t s) x = n:=⟨_,rfl⟩
        have hp' : (∀ y ∈ linesB s,saysW y = none) → joinS (farsL t (linesB s)) = joinS (linesB s) ∧ (0 ≤ x → x ≤ ((joinS (linesB s)).size : Int) → n = x):=fun h=>⟨(hp h).1,fun h0 h1=>by rw [← hn];exact (hp h).2 x h0 h1⟩
        have hjs : (joinS (linesB s)).size + (restB s).size = s.size:=by rw [← ByteArray.size_append,hj]
        rw [hn]
        clear hp hn
        have HP:=Lib.hid hp'
        have HJ:=Lib.hid hj
        have HJS:=Lib.hid hjs
        have RW:=implRwrStream_a t (by omega) s (by omega)
        rw [rwrStream_ok c cs] at RW
        clear hp' hj hjs
        have L : ∀ (m i : Nat),(linesB s).length - i = m → i ≤ (linesB s).length → (∀ y ∈ (linesB s).take i,saysW y = none) → Ans (fun k=>laws_FnPosPlain.l0 k s x n (linesB s) (restB s) (i : Int) t) (fun v=>v = true):=by
          intro m
          induction m with
          | zero=>
            intro i hm hi hx
            rw [List.take_of_length_le (by omega)] at hx
            obtain ⟨p1,p2⟩:=HP.out hx
            refine Ans.succ ?_
            unfold laws_FnPosPlain.l0
            refine Ans.neg (by omega) (Ans.bind RW ?_)
            rintro _ rfl
            dsimp only
            rw [p1]
            refine Ans.pos (by rw [HJS.out];omega) (Ans.pos (by rw [HJ.out]) (Ans.ite (fun _=>OK (α:=Unit) true rfl) (fun c1=>Ans.ite (fun _=>OK (α:=Unit) true rfl) (fun c2=>Ans.pos (p2 (Int.not_lt.mp c1) (Int.not_lt.mp c2)) (OK (α:=Unit) true rfl)))))
          | succ m ih=>
            intro i hm hi hx
            have hlt : i < (linesB s).length:=by omega
            have hxl : linOk (linesB s)[i] = true:=List.all_eq_true.mp hall _ (List.getElem_mem hlt)
            have hsz:=linOk_size hxl
            refine Ans.succ ?_
            unfold laws_FnPosPlain.l0
            rw [show wrap64 ((i : Int) + 1) = ((i + 1 : Nat) : Int) from w64 _ (by omega),rdOf_get hlt]
            refine Ans.pos (by omega) (Ans.pos (by omega) ?_)
            rw [implLinSays_f (by omega)]
            refine Ans.bsome ?_
            cases hh : saysW (linesB s)[i] with
            | some q=>
              obtain ⟨a,p⟩:=q
              unfold saysT
              rw [hh]
              exact Ans.pos rfl (OK (α:=Unit) true rfl)
            | none=>
              unfold saysT
              rw [hh]
              refine Ans.neg (by simp) (ih (i + 1) (by omega) (by omega) (fun y hy=>?_))
              rw [List.take_succ_eq_append_getElem hlt] at hy
              rcases List.mem_append.mp hy with h | h
              · exact hx y h
              · rw [List.mem_singleton.mp h];exact hh
        exact L _ 0 rfl (Nat.zero_le _) (fun y hy=>by simp at hy)
  obtain ⟨k,v,rfl,h⟩:=A.got
  exact ⟨k,h⟩
end Go.Proofs.YtakfmcpjnkagmaaGreatDoor.P
namespace Go.Proofs.YtakfmcpjnkagmaaGreatDoor.Pure
theorem FnPosPlain : P.laws_FnPosPlain.Pure:=P.laws_FnPosPlain.pure
end Go.Proofs.YtakfmcpjnkagmaaGreatDoor.Pure
