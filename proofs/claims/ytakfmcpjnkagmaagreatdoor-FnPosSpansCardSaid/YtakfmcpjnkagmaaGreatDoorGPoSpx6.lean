import Derived.Test.YtakfmcpjnkagmaaGreatDoorGPoSpx5
import Derived.Lib.SplitLaws
namespace Go.Proofs.YtakfmcpjnkagmaaGreatDoor.P
open Go.Proofs.YtakfmcpjnkagmaaGreatDoorUPoSp.PrintLast Go.Proofs.YtakfmcpjnkagmaaGreatDoorUPoSp.PrintMore Go.Proofs.YtakfmcpjnkagmaaGreatDoorUPoSp.PrintWords Go.RowKit
set_option linter.unusedVariables false
set_option linter.unusedSimpArgs false
section
attribute [local go_sem] max2_int min2_int max_two min_two max_three min_three max_four min_four
mutual
def laws_FnPosSpans.j0 : Nat → ByteArray → List (S50) → Bool → List (S55) → Option (Bool)
 | 0,_,_,_,_=>none
 | k + 1,x4,x5,x38,x710000=>if x38 = true then (if (x5.length : Int) = 0 then ((laws_haOk.f).bind fun t719=>(some t719)) else (some false)) else ((impl_StrLines.f x4).bind fun bt720=>((impl_RwrStream.f k x710000 x4).bind fun bt724=>(if (x5.length : Int) = (bt720.1.length : Int) then (laws_FnPosSpans.l0 k x4 x5 bt720.1 bt724.2 0 0 0) else (some false))))
def laws_FnPosSpans.l0 : Nat → ByteArray → List (S50) → List ByteArray → ByteArray → Int → Int → Int → Option (Bool)
 | 0,_,_,_,_,_,_,_=>none
 | k + 1,x4,x5,x6,x9,x10,x11,x12=>if x12 < (x5.length : Int) then (if 0 ≤ x12 then (if ((rd_T50 x5 x12).f0) = x10 then (if ((rd_T50 x5 x12).f2) = x11 then (if x12 < (x6.length : Int) then (if ((rd_T50 x5 x12).f1) = (wrap64 ((wrap64 (x10 + ((rdOf ByteArray.empty x6 x12).size : Int))) + 1)) then (if ((rd_T50 x5 x12).f3) ≤ ((rd_T50 x5 x12).f2) then (laws_FnPosSpans.j2 k x4 x5 x6 x9 x12 true ((rd_T50 x5 x12).f0) ((rd_T50 x5 x12).f1) ((rd_T50 x5 x12).f2) ((rd_T50 x5 x12).f3) ((rd_T50 x5 x12).f4)) else (if ((rd_T50 x5 x12).f3) > (x9.size : Int) then (laws_FnPosSpans.j2 k x4 x5 x6 x9 x12 true ((rd_T50 x5 x12).f0) ((rd_T50 x5 x12).f1) ((rd_T50 x5 x12).f2) ((rd_T50 x5 x12).f3) ((rd_T50 x5 x12).f4)) else (if 0 ≤ ((rd_T50 x5 x12).f0) then (if ((rd_T50 x5 x12).f0) ≤ ((rd_T50 x5 x12).f1) then (if ((rd_T50 x5 x12).f1) ≤ (x4.size : Int) then (if (rdOf ByteArray.empty x6 x12).size + 1 ≤ 9223372036854775807 then (if (x4.extract (((rd_T50 x5 x12).f0) : Int).toNat (((rd_T50 x5 x12).f1) : Int).toNat).toList = ((rdOf ByteArray.empty x6 x12) ++ (⟨#[59]⟩ : ByteArray)).toList then (if 0 ≤ (wrap64 (((rd_T50 x5 x12).f3) - 1)) then (if (wrap64 (((rd_T50 x5 x12).f3) - 1)) < (x9.size : Int) then (laws_FnPosSpans.j2 k x4 x5 x6 x9 x12 ((bt x9 (wrap64 (((rd_T50 x5 x12).f3) - 1))) != 59) ((rd_T50 x5 x12).f0) ((rd_T50 x5 x12).f1) ((rd_T50 x5 x12).f2) ((rd_T50 x5 x12).f3) ((rd_T50 x5 x12).f4)) else (none)) else (none)) else (laws_FnPosSpans.j2 k x4 x5 x6 x9 x12 true ((rd_T50 x5 x12).f0) ((rd_T50 x5 x12).f1) ((rd_T50 x5 x12).f2) ((rd_T50 x5 x12).f3) ((rd_T50 x5 x12).f4))) else (none)) else (none)) else (none)) else (none)))) else (laws_FnPosSpans.j2 k x4 x5 x6 x9 x12 true ((rd_T50 x5 x12).f0) ((rd_T50 x5 x12).f1) ((rd_T50 x5 x12).f2) ((rd_T50 x5 x12).f3) ((rd_T50 x5 x12).f4))) else (none)) else (laws_FnPosSpans.j2 k x4 x5 x6 x9 x12 true ((rd_T50 x5 x12).f0) ((rd_T50 x5 x12).f1) ((rd_T50 x5 x12).f2) ((rd_T50 x5 x12).f3) ((rd_T50 x5 x12).f4))) else (laws_FnPosSpans.j2 k x4 x5 x6 x9 x12 true ((rd_T50 x5 x12).f0) ((rd_T50 x5 x12).f1) ((rd_T50 x5 x12).f2) ((rd_T50 x5 x12).f3) ((rd_T50 x5 x12).f4))) else (none)) else (some (x11 == (x9.size : Int)))
def laws_FnPosSpans.j2 : Nat → ByteArray → List (S50) → List ByteArray → ByteArray → Int → Bool → Int → Int → Int → Int → Bool → Option (Bool)
 | 0,_,_,_,_,_,_,_,_,_,_,_=>none
 | k + 1,x4,x5,x6,x9,x12,x129,x731000,x731001,x731002,x731003,x731004=>if x129 = true then (some false) else (if 0 ≤ x731002 then (if x731002 ≤ x731003 then (if x731003 ≤ (x9.size : Int) then (if 0 ≤ x731000 then (if x731000 ≤ x731001 then (if x731001 ≤ (x4.size : Int) then (if (x731004 != ((x9.extract (x731002 : Int).toNat (x731003 : Int).toNat).toList == (x4.extract (x731000 : Int).toNat (x731001 : Int).toNat).toList)) = true then (some false) else (laws_FnPosSpans.l0 k x4 x5 x6 x9 x731001 x731003 (wrap64 (x12 + 1)))) else (none)) else (none)) else (none)) else (none)) else (none)) else (none))
end
def laws_FnPosSpans.f (k : Nat) (l0 : List Int) : Option (Bool):=if (l0.length : Int) > 1048576 then (some true) else ((spec_DrawPosSpans.f k l0).bind fun bt705=>((impl_PosSpans.f k bt705.1 bt705.2).bind fun t710=>((spec_PosSpans.f k bt705.1 bt705.2).bind fun t713=>((laws_haSpans.f k t710 t713).bind fun t716=>(if t716 = true then ((spec_MapOk.f k bt705.1).bind fun t717=>(if t717 = true then ((spec_StrOk.f k bt705.2).bind fun t718=>(laws_FnPosSpans.j0 k bt705.2 t710 (!t718) bt705.1)) else (laws_FnPosSpans.j0 k bt705.2 t710 true bt705.1))) else (some false))))))
theorem laws_FnPosSpans.mono_l : ∀ k,(∀ y0 y1 y2 y3,LeO (laws_FnPosSpans.j0 k y0 y1 y2 y3) (laws_FnPosSpans.j0 (k + 1) y0 y1 y2 y3)) ∧ (∀ y0 y1 y2 y3 y4 y5 y6,LeO (laws_FnPosSpans.l0 k y0 y1 y2 y3 y4 y5 y6) (laws_FnPosSpans.l0 (k + 1) y0 y1 y2 y3 y4 y5 y6)) ∧ (∀ y0 y1 y2 y3 y4 y5 y6 y7 y8 y9 y10,LeO (laws_FnPosSpans.j2 k y0 y1 y2 y3 y4 y5 y6 y7 y8 y9 y10) (laws_FnPosSpans.j2 (k + 1) y0 y1 y2 y3 y4 y5 y6 y7 y8 y9 y10))
 | 0=>⟨fun _ _ _ _ r h=>by simp [laws_FnPosSpans.j0] at h,fun _ _ _ _ _ _ _ r h=>by simp [laws_FnPosSpans.l0] at h,fun _ _ _ _ _ _ _ _ _ _ _ r h=>by simp [laws_FnPosSpans.j2] at h⟩
 | k + 1=>by
  obtain ⟨ih0,ih1,ih2⟩:=laws_FnPosSpans.mono_l k
  refine ⟨?_,?_,?_⟩
  ·intro y0 y1 y2 y3
   unfold laws_FnPosSpans.j0
   repeat' first | (with_reducible first | exact ih0 _ _ _ _ | exact ih1 _ _ _ _ _ _ _ | exact ih2 _ _ _ _ _ _ _ _ _ _ _ | exact impl_PosSpans.mono _ _ _ | exact impl_RwrStream.mono _ _ _ | exact laws_haSpans.mono _ _ _ | exact spec_DrawPosSpans.mono _ _ | exact spec_MapOk.mono _ _ | exact spec_PosSpans.mono _ _ _ | exact spec_StrOk.mono _ _ | exact LeO.refl _ | exact LeO.none _ | refine LeO.ite ?_ ?_ | refine LeO.bind ?_ (fun _=>?_)) | exact ih0 _ _ _ _ | exact ih1 _ _ _ _ _ _ _ | exact ih2 _ _ _ _ _ _ _ _ _ _ _ | exact impl_PosSpans.mono _ _ _ | exact impl_RwrStream.mono _ _ _ | exact laws_haSpans.mono _ _ _ | exact spec_DrawPosSpans.mono _ _ | exact spec_MapOk.mono _ _ | exact spec_PosSpans.mono _ _ _ | exact spec_StrOk.mono _ _ | exact LeO.none _ | refine LeO.ite ?_ ?_ | refine LeO.bind ?_ (fun _=>?_)
  ·intro y0 y1 y2 y3 y4 y5 y6
   unfold laws_FnPosSpans.l0
   repeat' first | (with_reducible first | exact ih0 _ _ _ _ | exact ih1 _ _ _ _ _ _ _ | exact ih2 _ _ _ _ _ _ _ _ _ _ _ | exact impl_PosSpans.mono _ _ _ | exact impl_RwrStream.mono _ _ _ | exact laws_haSpans.mono _ _ _ | exact spec_DrawPosSpans.mono _ _ | exact spec_MapOk.mono _ _ | exact spec_PosSpans.mono _ _ _ | exact spec_StrOk.mono _ _ | exact LeO.refl _ | exact LeO.none _ | refine LeO.ite ?_ ?_ | refine LeO.bind ?_ (fun _=>?_)) | exact ih0 _ _ _ _ | exact ih1 _ _ _ _ _ _ _ | exact ih2 _ _ _ _ _ _ _ _ _ _ _ | exact impl_PosSpans.mono _ _ _ | exact impl_RwrStream.mono _ _ _ | exact laws_haSpans.mono _ _ _ | exact spec_DrawPosSpans.mono _ _ | exact spec_MapOk.mono _ _ | exact spec_PosSpans.mono _ _ _ | exact spec_StrOk.mono _ _ | exact LeO.none _ | refine LeO.ite ?_ ?_ | refine LeO.bind ?_ (fun _=>?_)
  ·intro y0 y1 y2 y3 y4 y5 y6 y7 y8 y9 y10
   unfold laws_FnPosSpans.j2
   repeat' first | (with_reducible first | exact ih0 _ _ _ _ | exact ih1 _ _ _ _ _ _ _ | exact ih2 _ _ _ _ _ _ _ _ _ _ _ | exact impl_PosSpans.mono _ _ _ | exact impl_RwrStream.mono _ _ _ | exact laws_haSpans.mono _ _ _ | exact spec_DrawPosSpans.mono _ _ | exact spec_MapOk.mono _ _ | exact spec_PosSpans.mono _ _ _ | exact spec_StrOk.mono _ _ | exact LeO.refl _ | exact LeO.none _ | refine LeO.ite ?_ ?_ | refine LeO.bind ?_ (fun _=>?_)) | exact ih0 _ _ _ _ | exact ih1 _ _ _ _ _ _ _ | exact ih2 _ _ _ _ _ _ _ _ _ _ _ | exact impl_PosSpans.mono _ _ _ | exact impl_RwrStream.mono _ _ _ | exact laws_haSpans.mono _ _ _ | exact spec_DrawPosSpans.mono _ _ | exact spec_MapOk.mono _ _ | exact spec_PosSpans.mono _ _ _ | exact spec_StrOk.mono _ _ | exact LeO.none _ | refine LeO.ite ?_ ?_ | refine LeO.bind ?_ (fun _=>?_)
theorem laws_FnPosSpans.mono : ∀ a0 k,LeO (laws_FnPosSpans.f k a0) (laws_FnPosSpans.f (k + 1) a0):=by
 intro a0 k
 obtain ⟨ih0,ih1,ih2⟩:=laws_FnPosSpans.mono_l k
 unfold laws_FnPosSpans.f
 repeat' first | (with_reducible first | exact ih0 _ _ _ _ | exact ih1 _ _ _ _ _ _ _ | exact ih2 _ _ _ _ _ _ _ _ _ _ _ | exact impl_PosSpans.mono _ _ _ | exact impl_RwrStream.mono _ _ _ | exact laws_haSpans.mono _ _ _ | exact spec_DrawPosSpans.mono _ _ | exact spec_MapOk.mono _ _ | exact spec_PosSpans.mono _ _ _ | exact spec_StrOk.mono _ _ | exact LeO.refl _ | exact LeO.none _ | refine LeO.ite ?_ ?_ | refine LeO.bind ?_ (fun _=>?_)) | exact ih0 _ _ _ _ | exact ih1 _ _ _ _ _ _ _ | exact ih2 _ _ _ _ _ _ _ _ _ _ _ | exact impl_PosSpans.mono _ _ _ | exact impl_RwrStream.mono _ _ _ | exact laws_haSpans.mono _ _ _ | exact spec_DrawPosSpans.mono _ _ | exact spec_MapOk.mono _ _ | exact spec_PosSpans.mono _ _ _ | exact spec_StrOk.mono _ _ | exact LeO.none _ | refine LeO.ite ?_ ?_ | refine LeO.bind ?_ (fun _=>?_)
set_option maxHeartbeats 8000000 in
set_option maxRecDepth 100000 in
theorem laws_FnPosSpans.calls (k : Nat) (A0 : Option Addr) (c0 : Nat) (l0 : List Int) (r : Bool) (w : World) (hr0 : Kd.C (Kd.int .u8) w A0 l0.length l0) (hc0 : l0.length ≤ c0) (h : laws_FnPosSpans.f k l0 = some r) (hrt : Aside0 (r = true)) (hE : EnvE w) :
  Calls Tryz.prog 6 #[.slice A0 l0.length c0] w fun e w'=>e = .returned (.bool r) ∧ Below w.heap.size w w':=by
 have hu29:=Tryz.underlying29
 have hu50:=Tryz.underlying50
 have HR0:=am hr0
 have HC0:=am hc0
 clear hr0 hc0
 have HB:=am (Below.refl w.heap.size w)
 have H : (if (l0.length : Int) > 1048576 then (some true) else ((spec_DrawPosSpans.f k l0).bind fun bt705=>((impl_PosSpans.f k bt705.1 bt705.2).bind fun t710=>((spec_PosSpans.f k bt705.1 bt705.2).bind fun t713=>((laws_haSpans.f k t710 t713).bind fun t716=>(if t716 = true then ((spec_MapOk.f k bt705.1).bind fun t717=>(if t717 = true then ((spec_StrOk.f k bt705.2).bind fun t718=>(laws_FnPosSpans.j0 k bt705.2 t710 (!t718) bt705.1)) else (laws_FnPosSpans.j0 k bt705.2 t710 true bt705.1))) else (some false))))))) = some r:=h
 clear h
 by_cases c2 : (l0.length : Int) > 1048576
 ·rw [if_pos c2] at H
  have c2b0 : decide (1048576 < (l0.length : Int)) = true:=decide_eq_true c2
  have c2b1 : decide (1048576 < l0.length) = true:=decide_eq_true (by omega)
  clear c2
  obtain rfl:=Option.some.inj H
  go_enter Tryz.func6,Tryz.ntmps6
  go_wp2
  repeat (go_quiet (fail);try go_wp2)
  go_ret
  exact ⟨fi_,m0_⟩
 ·rw [if_neg c2] at H
  have c2b0 : decide (1048576 < (l0.length : Int)) = false:=decide_eq_false c2
  have c2b1 : decide (1048576 < l0.length) = false:=decide_eq_false (by omega)
  clear c2
  obtain ⟨⟨t705,t708⟩,A3,H⟩:=bse H
  try dsimp only at H
  obtain ⟨t710,A4,H⟩:=bse H
  try dsimp only at H
  obtain ⟨t713,A5,H⟩:=bse H
  try dsimp only at H
  obtain ⟨t716,A6,H⟩:=bse H
  try dsimp only at H
  by_cases c7 : t716 = true
  ·subst c7
   have H1 : ((spec_MapOk.f k t705).bind fun t717=>(if t717 = true then ((spec_StrOk.f k t708).bind fun t718=>(laws_FnPosSpans.j0 k t708 t710 (!t718) t705)) else (laws_FnPosSpans.j0 k t708 t710 true t705))) = some r:=by rw [if_pos rfl] at H;exact H
   clear H
   have H:=H1
   clear H1
   have HC8:=am H
   clear H
   go_enter Tryz.func6,Tryz.ntmps6
   go_upto_region 7 with (first | (go_at_call 24;(with_reducible refine (spec_DrawPosSpans.calls k _ _ l0 t705 t708 _ ?side1 ?side2 A3.out).mono ?_);(case side1=>exact m1_);(case side2=>exact HC0.out);rintro e w9 ⟨v706,rfl,ho0,hb⟩;have HO707:=am (Kd.R_lower ho0 (below_size (bl HB)));replace HB:=hbS HB hb;(try clear hb);(try clear ho0)) | ((with_reducible refine gD 3 rfl ?_);refine box_event rfl (N:=3) rfl (cs:=#[.slice none 0 0]) (t:=29) hr_ ?_;intro gb709 hg w10 hbox hb;replace HO707:=am (Kd.R_below (rs HO707) hb);have BK709:=am hbox;have GW709:=gwE HB hg;have GE709:=gwE HB hg;replace HB:=hbS HB hb;clear hb hbox hg;obtain ⟨Ao11,co11,eo11⟩:=Kd.R_slice HO707.out;subst eo11;have hcz12_0:=bcell BK709 0;have hfz12_0:=blk_frozen BK709.out 0) | (go_at_call 19;(with_reducible refine (impl_PosSpans.calls k _ _ t705 t708 t710 _ ?side1 ?side2 A4.out (EnvE.below hE (bl HB))).mono ?_);(case side1=>refine (Kd.R_reads' (e:=55) (base:=w.heap.size) (ok:=fun k_=>True) (n:=t705.length) (c:=co11) ?_).2.2;exact (by (with_reducible repeat apply ru);exact (Kd.R_mono (Kd.R_far (p:=⟨gb709,0,none⟩) (Kd.R_types HO707.out BK709.out (by decide)) (fun _ hk=>hk.2) (.slice Ao11 t705.length co11)) (fun _ h_=>h_.1))));(case side2=>exact (Kd.R_reads' HO707.out).2.1);rintro e w13 ⟨v711,rfl,ho0,hb⟩;replace HO707:=am (Kd.R_below (by (with_reducible repeat apply ru);exact (Kd.R_mono (Kd.R_far (p:=⟨gb709,0,none⟩) (Kd.R_types HO707.out BK709.out (by decide)) (fun _ hk=>hk.2) (.slice Ao11 t705.length co11)) (fun _ h_=>h_.1))) hb);have HO712:=am (Kd.R_lower ho0 (below_size (bl HB)));replace BK709:=am (blk_below (g:=gb709) (o:=.cells #[.slice Ao11 t705.length co11] 29 (0,0)) (by (with_reducible repeat refine bu ?_);refine blk_put (cs:=#[.slice none 0 0]) ?_ 0 _ rfl;(with_reducible repeat refine bu ?_);exact BK709.out) hb);replace HB:=hbS HB hb;(try clear hb);(try clear hk);(try clear ho0);have hcz14_0:=bcell BK709 0;have hfz14_0:=blk_frozen BK709.out 0) | (go_at_call 18;(with_reducible refine (spec_PosSpans.calls k _ _ t705 t708 t713 _ ?side1 ?side2 A5.out).mono ?_);(case side1=>exact rcx HO707);(case side2=>exact (Kd.R_reads' HO707.out).2.1);rintro e w15 ⟨v714,rfl,ho0,hb⟩;replace HO707:=am (Kd.R_below (rs HO707) hb);have HO715:=am (Kd.R_lower (Kd.R_new' ho0 (Kd.R_lt (rs HO712))) (below_size (bl HB)));replace HO712:=am (Kd.R_elder' (rs HO712) (Kd.R_base ho0) hb);replace BK709:=bkB BK709 hb;replace HB:=hbS HB hb;(try clear hb);(try clear ho0);obtain ⟨Ao16,co16,eo16⟩:=Kd.R_slice HO712.out;subst eo16;obtain ⟨Ao17,co17,eo17⟩:=Kd.R_slice HO715.out;subst eo17) | (go_at_call 25;(with_reducible refine (laws_haSpans.calls k _ _ t710 _ _ t713 true _ ?side1 ?side2 ?side3 ?side4 A6.out).mono ?_);(case side1=>exact rcx HO712);(case side2=>exact (Kd.R_reads' HO712.out).2.1);(case side3=>exact rcx HO715);(case side4=>exact (Kd.R_reads' HO715.out).2.1);rintro e w' ⟨rfl,⟨nd,rfl⟩⟩;(try first | exact ⟨rfl,_,World.drewN_drewN _ _ _⟩ | exact ⟨rfl,_,Eq.trans (World.drewN_drewN _ _ _) (congrArg (World.drewN _) (Nat.add_assoc _ _ _))⟩)))
   repeat (go_quiet (fail);go_upto_region 7 with (first | (go_at_call 24;(with_reducible refine (spec_DrawPosSpans.calls k _ _ l0 t705 t708 _ ?side1 ?side2 A3.out).mono ?_);(case side1=>exact m1_);(case side2=>exact HC0.out);rintro e w9 ⟨v706,rfl,ho0,hb⟩;have HO707:=am (Kd.R_lower ho0 (below_size (bl HB)));replace HB:=hbS HB hb;(try clear hb);(try clear ho0)) | ((with_reducible refine gD 3 rfl ?_);refine box_event rfl (N:=3) rfl (cs:=#[.slice none 0 0]) (t:=29) hr_ ?_;intro gb709 hg w10 hbox hb;replace HO707:=am (Kd.R_below (rs HO707) hb);have BK709:=am hbox;have GW709:=gwE HB hg;have GE709:=gwE HB hg;replace HB:=hbS HB hb;clear hb hbox hg;obtain ⟨Ao11,co11,eo11⟩:=Kd.R_slice HO707.out;subst eo11;have hcz12_0:=bcell BK709 0;have hfz12_0:=blk_frozen BK709.out 0) | (go_at_call 19;(with_reducible refine (impl_PosSpans.calls k _ _ t705 t708 t710 _ ?side1 ?side2 A4.out (EnvE.below hE (bl HB))).mono ?_);(case side1=>refine (Kd.R_reads' (e:=55) (base:=w.heap.size) (ok:=fun k_=>True) (n:=t705.length) (c:=co11) ?_).2.2;exact (by (with_reducible repeat apply ru);exact (Kd.R_mono (Kd.R_far (p:=⟨gb709,0,none⟩) (Kd.R_types HO707.out BK709.out (by decide)) (fun _ hk=>hk.2) (.slice Ao11 t705.length co11)) (fun _ h_=>h_.1))));(case side2=>exact (Kd.R_reads' HO707.out).2.1);rintro e w13 ⟨v711,rfl,ho0,hb⟩;replace HO707:=am (Kd.R_below (by (with_reducible repeat apply ru);exact (Kd.R_mono (Kd.R_far (p:=⟨gb709,0,none⟩) (Kd.R_types HO707.out BK709.out (by decide)) (fun _ hk=>hk.2) (.slice Ao11 t705.length co11)) (fun _ h_=>h_.1))) hb);have HO712:=am (Kd.R_lower ho0 (below_size (bl HB)));replace BK709:=am (blk_below (g:=gb709) (o:=.cells #[.slice Ao11 t705.length co11] 29 (0,0)) (by (with_reducible repeat refine bu ?_);refine blk_put (cs:=#[.slice none 0 0]) ?_ 0 _ rfl;(with_reducible repeat refine bu ?_);exact BK709.out) hb);replace HB:=hbS HB hb;(try clear hb);(try clear hk);(try clear ho0);have hcz14_0:=bcell BK709 0;have hfz14_0:=blk_frozen BK709.out 0) | (go_at_call 18;(with_reducible refine (spec_PosSpans.calls k _ _ t705 t708 t713 _ ?side1 ?side2 A5.out).mono ?_);(case side1=>exact rcx HO707);(case side2=>exact (Kd.R_reads' HO707.out).2.1);rintro e w15 ⟨v714,rfl,ho0,hb⟩;replace HO707:=am (Kd.R_below (rs HO707) hb);have HO715:=am (Kd.R_lower (Kd.R_new' ho0 (Kd.R_lt (rs HO712))) (below_size (bl HB)));replace HO712:=am (Kd.R_elder' (rs HO712) (Kd.R_base ho0) hb);replace BK709:=bkB BK709 hb;replace HB:=hbS HB hb;(try clear hb);(try clear ho0);obtain ⟨Ao16,co16,eo16⟩:=Kd.R_slice HO712.out;subst eo16;obtain ⟨Ao17,co17,eo17⟩:=Kd.R_slice HO715.out;subst eo17) | (go_at_call 25;(with_reducible refine (laws_haSpans.calls k _ _ t710 _ _ t713 true _ ?side1 ?side2 ?side3 ?side4 A6.out).mono ?_);(case side1=>exact rcx HO712);(case side2=>exact (Kd.R_reads' HO712.out).2.1);(case side3=>exact rcx HO715);(case side4=>exact (Kd.R_reads' HO715.out).2.1);rintro e w' ⟨rfl,⟨nd,rfl⟩⟩;(try first | exact ⟨rfl,_,World.drewN_drewN _ _ _⟩ | exact ⟨rfl,_,Eq.trans (World.drewN_drewN _ _ _) (congrArg (World.drewN _) (Nat.add_assoc _ _ _))⟩))))
   (try simp only [Act.put,List.setIfInBounds_toArray,List.set_cons_zero,List.set_cons_succ])
   go_cut [38] (fun v38 wc=>∃ (kq : Nat) (x38_7 : Bool),v38 = .bool x38_7 ∧ Aside0 (laws_FnPosSpans.j0 kq t708 t710 x38_7 t705 = some r) ∧ Aside0 (kq ≤ k) ∧ Aside0 (Kd.R k50 50 wc w.heap.size (fun _=>True) (.slice Ao16 t710.length co16) t710) ∧ Aside0 (Kd.R k55 55 wc w.heap.size (fun _=>True) (.slice Ao11 t705.length co11) t705) ∧ Aside0 (wc.heap[gb709]? = some (.cells #[(.slice Ao11 t705.length co11)] 29 (0,0))) ∧ Aside0 (Below w.heap.size w wc))
   case first=>
    have H:=HC8.out
    clear HC8
    obtain ⟨t717,A18,H⟩:=bse H
    try dsimp only at H
    by_cases c19 : t717 = true
    ·subst c19
     have H1 : ((spec_StrOk.f k t708).bind fun t718=>(laws_FnPosSpans.j0 k t708 t710 (!t718) t705)) = some r:=by rw [if_pos rfl] at H;exact H
     clear H
     have H:=H1
     clear H1
     obtain ⟨t718,A20,H⟩:=bse H
     try dsimp only at H
     have H':=am H
     clear H
     have hcz21_0:=bcell BK709 0
     have hfz21_0:=blk_frozen BK709.out 0
     iterate 4 ((try go_quiet (fail));(try go_wp2_with (first | (go_at_call 26;(with_reducible refine (spec_MapOk.calls k _ _ t705 true _ ?side1 ?side2 A18.out).mono ?_);(case side1=>exact rcx HO707);(case side2=>exact (Kd.R_reads' HO707.out).2.1);rintro e w22 ⟨rfl,hb⟩;replace HO707:=am (Kd.R_below (rs HO707) hb);replace HO712:=am (Kd.R_below (rs HO712) hb);replace HO715:=am (Kd.R_below (rs HO715) hb);replace BK709:=bkB BK709 hb;replace HB:=hbS HB hb;(try clear hb)) | (go_at_call 27;(with_reducible refine (spec_StrOk.calls k t708 t718 _ A20.out).mono ?_);rintro e w23 ⟨rfl,hb⟩;replace HO707:=am (Kd.R_below (rs HO707) hb);replace HO712:=am (Kd.R_below (rs HO712) hb);replace HO715:=am (Kd.R_below (rs HO715) hb);replace BK709:=bkB BK709 hb;replace HB:=hbS HB hb;(try clear hb)))))
     go_meet
     case rel=>exact ⟨_,(!t718),rs_,H',⟨by first | omega | exact Nat.le_refl _⟩,⟨by (with_reducible repeat apply ru);exact Kd.R_mono HO712.out (fun _ hk=>trivial)⟩,⟨by (with_reducible repeat apply ru);exact HO707.out⟩,⟨bk BK709⟩,⟨m2_⟩⟩
    ·replace c19:=Bool.eq_false_iff.mpr c19
     subst c19
     have H1 : (laws_FnPosSpans.j0 k t708 t710 true t705) = some r:=by rw [if_neg (show ¬ (false = true) by decide)] at H;exact H
     clear H
     have H:=H1
     clear H1
     have H':=am H
     clear H
     have hcz24_0:=bcell BK709 0
     have hfz24_0:=blk_frozen BK709.out 0
     iterate 4 ((try go_quiet (fail));(try go_wp2_with (first | (go_at_call 26;(with_reducible refine (spec_MapOk.calls k _ _ t705 false _ ?side1 ?side2 A18.out).mono ?_);(case side1=>exact rcx HO707);(case side2=>exact (Kd.R_reads' HO707.out).2.1);rintro e w25 ⟨rfl,hb⟩;replace HO707:=am (Kd.R_below (rs HO707) hb);replace HO712:=am (Kd.R_below (rs HO712) hb);replace HO715:=am (Kd.R_below (rs HO715) hb);replace BK709:=bkB BK709 hb;replace HB:=hbS HB hb;(try clear hb)))))
     go_meet
     case rel=>exact ⟨_,(true),rs_,H',⟨by first | omega | exact Nat.le_refl _⟩,⟨by (with_reducible repeat apply ru);exact Kd.R_mono HO712.out (fun _ hk=>trivial)⟩,⟨by (with_reducible repeat apply ru);exact HO707.out⟩,⟨bk BK709⟩,⟨m2_⟩⟩
   case rest=>
    clear HC8
    try clear c1
    try clear c2
    try clear c2b0
    try clear c2b1
    try clear p2
    try clear c6
    try clear c7
    try clear c19
    try clear hcz12_0
    try clear hcz14_0
    try clear hcz21_0
    try clear hcz24_0
    try clear hfz12_0
    try clear hfz14_0
    try clear hfz21_0
    try clear hfz24_0
    obtain ⟨kq,x38_7,rfl,HA,HJ7,HO_5,HO_710000,BK709,HB⟩:=hcut
    cases kq with
    | zero=>exact absurd HA.out (by simp [laws_FnPosSpans.j0])
    | succ kj7=>
     have H:=HA.out
     clear HA
     simp only [laws_FnPosSpans.j0] at H
     by_cases c26 : x38_7 = true
     ·subst c26
      have H1 : (if (t710.length : Int) = 0 then ((laws_haOk.f).bind fun t719=>(some t719)) else (some false)) = some r:=by rw [if_pos rfl] at H;exact H
      clear H
      have H:=H1
      clear H1
      by_cases c27 : (t710.length : Int) = 0
      ·rw [if_pos c27] at H
       have c27b0 : ((t710.length : Int) == 0) = true:=beq_iff_eq.mpr c27
       have c27b1 : ((t710.length : Int) != 0) = false:=bne_eq_false_iff_eq.mpr c27
       clear c27
       obtain ⟨t719,A28,H⟩:=bse H
       try dsimp only at H
       obtain rfl:=Option.some.inj H
       iterate 4 ((try go_quiet (fail));(try go_wp2_with (first | (go_at_call 28;(with_reducible refine (laws_haOk.calls  t719 _ A28.out).mono ?_);rintro e w29 ⟨rfl,hb⟩;replace HO_5:=am (Kd.R_below (rs HO_5) hb);replace HO_710000:=am (Kd.R_below (rs HO_710000) hb);replace BK709:=bkB BK709 hb;replace HB:=hbS HB hb;(try clear hb)))))
       go_ret
       exact ⟨fi_,m2_⟩
      ·rw [if_neg c27] at H
       have c27b0 : ((t710.length : Int) == 0) = false:=beq_eq_false_iff_ne.mpr c27
       have c27b1 : ((t710.length : Int) != 0) = true:=bne_iff_ne.mpr c27
       have c27b2 : ¬ (t710 = []):=fun h_=>c27 (by rw [h_];rfl)
       exact absurd ((Option.some.inj H).trans hrt.out) (by decide)
     ·replace c26:=Bool.eq_false_iff.mpr c26
      subst c26
      have H1 : ((impl_StrLines.f t708).bind fun bt720=>((impl_RwrStream.f kj7 t705 t708).bind fun bt724=>(if (t710.length : Int) = (bt720.1.length : Int) then (laws_FnPosSpans.l0 kj7 t708 t710 bt720.1 bt724.2 0 0 0) else (some false)))) = some r:=by rw [if_neg (show ¬ (false = true) by decide)] at H;exact H
      clear H
      have H:=H1
      clear H1
      obtain ⟨⟨t720,t721⟩,A30,H⟩:=bse H
      try dsimp only at H
      obtain ⟨⟨t724,t727⟩,A31,H⟩:=bse H
      try dsimp only at H
      by_cases c32 : (t710.length : Int) = (t720.length : Int)
      ·rw [if_pos c32] at H
       have c32b0 : ((t710.length : Int) == (t720.length : Int)) = true:=beq_iff_eq.mpr c32
       have c32b1 : ((t710.length : Int) != (t720.length : Int)) = false:=bne_eq_false_iff_eq.mpr c32
       have c32b2 : (t710.length == t720.length) = true:=by first | simpa using c32 | (simp at c32 ⊢;omega)
       clear c32
       have H':=am H
       clear H
       iterate 4 ((try go_quiet (fail));(try go_wp2_with (first | (go_at_call 29;(with_reducible refine (impl_StrLines.calls t708 t720 t721 _ A30.out (Env.below hE.e (bl HB))).mono ?_);rintro e w33 ⟨v722,rfl,ho0,hb⟩;replace HO_5:=am (Kd.R_below (rs HO_5) hb);replace HO_710000:=am (Kd.R_below (rs HO_710000) hb);have HO723:=am (Kd.R_lower ho0 (below_size (bl HB)));replace BK709:=bkB BK709 hb;replace HB:=hbS HB hb;(try clear hb);(try clear ho0);have hcz34_0:=bcell BK709 0;have hfz34_0:=blk_frozen BK709.out 0) | (go_at_call 30;(with_reducible refine (impl_RwrStream.calls kj7 _ _ t705 t708 t724 t727 _ ?side1 ?side2 A31.out (EnvE.below hE (bl HB))).mono ?_);(case side1=>exact rcx HO_710000);(case side2=>exact (Kd.R_reads' HO_710000.out).2.1);rintro e w35 ⟨v725,rfl,ho0,hb⟩;replace HO_5:=am (Kd.R_below (rs HO_5) hb);replace HO723:=am (Kd.R_below (rs HO723) hb);have HO726:=am (Kd.R_lower (Kd.R_new' ho0 (Kd.R_lt (rs HO_710000))) (below_size (bl HB)));replace HO_710000:=am (Kd.R_elder' (rs HO_710000) (Kd.R_base ho0) hb);replace BK709:=bkB BK709 hb;replace HB:=hbS HB hb;(try clear hb);(try clear ho0)) | ((with_reducible refine gD 8 rfl ?_);refine box_event rfl (N:=8) rfl (cs:=#[.slice none 0 0]) (t:=29) hr_ ?_;intro gb728 hg w36 hbox hb;replace HO_5:=am (Kd.R_below (rs HO_5) hb);replace HO_710000:=am (Kd.R_below (rs HO_710000) hb);replace HO723:=am (Kd.R_below (rs HO723) hb);replace HO726:=am (Kd.R_below (rs HO726) hb);have BK728:=am hbox;have GW728:=gwE HB hg;have GE728:=gwE HB hg;replace HB:=hbS HB hb;have NB709_728:=neL BK709 hg;have NB728_709:=neG BK709 hg;replace BK709:=bkB BK709 hb;clear hb hbox hg;obtain ⟨Ao37,co37,eo37⟩:=Kd.R_slice HO726.out;subst eo37;have:=NB728_709.out;have:=NB709_728.out;have hcz39_0:=bcell BK728 0;have hfz39_0:=blk_frozen BK728.out 0;obtain ⟨Ao40,co40,eo40⟩:=Kd.R_slice HO723.out;subst eo40))))
       go_loopg [10,11,12] kj7 (fun kq v10 v11 v12 w'=>∃ (x10_2 : Int) (x11_2 : Int) (x12_2 : Int),v10 = .int .i64 x10_2 ∧ v11 = .int .i64 x11_2 ∧ v12 = .int .i64 x12_2 ∧ Aside0 (laws_FnPosSpans.l0 kq t708 t710 t720 t727 x10_2 x11_2 x12_2 = some r) ∧ Aside0 (kq ≤ kj7) ∧ Aside0 (Kd.R k50 50 w' w.heap.size (fun _=>True) (.slice Ao16 t710.length co16) t710) ∧ Aside0 (Kd.R Kd.string 9 w' w.heap.size (fun _=>True) (.slice Ao40 t720.length co40) t720) ∧ Aside0 (Kd.R k55 55 w' w.heap.size (fun k_=>some k_ ≠ ((.slice Ao37 t724.length co37) : Value).ownBlock) (.slice Ao11 t705.length co11) t705) ∧ Aside0 (Kd.R k55 55 w' w.heap.size (fun k_=>some k_ ≠ ((.slice Ao11 t705.length co11) : Value).ownBlock) (.slice Ao37 t724.length co37) t724) ∧ Aside0 (w'.heap[gb709]? = some (.cells #[(.slice Ao11 t705.length co11)] 29 (0,0))) ∧ Aside0 (w'.heap[gb728]? = some (.cells #[(.slice Ao37 t724.length co37)] 29 (0,0))) ∧ Aside0 (Below w.heap.size w w'))
       case atStart=>exact ⟨(0),(0),(0),rs_,rs_,rs_,H',⟨Nat.le_refl _⟩,⟨by (with_reducible repeat apply ru);exact Kd.R_mono (Kd.R_far (p:=⟨gb728,0,none⟩) (Kd.R_types HO_5.out BK728.out (by decide)) (fun _ hk=>hk.2) (.slice Ao37 t724.length co37)) (fun _ hk=>trivial)⟩,⟨by (with_reducible repeat apply ru);exact Kd.R_mono (Kd.R_far (p:=⟨gb728,0,none⟩) (Kd.R_types HO723.out BK728.out (by decide)) (fun _ hk=>hk.2) (.slice Ao37 t724.length co37)) (fun _ hk=>trivial)⟩,⟨by (with_reducible repeat apply ru);exact Kd.R_mono (Kd.R_far (p:=⟨gb728,0,none⟩) (Kd.R_types HO_710000.out BK728.out (by decide)) (fun _ hk=>hk.2) (.slice Ao37 t724.length co37)) (fun _ hk=>hk.1.2)⟩,⟨by (with_reducible repeat apply ru);exact Kd.R_mono (Kd.R_far (p:=⟨gb728,0,none⟩) (Kd.R_types HO726.out BK728.out (by decide)) (fun _ hk=>hk.2) (.slice Ao37 t724.length co37)) (fun _ hk=>hk.1.2)⟩,bf_ BK709,⟨by (with_reducible repeat refine bu ?_);refine blk_put (cs:=#[.slice none 0 0]) ?_ 0 _ rfl;(with_reducible repeat refine bu ?_);exact BK728.out⟩,⟨m2_⟩⟩
       case round=>
        clear H'
        try clear c1
        try clear c2
        try clear c2b0
        try clear c2b1
        try clear p2
        try clear c3
        try clear c6
        try clear c7
        try clear c19
        try clear c26
        try clear c27
        try clear c27b0
        try clear c27b1
        try clear c27b2
        try clear c32
        try clear c32b0
        try clear c32b1
        try clear c32b2
        try clear c38
        try clear hcz12_0
        try clear hcz14_0
        try clear hcz21_0
        try clear hcz24_0
        try clear hcz34_0
        try clear hcz39_0
        try clear hfz12_0
        try clear hfz14_0
        try clear hfz21_0
        try clear hfz24_0
        try clear hfz34_0
        try clear hfz39_0
        try clear p2
        obtain ⟨x10_2,x11_2,x12_2,rfl,rfl,rfl,HA,HK2,HO_5,HO_6,HO_710000,HO_729000,BK709,BK728,HB⟩:=hrel
        cases gk with
        | zero=>exact absurd HA.out (by simp [laws_FnPosSpans.l0])
        | succ k2=>
         have H:=HA.out
         clear HA
         simp only [laws_FnPosSpans.l0] at H
         by_cases c41 : x12_2 < (t710.length : Int)
         ·rw [if_pos c41] at H
          have c41b0 : decide (x12_2 < (t710.length : Int)) = true:=decide_eq_true c41
          clear c41
          by_cases c42 : 0 ≤ x12_2
          ·rw [if_pos c42] at H
           have c42b0 : decide (0 ≤ x12_2) = true:=decide_eq_true c42
           clear c42
           have HC43:=am H
           clear H
           have p729 : 0 ≤ (x12_2 : Int):=of_decide_eq_true da_
           have q729 : x12_2 < (t710.length : Int):=of_decide_eq_true da_
           obtain ⟨ad729,e729,hx729_0,hx729_1,hx729_2,hx729_3,hx729_4⟩:=at_T50 (Kd.R_reads' HO_5.out).2.2 x12_2 p729 q729
           cases e729
           replace p729:=eq_true p729
           replace q729:=eq_true q729
           go_upto_region 19 with (first | ((with_reducible refine gD 13 rfl ?_);refine box_event rfl (N:=13) rfl (cs:=#[.int .i64 0,.int .i64 0,.int .i64 0,.int .i64 0,.bool false]) (t:=50) hr_ ?_;intro gb730 hg w44 hbox hb;replace HO_5:=am (Kd.R_below (Kd.R_elderB (rs HO_5) gb730 (Nat.le_of_eq hg.symm)) hb);replace HO_6:=am (Kd.R_below (rs HO_6) hb);replace HO_710000:=am (Kd.R_below (rs HO_710000) hb);replace HO_729000:=am (Kd.R_below (rs HO_729000) hb);have BK730:=am hbox;have GW730:=gwE HB hg;have GE730:=gwE HB hg;replace HB:=hbS HB hb;have NB709_730:=neL BK709 hg;have NB730_709:=neG BK709 hg;replace BK709:=bkB BK709 hb;have NB728_730:=neL BK728 hg;have NB730_728:=neG BK728 hg;replace BK728:=bkB BK728 hb;clear hb hbox hg;have hnb45:=NB730_709.out;have hnc45:=NB709_730.out;have hnb46:=NB730_728.out;have hnc46:=NB728_730.out;have hcz47_0:=bcell BK730 0;have hcz47_1:=bcell BK730 1;have hcz47_2:=bcell BK730 2;have hcz47_3:=bcell BK730 3;have hcz47_4:=bcell BK730 4;have hfz47_0:=blk_frozen BK730.out 0;have hfz47_1:=blk_frozen BK730.out 1;have hfz47_2:=blk_frozen BK730.out 2;have hfz47_3:=blk_frozen BK730.out 3;have hfz47_4:=blk_frozen BK730.out 4))
           repeat (go_quiet (fail);go_upto_region 19 with (first | ((with_reducible refine gD 13 rfl ?_);refine box_event rfl (N:=13) rfl (cs:=#[.int .i64 0,.int .i64 0,.int .i64 0,.int .i64 0,.bool false]) (t:=50) hr_ ?_;intro gb730 hg w44 hbox hb;replace HO_5:=am (Kd.R_below (Kd.R_elderB (rs HO_5) gb730 (Nat.le_of_eq hg.symm)) hb);replace HO_6:=am (Kd.R_below (rs HO_6) hb);replace HO_710000:=am (Kd.R_below (rs HO_710000) hb);replace HO_729000:=am (Kd.R_below (rs HO_729000) hb);have BK730:=am hbox;have GW730:=gwE HB hg;have GE730:=gwE HB hg;replace HB:=hbS HB hb;have NB709_730:=neL BK709 hg;have NB730_709:=neG BK709 hg;replace BK709:=bkB BK709 hb;have NB728_730:=neL BK728 hg;have NB730_728:=neG BK728 hg;replace BK728:=bkB BK728 hb;clear hb hbox hg;have hnb45:=NB730_709.out;have hnc45:=NB709_730.out;have hnb46:=NB730_728.out;have hnc46:=NB728_730.out;have hcz47_0:=bcell BK730 0;have hcz47_1:=bcell BK730 1;have hcz47_2:=bcell BK730 2;have hcz47_3:=bcell BK730 3;have hcz47_4:=bcell BK730 4;have hfz47_0:=blk_frozen BK730.out 0;have hfz47_1:=blk_frozen BK730.out 1;have hfz47_2:=blk_frozen BK730.out 2;have hfz47_3:=blk_frozen BK730.out 3;have hfz47_4:=blk_frozen BK730.out 4)))
           (try simp only [Act.put,List.setIfInBounds_toArray,List.set_cons_zero,List.set_cons_succ])
           go_cut [129] (fun v129 wc=>∃ (kq : Nat) (x129_42 : Bool),v129 = .bool x129_42 ∧ Aside0 (laws_FnPosSpans.j2 kq t708 t710 t720 t727 x12_2 x129_42 ((rd_T50 t710 x12_2).f0) ((rd_T50 t710 x12_2).f1) ((rd_T50 t710 x12_2).f2) ((rd_T50 t710 x12_2).f3) ((rd_T50 t710 x12_2).f4) = some r) ∧ Aside0 (kq ≤ k2) ∧ Aside0 (Kd.R k50 50 wc w.heap.size (fun k_=>k_ ≠ gb730) (.slice (some ad729) t710.length co16) t710) ∧ Aside0 (Kd.R Kd.string 9 wc w.heap.size (fun _=>True) (.slice Ao40 t720.length co40) t720) ∧ Aside0 (Kd.R k55 55 wc w.heap.size (fun k_=>some k_ ≠ ((.slice Ao37 t724.length co37) : Value).ownBlock) (.slice Ao11 t705.length co11) t705) ∧ Aside0 (Kd.R k55 55 wc w.heap.size (fun k_=>some k_ ≠ ((.slice Ao11 t705.length co11) : Value).ownBlock) (.slice Ao37 t724.length co37) t724) ∧ Aside0 (wc.heap[gb709]? = some (.cells #[(.slice Ao11 t705.length co11)] 29 (0,0))) ∧ Aside0 (wc.heap[gb728]? = some (.cells #[(.slice Ao37 t724.length co37)] 29 (0,0))) ∧ Aside0 (wc.heap[gb730]? = some (.cells #[.int .i64 ((rd_T50 t710 x12_2).f0),.int .i64 ((rd_T50 t710 x12_2).f1),.int .i64 ((rd_T50 t710 x12_2).f2),.int .i64 ((rd_T50 t710 x12_2).f3),.bool ((rd_T50 t710 x12_2).f4)] 50 (0,0))) ∧ Aside0 (Below w.heap.size w wc))
           case first=>
            have H:=HC43.out
            clear HC43
            by_cases c48 : ((rd_T50 t710 x12_2).f0) = x10_2
            ·rw [if_pos c48] at H
             have c48b0 : (((rd_T50 t710 x12_2).f0) == x10_2) = true:=beq_iff_eq.mpr c48
             have c48b1 : (((rd_T50 t710 x12_2).f0) != x10_2) = false:=bne_eq_false_iff_eq.mpr c48
             clear c48
             (first | rw [c48b0] | (simp only [i64_w,i32_w];rw [c48b0]) | skip)
             by_cases c49 : ((rd_T50 t710 x12_2).f2) = x11_2
             ·rw [if_pos c49] at H
              have c49b0 : (((rd_T50 t710 x12_2).f2) == x11_2) = true:=beq_iff_eq.mpr c49
              have c49b1 : (((rd_T50 t710 x12_2).f2) != x11_2) = false:=bne_eq_false_iff_eq.mpr c49
              clear c49
              by_cases c50 : x12_2 < (t720.length : Int)
              ·rw [if_pos c50] at H
               have c50b0 : decide (x12_2 < (t720.length : Int)) = true:=decide_eq_true c50
               clear c50
               by_cases c51 : ((rd_T50 t710 x12_2).f1) = (wrap64 ((wrap64 (x10_2 + ((rdOf ByteArray.empty t720 x12_2).size : Int))) + 1))
               ·rw [if_pos c51] at H
                have c51b0 : (((rd_T50 t710 x12_2).f1) == (wrap64 ((wrap64 (x10_2 + ((rdOf ByteArray.empty t720 x12_2).size : Int))) + 1))) = true:=beq_iff_eq.mpr c51
                have c51b1 : (((rd_T50 t710 x12_2).f1) != (wrap64 ((wrap64 (x10_2 + ((rdOf ByteArray.empty t720 x12_2).size : Int))) + 1))) = false:=bne_eq_false_iff_eq.mpr c51
                clear c51
                by_cases c52 : ((rd_T50 t710 x12_2).f3) ≤ ((rd_T50 t710 x12_2).f2)
                ·rw [if_pos c52] at H
                 have c52b0 : decide (((rd_T50 t710 x12_2).f3) ≤ ((rd_T50 t710 x12_2).f2)) = true:=decide_eq_true c52
                 clear c52
                 have H':=am H
                 clear H
                 have:=NB730_709.out
                 have:=NB709_730.out
                 have:=NB730_728.out
                 have:=NB728_730.out
                 have hcz55_0:=bcell BK730 0
                 have hcz55_1:=bcell BK730 1
                 have hcz55_2:=bcell BK730 2
                 have hcz55_3:=bcell BK730 3
                 have hcz55_4:=bcell BK730 4
                 have hfz55_0:=blk_frozen BK730.out 0
                 have hfz55_1:=blk_frozen BK730.out 1
                 have hfz55_2:=blk_frozen BK730.out 2
                 have hfz55_3:=blk_frozen BK730.out 3
                 have hfz55_4:=blk_frozen BK730.out 4
                 have p731 : 0 ≤ (x12_2 : Int):=of_decide_eq_true da_
                 have q731 : x12_2 < (t720.length : Int):=of_decide_eq_true da_
                 obtain ⟨ad731,e731,hx731_0⟩:=Kd.at_string (Kd.R_reads' HO_6.out).2.2 x12_2 p731 q731
                 cases e731
                 have hn731_0 : ad731.block ≠ gb730:=Kd.own_blk (Kd.R_ne HO_6.out BK730.out (by decide))
                 have hn731_1 : ad731.block ≠ gb730:=Kd.own_blk (Kd.R_ne HO_6.out BK730.out (by decide))
                 have hn731_2 : ad731.block ≠ gb730:=Kd.own_blk (Kd.R_ne HO_6.out BK730.out (by decide))
                 have hn731_3 : ad731.block ≠ gb730:=Kd.own_blk (Kd.R_ne HO_6.out BK730.out (by decide))
                 have hn731_4 : ad731.block ≠ gb730:=Kd.own_blk (Kd.R_ne HO_6.out BK730.out (by decide))
                 replace hx731_0:=(cell_far (p:=⟨gb730,0,none⟩) (by first | (rw [add_block];exact hn731_0) | (show (Addr.add _ _).block ≠ _;rw [add_block];exact hn731_0) | exact hn731_0) (.int .i64 ((rd_T50 t710 x12_2).f0))).trans hx731_0
                 replace hx731_0:=(cell_far (p:=⟨gb730,1,none⟩) (by first | (rw [add_block];exact hn731_1) | (show (Addr.add _ _).block ≠ _;rw [add_block];exact hn731_1) | exact hn731_1) (.int .i64 ((rd_T50 t710 x12_2).f1))).trans hx731_0
                 replace hx731_0:=(cell_far (p:=⟨gb730,2,none⟩) (by first | (rw [add_block];exact hn731_2) | (show (Addr.add _ _).block ≠ _;rw [add_block];exact hn731_2) | exact hn731_2) (.int .i64 ((rd_T50 t710 x12_2).f2))).trans hx731_0
                 replace hx731_0:=(cell_far (p:=⟨gb730,3,none⟩) (by first | (rw [add_block];exact hn731_3) | (show (Addr.add _ _).block ≠ _;rw [add_block];exact hn731_3) | exact hn731_3) (.int .i64 ((rd_T50 t710 x12_2).f3))).trans hx731_0
                 replace hx731_0:=(cell_far (p:=⟨gb730,4,none⟩) (by first | (rw [add_block];exact hn731_4) | (show (Addr.add _ _).block ≠ _;rw [add_block];exact hn731_4) | exact hn731_4) (.bool ((rd_T50 t710 x12_2).f4))).trans hx731_0
                 (try have hy731_0:=fun (n_ : Nat)=>(show (((((((w44.drewN n_).setCell ⟨gb730,0,none⟩ (.int .i64 ((rd_T50 t710 x12_2).f0))).setCell ⟨gb730,1,none⟩ (.int .i64 ((rd_T50 t710 x12_2).f1))).setCell ⟨gb730,2,none⟩ (.int .i64 ((rd_T50 t710 x12_2).f2))).setCell ⟨gb730,3,none⟩ (.int .i64 ((rd_T50 t710 x12_2).f3))).setCell ⟨gb730,4,none⟩ (.bool ((rd_T50 t710 x12_2).f4)))).cell? _ = some _ from hx731_0))
                 clear hn731_0
                 clear hn731_1
                 clear hn731_2
                 clear hn731_3
                 clear hn731_4
                 replace p731:=eq_true p731
                 replace q731:=eq_true q731
                 go_wp2
                 repeat (go_quiet (fail);try go_wp2)
                 go_meet
                 case rel=>exact ⟨_,(true),rs_,H',⟨by have:=HJ7.out;have:=HK2.out;first | omega | exact Nat.le_refl _⟩,⟨by (with_reducible repeat apply ru);exact Kd.R_mono (Kd.R_far (p:=⟨gb730,4,none⟩) (Kd.R_far (p:=⟨gb730,3,none⟩) (Kd.R_far (p:=⟨gb730,2,none⟩) (Kd.R_far (p:=⟨gb730,1,none⟩) (Kd.R_far (p:=⟨gb730,0,none⟩) (Kd.R_mono HO_5.out (fun k_ hk=>(⟨hk,hk.2⟩ : _ ∧ k_ ≠ gb730))) (fun _ hk=>hk.2) (.int .i64 ((rd_T50 t710 x12_2).f0))) (fun _ hk=>hk.2) (.int .i64 ((rd_T50 t710 x12_2).f1))) (fun _ hk=>hk.2) (.int .i64 ((rd_T50 t710 x12_2).f2))) (fun _ hk=>hk.2) (.int .i64 ((rd_T50 t710 x12_2).f3))) (fun _ hk=>hk.2) (.bool ((rd_T50 t710 x12_2).f4))) (fun _ hk=>hk.1.2)⟩,⟨by (with_reducible repeat apply ru);exact Kd.R_mono (Kd.R_far (p:=⟨gb730,4,none⟩) (Kd.R_far (p:=⟨gb730,3,none⟩) (Kd.R_far (p:=⟨gb730,2,none⟩) (Kd.R_far (p:=⟨gb730,1,none⟩) (Kd.R_far (p:=⟨gb730,0,none⟩) (Kd.R_types HO_6.out BK730.out (by decide)) (fun _ hk=>hk.2) (.int .i64 ((rd_T50 t710 x12_2).f0))) (fun _ hk=>hk.2) (.int .i64 ((rd_T50 t710 x12_2).f1))) (fun _ hk=>hk.2) (.int .i64 ((rd_T50 t710 x12_2).f2))) (fun _ hk=>hk.2) (.int .i64 ((rd_T50 t710 x12_2).f3))) (fun _ hk=>hk.2) (.bool ((rd_T50 t710 x12_2).f4))) (fun _ hk=>trivial)⟩,⟨by (with_reducible repeat apply ru);exact Kd.R_mono (Kd.R_far (p:=⟨gb730,4,none⟩) (Kd.R_far (p:=⟨gb730,3,none⟩) (Kd.R_far (p:=⟨gb730,2,none⟩) (Kd.R_far (p:=⟨gb730,1,none⟩) (Kd.R_far (p:=⟨gb730,0,none⟩) (Kd.R_types HO_710000.out BK730.out (by decide)) (fun _ hk=>hk.2) (.int .i64 ((rd_T50 t710 x12_2).f0))) (fun _ hk=>hk.2) (.int .i64 ((rd_T50 t710 x12_2).f1))) (fun _ hk=>hk.2) (.int .i64 ((rd_T50 t710 x12_2).f2))) (fun _ hk=>hk.2) (.int .i64 ((rd_T50 t710 x12_2).f3))) (fun _ hk=>hk.2) (.bool ((rd_T50 t710 x12_2).f4))) (fun _ hk=>hk.1)⟩,⟨by (with_reducible repeat apply ru);exact Kd.R_mono (Kd.R_far (p:=⟨gb730,4,none⟩) (Kd.R_far (p:=⟨gb730,3,none⟩) (Kd.R_far (p:=⟨gb730,2,none⟩) (Kd.R_far (p:=⟨gb730,1,none⟩) (Kd.R_far (p:=⟨gb730,0,none⟩) (Kd.R_types HO_729000.out BK730.out (by decide)) (fun _ hk=>hk.2) (.int .i64 ((rd_T50 t710 x12_2).f0))) (fun _ hk=>hk.2) (.int .i64 ((rd_T50 t710 x12_2).f1))) (fun _ hk=>hk.2) (.int .i64 ((rd_T50 t710 x12_2).f2))) (fun _ hk=>hk.2) (.int .i64 ((rd_T50 t710 x12_2).f3))) (fun _ hk=>hk.2) (.bool ((rd_T50 t710 x12_2).f4))) (fun _ hk=>hk.1)⟩,bf_ BK709,bf_ BK728,⟨by (with_reducible repeat refine bu ?_);refine blk_put (cs:=#[.int .i64 ((rd_T50 t710 x12_2).f0),.int .i64 ((rd_T50 t710 x12_2).f1),.int .i64 ((rd_T50 t710 x12_2).f2),.int .i64 ((rd_T50 t710 x12_2).f3),.bool false]) ?_ 4 _ rfl;(with_reducible repeat refine bu ?_);refine blk_put (cs:=#[.int .i64 ((rd_T50 t710 x12_2).f0),.int .i64 ((rd_T50 t710 x12_2).f1),.int .i64 ((rd_T50 t710 x12_2).f2),.int .i64 0,.bool false]) ?_ 3 _ rfl;(with_reducible repeat refine bu ?_);refine blk_put (cs:=#[.int .i64 ((rd_T50 t710 x12_2).f0),.int .i64 ((rd_T50 t710 x12_2).f1),.int .i64 0,.int .i64 0,.bool false]) ?_ 2 _ rfl;(with_reducible repeat refine bu ?_);refine blk_put (cs:=#[.int .i64 ((rd_T50 t710 x12_2).f0),.int .i64 0,.int .i64 0,.int .i64 0,.bool false]) ?_ 1 _ rfl;(with_reducible repeat refine bu ?_);refine blk_put (cs:=#[.int .i64 0,.int .i64 0,.int .i64 0,.int .i64 0,.bool false]) ?_ 0 _ rfl;(with_reducible repeat refine bu ?_);exact BK730.out⟩,⟨m2_⟩⟩
                ·rw [if_neg c52] at H
                 have c52b0 : decide (((rd_T50 t710 x12_2).f3) ≤ ((rd_T50 t710 x12_2).f2)) = false:=decide_eq_false c52
                 clear c52
                 by_cases c56 : ((rd_T50 t710 x12_2).f3) > (t727.size : Int)
                 ·rw [if_pos c56] at H
                  have c56b0 : decide ((t727.size : Int) < ((rd_T50 t710 x12_2).f3)) = true:=decide_eq_true c56
                  clear c56
                  have H':=am H
                  clear H
                  have:=NB730_709.out
                  have:=NB709_730.out
                  have:=NB730_728.out
                  have:=NB728_730.out
                  have hcz59_0:=bcell BK730 0
                  have hcz59_1:=bcell BK730 1
                  have hcz59_2:=bcell BK730 2
                  have hcz59_3:=bcell BK730 3
                  have hcz59_4:=bcell BK730 4
                  have hfz59_0:=blk_frozen BK730.out 0
                  have hfz59_1:=blk_frozen BK730.out 1
                  have hfz59_2:=blk_frozen BK730.out 2
                  have hfz59_3:=blk_frozen BK730.out 3
                  have hfz59_4:=blk_frozen BK730.out 4
                  have p731 : 0 ≤ (x12_2 : Int):=of_decide_eq_true da_
                  have q731 : x12_2 < (t720.length : Int):=of_decide_eq_true da_
                  obtain ⟨ad731,e731,hx731_0⟩:=Kd.at_string (Kd.R_reads' HO_6.out).2.2 x12_2 p731 q731
                  cases e731
                  have hn731_0 : ad731.block ≠ gb730:=Kd.own_blk (Kd.R_ne HO_6.out BK730.out (by decide))
                  have hn731_1 : ad731.block ≠ gb730:=Kd.own_blk (Kd.R_ne HO_6.out BK730.out (by decide))
                  have hn731_2 : ad731.block ≠ gb730:=Kd.own_blk (Kd.R_ne HO_6.out BK730.out (by decide))
                  have hn731_3 : ad731.block ≠ gb730:=Kd.own_blk (Kd.R_ne HO_6.out BK730.out (by decide))
                  have hn731_4 : ad731.block ≠ gb730:=Kd.own_blk (Kd.R_ne HO_6.out BK730.out (by decide))
                  replace hx731_0:=(cell_far (p:=⟨gb730,0,none⟩) (by first | (rw [add_block];exact hn731_0) | (show (Addr.add _ _).block ≠ _;rw [add_block];exact hn731_0) | exact hn731_0) (.int .i64 ((rd_T50 t710 x12_2).f0))).trans hx731_0
                  replace hx731_0:=(cell_far (p:=⟨gb730,1,none⟩) (by first | (rw [add_block];exact hn731_1) | (show (Addr.add _ _).block ≠ _;rw [add_block];exact hn731_1) | exact hn731_1) (.int .i64 ((rd_T50 t710 x12_2).f1))).trans hx731_0
                  replace hx731_0:=(cell_far (p:=⟨gb730,2,none⟩) (by first | (rw [add_block];exact hn731_2) | (show (Addr.add _ _).block ≠ _;rw [add_block];exact hn731_2) | exact hn731_2) (.int .i64 ((rd_T50 t710 x12_2).f2))).trans hx731_0
                  replace hx731_0:=(cell_far (p:=⟨gb730,3,none⟩) (by first | (rw [add_block];exact hn731_3) | (show (Addr.add _ _).block ≠ _;rw [add_block];exact hn731_3) | exact hn731_3) (.int .i64 ((rd_T50 t710 x12_2).f3))).trans hx731_0
                  replace hx731_0:=(cell_far (p:=⟨gb730,4,none⟩) (by first | (rw [add_block];exact hn731_4) | (show (Addr.add _ _).block ≠ _;rw [add_block];exact hn731_4) | exact hn731_4) (.bool ((rd_T50 t710 x12_2).f4))).trans hx731_0
                  (try have hy731_0:=fun (n_ : Nat)=>(show (((((((w44.drewN n_).setCell ⟨gb730,0,none⟩ (.int .i64 ((rd_T50 t710 x12_2).f0))).setCell ⟨gb730,1,none⟩ (.int .i64 ((rd_T50 t710 x12_2).f1))).setCell ⟨gb730,2,none⟩ (.int .i64 ((rd_T50 t710 x12_2).f2))).setCell ⟨gb730,3,none⟩ (.int .i64 ((rd_T50 t710 x12_2).f3))).setCell ⟨gb730,4,none⟩ (.bool ((rd_T50 t710 x12_2).f4)))).cell? _ = some _ from hx731_0))
                  clear hn731_0
                  clear hn731_1
                  clear hn731_2
                  clear hn731_3
                  clear hn731_4
                  replace p731:=eq_true p731
                  replace q731:=eq_true q731
                  go_wp2
                  repeat (go_quiet (fail);try go_wp2)
                  go_meet
                  case rel=>exact ⟨_,(true),rs_,H',⟨by have:=HJ7.out;have:=HK2.out;first | omega | exact Nat.le_refl _⟩,⟨by (with_reducible repeat apply ru);exact Kd.R_mono (Kd.R_far (p:=⟨gb730,4,none⟩) (Kd.R_far (p:=⟨gb730,3,none⟩) (Kd.R_far (p:=⟨gb730,2,none⟩) (Kd.R_far (p:=⟨gb730,1,none⟩) (Kd.R_far (p:=⟨gb730,0,none⟩) (Kd.R_mono HO_5.out (fun k_ hk=>(⟨hk,hk.2⟩ : _ ∧ k_ ≠ gb730))) (fun _ hk=>hk.2) (.int .i64 ((rd_T50 t710 x12_2).f0))) (fun _ hk=>hk.2) (.int .i64 ((rd_T50 t710 x12_2).f1))) (fun _ hk=>hk.2) (.int .i64 ((rd_T50 t710 x12_2).f2))) (fun _ hk=>hk.2) (.int .i64 ((rd_T50 t710 x12_2).f3))) (fun _ hk=>hk.2) (.bool ((rd_T50 t710 x12_2).f4))) (fun _ hk=>hk.1.2)⟩,⟨by (with_reducible repeat apply ru);exact Kd.R_mono (Kd.R_far (p:=⟨gb730,4,none⟩) (Kd.R_far (p:=⟨gb730,3,none⟩) (Kd.R_far (p:=⟨gb730,2,none⟩) (Kd.R_far (p:=⟨gb730,1,none⟩) (Kd.R_far (p:=⟨gb730,0,none⟩) (Kd.R_types HO_6.out BK730.out (by decide)) (fun _ hk=>hk.2) (.int .i64 ((rd_T50 t710 x12_2).f0))) (fun _ hk=>hk.2) (.int .i64 ((rd_T50 t710 x12_2).f1))) (fun _ hk=>hk.2) (.int .i64 ((rd_T50 t710 x12_2).f2))) (fun _ hk=>hk.2) (.int .i64 ((rd_T50 t710 x12_2).f3))) (fun _ hk=>hk.2) (.bool ((rd_T50 t710 x12_2).f4))) (fun _ hk=>trivial)⟩,⟨by (with_reducible repeat apply ru);exact Kd.R_mono (Kd.R_far (p:=⟨gb730,4,none⟩) (Kd.R_far (p:=⟨gb730,3,none⟩) (Kd.R_far (p:=⟨gb730,2,none⟩) (Kd.R_far (p:=⟨gb730,1,none⟩) (Kd.R_far (p:=⟨gb730,0,none⟩) (Kd.R_types HO_710000.out BK730.out (by decide)) (fun _ hk=>hk.2) (.int .i64 ((rd_T50 t710 x12_2).f0))) (fun _ hk=>hk.2) (.int .i64 ((rd_T50 t710 x12_2).f1))) (fun _ hk=>hk.2) (.int .i64 ((rd_T50 t710 x12_2).f2))) (fun _ hk=>hk.2) (.int .i64 ((rd_T50 t710 x12_2).f3))) (fun _ hk=>hk.2) (.bool ((rd_T50 t710 x12_2).f4))) (fun _ hk=>hk.1)⟩,⟨by (with_reducible repeat apply ru);exact Kd.R_mono (Kd.R_far (p:=⟨gb730,4,none⟩) (Kd.R_far (p:=⟨gb730,3,none⟩) (Kd.R_far (p:=⟨gb730,2,none⟩) (Kd.R_far (p:=⟨gb730,1,none⟩) (Kd.R_far (p:=⟨gb730,0,none⟩) (Kd.R_types HO_729000.out BK730.out (by decide)) (fun _ hk=>hk.2) (.int .i64 ((rd_T50 t710 x12_2).f0))) (fun _ hk=>hk.2) (.int .i64 ((rd_T50 t710 x12_2).f1))) (fun _ hk=>hk.2) (.int .i64 ((rd_T50 t710 x12_2).f2))) (fun _ hk=>hk.2) (.int .i64 ((rd_T50 t710 x12_2).f3))) (fun _ hk=>hk.2) (.bool ((rd_T50 t710 x12_2).f4))) (fun _ hk=>hk.1)⟩,bf_ BK709,bf_ BK728,⟨by (with_reducible repeat refine bu ?_);refine blk_put (cs:=#[.int .i64 ((rd_T50 t710 x12_2).f0),.int .i64 ((rd_T50 t710 x12_2).f1),.int .i64 ((rd_T50 t710 x12_2).f2),.int .i64 ((rd_T50 t710 x12_2).f3),.bool false]) ?_ 4 _ rfl;(with_reducible repeat refine bu ?_);refine blk_put (cs:=#[.int .i64 ((rd_T50 t710 x12_2).f0),.int .i64 ((rd_T50 t710 x12_2).f1),.int .i64 ((rd_T50 t710 x12_2).f2),.int .i64 0,.bool false]) ?_ 3 _ rfl;(with_reducible repeat refine bu ?_);refine blk_put (cs:=#[.int .i64 ((rd_T50 t710 x12_2).f0),.int .i64 ((rd_T50 t710 x12_2).f1),.int .i64 0,.int .i64 0,.bool false]) ?_ 2 _ rfl;(with_reducible repeat refine bu ?_);refine blk_put (cs:=#[.int .i64 ((rd_T50 t710 x12_2).f0),.int .i64 0,.int .i64 0,.int .i64 0,.bool false]) ?_ 1 _ rfl;(with_reducible repeat refine bu ?_);refine blk_put (cs:=#[.int .i64 0,.int .i64 0,.int .i64 0,.int .i64 0,.bool false]) ?_ 0 _ rfl;(with_reducible repeat refine bu ?_);exact BK730.out⟩,⟨m2_⟩⟩
                 ·rw [if_neg c56] at H
                  have c56b0 : decide ((t727.size : Int) < ((rd_T50 t710 x12_2).f3)) = false:=decide_eq_false c56
                  clear c56
                  by_cases c60 : 0 ≤ ((rd_T50 t710 x12_2).f0)
                  ·rw [if_pos c60] at H
                   have c60b0:=eq_true c60
                   have c60b1 : decide (0 ≤ ((rd_T50 t710 x12_2).f0)) = true:=decide_eq_true c60
                   clear c60
                   by_cases c61 : ((rd_T50 t710 x12_2).f0) ≤ ((rd_T50 t710 x12_2).f1)
                   ·rw [if_pos c61] at H
                    have c61b0:=eq_true c61
                    have c61b1 : decide (((rd_T50 t710 x12_2).f0) ≤ ((rd_T50 t710 x12_2).f1)) = true:=decide_eq_true c61
                    clear c61
                    by_cases c62 : ((rd_T50 t710 x12_2).f1) ≤ (t708.size : Int)
                    ·rw [if_pos c62] at H
                     have c62b0:=eq_true c62
                     have c62b1 : decide (((rd_T50 t710 x12_2).f1) ≤ (t708.size : Int)) = true:=decide_eq_true c62
                     clear c62
                     by_cases c63 : (rdOf ByteArray.empty t720 x12_2).size + 1 ≤ 9223372036854775807
                     ·rw [if_pos c63] at H
                      have c63b0:=eq_true c63
                      have c63b1 : decide ((rdOf ByteArray.empty t720 x12_2).size + 1 ≤ 9223372036854775807) = true:=decide_eq_true c63
                      try have c63b2 : (9223372036854775807 < (rdOf ByteArray.empty t720 x12_2).size + 1) = False:=eq_false (Nat.not_lt.2 c63)
                      by_cases c64 : (t708.extract (((rd_T50 t710 x12_2).f0) : Int).toNat (((rd_T50 t710 x12_2).f1) : Int).toNat).toList = ((rdOf ByteArray.empty t720 x12_2) ++ (⟨#[59]⟩ : ByteArray)).toList
                      ·rw [if_pos c64] at H
                       have c64b0 : ((t708.extract (((rd_T50 t710 x12_2).f0) : Int).toNat (((rd_T50 t710 x12_2).f1) : Int).toNat).toList == ((rdOf ByteArray.empty t720 x12_2) ++ (⟨#[59]⟩ : ByteArray)).toList) = true:=beq_iff_eq.mpr c64
                       have c64b1 : ((t708.extract (((rd_T50 t710 x12_2).f0) : Int).toNat (((rd_T50 t710 x12_2).f1) : Int).toNat).toList != ((rdOf ByteArray.empty t720 x12_2) ++ (⟨#[59]⟩ : ByteArray)).toList) = false:=bne_eq_false_iff_eq.mpr c64
                       clear c64
                       obtain ⟨ji65,hji65⟩ : ∃ j_ : Int,(wrap64 (((rd_T50 t710 x12_2).f3) - 1)) = j_:=⟨_,rfl⟩
                       replace H : (if 0 ≤ (ji65) then (if (ji65) < (t727.size : Int) then (laws_FnPosSpans.j2 k2 t708 t710 t720 t727 x12_2 ((bt t727 (ji65)) != 59) ((rd_T50 t710 x12_2).f0) ((rd_T50 t710 x12_2).f1) ((rd_T50 t710 x12_2).f2) ((rd_T50 t710 x12_2).f3) ((rd_T50 t710 x12_2).f4)) else (none)) else (none)) = some r:=by first | (rw [hji65] at H;exact H) | (simp only [hji65] at H ⊢;exact H)
                       have hji65w : (IntKind.i64.wrap (((rd_T50 t710 x12_2).f3) - 1)) = ji65:=(i64_w _).trans hji65
                       by_cases c66 : 0 ≤ (ji65)
                       ·rw [if_pos c66] at H
                        have c66b0 : decide (0 ≤ (ji65)) = true:=decide_eq_true c66
                        clear c66
                        by_cases c67 : (ji65) < (t727.size : Int)
                        ·rw [if_pos c67] at H
                         have c67b0 : decide ((ji65) < (t727.size : Int)) = true:=decide_eq_true c67
                         clear c67
                         have H':=am H
                         clear H
                         have:=NB730_709.out
                         have:=NB709_730.out
                         have:=NB730_728.out
                         have:=NB728_730.out
                         have hcz71_0:=bcell BK730 0
                         have hcz71_1:=bcell BK730 1
                         have hcz71_2:=bcell BK730 2
                         have hcz71_3:=bcell BK730 3
                         have hcz71_4:=bcell BK730 4
                         have hfz71_0:=blk_frozen BK730.out 0
                         have hfz71_1:=blk_frozen BK730.out 1
                         have hfz71_2:=blk_frozen BK730.out 2
                         have hfz71_3:=blk_frozen BK730.out 3
                         have hfz71_4:=blk_frozen BK730.out 4
                         have p731 : 0 ≤ (x12_2 : Int):=of_decide_eq_true da_
                         have q731 : x12_2 < (t720.length : Int):=of_decide_eq_true da_
                         obtain ⟨ad731,e731,hx731_0⟩:=Kd.at_string (Kd.R_reads' HO_6.out).2.2 x12_2 p731 q731
                         cases e731
                         have hn731_0 : ad731.block ≠ gb730:=Kd.own_blk (Kd.R_ne HO_6.out BK730.out (by decide))
                         have hn731_1 : ad731.block ≠ gb730:=Kd.own_blk (Kd.R_ne HO_6.out BK730.out (by decide))
                         have hn731_2 : ad731.block ≠ gb730:=Kd.own_blk (Kd.R_ne HO_6.out BK730.out (by decide))
                         have hn731_3 : ad731.block ≠ gb730:=Kd.own_blk (Kd.R_ne HO_6.out BK730.out (by decide))
                         have hn731_4 : ad731.block ≠ gb730:=Kd.own_blk (Kd.R_ne HO_6.out BK730.out (by decide))
                         replace hx731_0:=(cell_far (p:=⟨gb730,0,none⟩) (by first | (rw [add_block];exact hn731_0) | (show (Addr.add _ _).block ≠ _;rw [add_block];exact hn731_0) | exact hn731_0) (.int .i64 ((rd_T50 t710 x12_2).f0))).trans hx731_0
                         replace hx731_0:=(cell_far (p:=⟨gb730,1,none⟩) (by first | (rw [add_block];exact hn731_1) | (show (Addr.add _ _).block ≠ _;rw [add_block];exact hn731_1) | exact hn731_1) (.int .i64 ((rd_T50 t710 x12_2).f1))).trans hx731_0
                         replace hx731_0:=(cell_far (p:=⟨gb730,2,none⟩) (by first | (rw [add_block];exact hn731_2) | (show (Addr.add _ _).block ≠ _;rw [add_block];exact hn731_2) | exact hn731_2) (.int .i64 ((rd_T50 t710 x12_2).f2))).trans hx731_0
                         replace hx731_0:=(cell_far (p:=⟨gb730,3,none⟩) (by first | (rw [add_block];exact hn731_3) | (show (Addr.add _ _).block ≠ _;rw [add_block];exact hn731_3) | exact hn731_3) (.int .i64 ((rd_T50 t710 x12_2).f3))).trans hx731_0
                         replace hx731_0:=(cell_far (p:=⟨gb730,4,none⟩) (by first | (rw [add_block];exact hn731_4) | (show (Addr.add _ _).block ≠ _;rw [add_block];exact hn731_4) | exact hn731_4) (.bool ((rd_T50 t710 x12_2).f4))).trans hx731_0
                         (try have hy731_0:=fun (n_ : Nat)=>(show (((((((w44.drewN n_).setCell ⟨gb730,0,none⟩ (.int .i64 ((rd_T50 t710 x12_2).f0))).setCell ⟨gb730,1,none⟩ (.int .i64 ((rd_T50 t710 x12_2).f1))).setCell ⟨gb730,2,none⟩ (.int .i64 ((rd_T50 t710 x12_2).f2))).setCell ⟨gb730,3,none⟩ (.int .i64 ((rd_T50 t710 x12_2).f3))).setCell ⟨gb730,4,none⟩ (.bool ((rd_T50 t710 x12_2).f4)))).cell? _ = some _ from hx731_0))
                         clear hn731_0
                         clear hn731_1
                         clear hn731_2
                         clear hn731_3
                         clear hn731_4
                         replace p731:=eq_true p731
                         replace q731:=eq_true q731
                         have p732 : 0 ≤ (x12_2 : Int):=of_decide_eq_true da_
                         have q732 : x12_2 < (t720.length : Int):=of_decide_eq_true da_
                         obtain ⟨ad732,e732,hx732_0⟩:=Kd.at_string (Kd.R_reads' HO_6.out).2.2 x12_2 p732 q732
                         obtain rfl : ad731 = ad732:=(by injection e732)
                         have hn732_0 : ad731.block ≠ gb730:=Kd.own_blk (Kd.R_ne HO_6.out BK730.out (by decide))
                         have hn732_1 : ad731.block ≠ gb730:=Kd.own_blk (Kd.R_ne HO_6.out BK730.out (by decide))
                         have hn732_2 : ad731.block ≠ gb730:=Kd.own_blk (Kd.R_ne HO_6.out BK730.out (by decide))
                         have hn732_3 : ad731.block ≠ gb730:=Kd.own_blk (Kd.R_ne HO_6.out BK730.out (by decide))
                         have hn732_4 : ad731.block ≠ gb730:=Kd.own_blk (Kd.R_ne HO_6.out BK730.out (by decide))
                         replace hx732_0:=(cell_far (p:=⟨gb730,0,none⟩) (by first | (rw [add_block];exact hn732_0) | (show (Addr.add _ _).block ≠ _;rw [add_block];exact hn732_0) | exact hn732_0) (.int .i64 ((rd_T50 t710 x12_2).f0))).trans hx732_0
                         replace hx732_0:=(cell_far (p:=⟨gb730,1,none⟩) (by first | (rw [add_block];exact hn732_1) | (show (Addr.add _ _).block ≠ _;rw [add_block];exact hn732_1) | exact hn732_1) (.int .i64 ((rd_T50 t710 x12_2).f1))).trans hx732_0
                         replace hx732_0:=(cell_far (p:=⟨gb730,2,none⟩) (by first | (rw [add_block];exact hn732_2) | (show (Addr.add _ _).block ≠ _;rw [add_block];exact hn732_2) | exact hn732_2) (.int .i64 ((rd_T50 t710 x12_2).f2))).trans hx732_0
                         replace hx732_0:=(cell_far (p:=⟨gb730,3,none⟩) (by first | (rw [add_block];exact hn732_3) | (show (Addr.add _ _).block ≠ _;rw [add_block];exact hn732_3) | exact hn732_3) (.int .i64 ((rd_T50 t710 x12_2).f3))).trans hx732_0
                         replace hx732_0:=(cell_far (p:=⟨gb730,4,none⟩) (by first | (rw [add_block];exact hn732_4) | (show (Addr.add _ _).block ≠ _;rw [add_block];exact hn732_4) | exact hn732_4) (.bool ((rd_T50 t710 x12_2).f4))).trans hx732_0
                         (try have hy732_0:=fun (n_ : Nat)=>(show (((((((w44.drewN n_).setCell ⟨gb730,0,none⟩ (.int .i64 ((rd_T50 t710 x12_2).f0))).setCell ⟨gb730,1,none⟩ (.int .i64 ((rd_T50 t710 x12_2).f1))).setCell ⟨gb730,2,none⟩ (.int .i64 ((rd_T50 t710 x12_2).f2))).setCell ⟨gb730,3,none⟩ (.int .i64 ((rd_T50 t710 x12_2).f3))).setCell ⟨gb730,4,none⟩ (.bool ((rd_T50 t710 x12_2).f4)))).cell? _ = some _ from hx732_0))
                         clear hn732_0
                         clear hn732_1
                         clear hn732_2
                         clear hn732_3
                         clear hn732_4
                         replace p732:=eq_true p732
                         replace q732:=eq_true q732
                         have p68 : 0 ≤ ((ji65) : Int):=of_decide_eq_true da_
                         have q68 : (ji65) < (t727.size : Int):=of_decide_eq_true da_
                         have hx68:=bt_at t727 (ji65)
                         replace p68:=eq_true p68
                         replace q68:=eq_true q68
                         go_wp2
                         repeat (go_quiet (fail);try go_wp2)
                         go_meet
                         case rel=>exact ⟨_,(((bt t727 (ji65)) != 59)),(by first | rfl | (simp;done) | (simp only [← hji65] <;> (first | rfl | simp)) | (simp [*];done)),H',⟨by have:=HJ7.out;have:=HK2.out;first | omega | exact Nat.le_refl _⟩,⟨by (with_reducible repeat apply ru);exact Kd.R_mono (Kd.R_far (p:=⟨gb730,4,none⟩) (Kd.R_far (p:=⟨gb730,3,none⟩) (Kd.R_far (p:=⟨gb730,2,none⟩) (Kd.R_far (p:=⟨gb730,1,none⟩) (Kd.R_far (p:=⟨gb730,0,none⟩) (Kd.R_mono HO_5.out (fun k_ hk=>(⟨hk,hk.2⟩ : _ ∧ k_ ≠ gb730))) (fun _ hk=>hk.2) (.int .i64 ((rd_T50 t710 x12_2).f0))) (fun _ hk=>hk.2) (.int .i64 ((rd_T50 t710 x12_2).f1))) (fun _ hk=>hk.2) (.int .i64 ((rd_T50 t710 x12_2).f2))) (fun _ hk=>hk.2) (.int .i64 ((rd_T50 t710 x12_2).f3))) (fun _ hk=>hk.2) (.bool ((rd_T50 t710 x12_2).f4))) (fun _ hk=>hk.1.2)⟩,⟨by (with_reducible repeat apply ru);exact Kd.R_mono (Kd.R_far (p:=⟨gb730,4,none⟩) (Kd.R_far (p:=⟨gb730,3,none⟩) (Kd.R_far (p:=⟨gb730,2,none⟩) (Kd.R_far (p:=⟨gb730,1,none⟩) (Kd.R_far (p:=⟨gb730,0,none⟩) (Kd.R_types HO_6.out BK730.out (by decide)) (fun _ hk=>hk.2) (.int .i64 ((rd_T50 t710 x12_2).f0))) (fun _ hk=>hk.2) (.int .i64 ((rd_T50 t710 x12_2).f1))) (fun _ hk=>hk.2) (.int .i64 ((rd_T50 t710 x12_2).f2))) (fun _ hk=>hk.2) (.int .i64 ((rd_T50 t710 x12_2).f3))) (fun _ hk=>hk.2) (.bool ((rd_T50 t710 x12_2).f4))) (fun _ hk=>trivial)⟩,⟨by (with_reducible repeat apply ru);exact Kd.R_mono (Kd.R_far (p:=⟨gb730,4,none⟩) (Kd.R_far (p:=⟨gb730,3,none⟩) (Kd.R_far (p:=⟨gb730,2,none⟩) (Kd.R_far (p:=⟨gb730,1,none⟩) (Kd.R_far (p:=⟨gb730,0,none⟩) (Kd.R_types HO_710000.out BK730.out (by decide)) (fun _ hk=>hk.2) (.int .i64 ((rd_T50 t710 x12_2).f0))) (fun _ hk=>hk.2) (.int .i64 ((rd_T50 t710 x12_2).f1))) (fun _ hk=>hk.2) (.int .i64 ((rd_T50 t710 x12_2).f2))) (fun _ hk=>hk.2) (.int .i64 ((rd_T50 t710 x12_2).f3))) (fun _ hk=>hk.2) (.bool ((rd_T50 t710 x12_2).f4))) (fun _ hk=>hk.1)⟩,⟨by (with_reducible repeat apply ru);exact Kd.R_mono (Kd.R_far (p:=⟨gb730,4,none⟩) (Kd.R_far (p:=⟨gb730,3,none⟩) (Kd.R_far (p:=⟨gb730,2,none⟩) (Kd.R_far (p:=⟨gb730,1,none⟩) (Kd.R_far (p:=⟨gb730,0,none⟩) (Kd.R_types HO_729000.out BK730.out (by decide)) (fun _ hk=>hk.2) (.int .i64 ((rd_T50 t710 x12_2).f0))) (fun _ hk=>hk.2) (.int .i64 ((rd_T50 t710 x12_2).f1))) (fun _ hk=>hk.2) (.int .i64 ((rd_T50 t710 x12_2).f2))) (fun _ hk=>hk.2) (.int .i64 ((rd_T50 t710 x12_2).f3))) (fun _ hk=>hk.2) (.bool ((rd_T50 t710 x12_2).f4))) (fun _ hk=>hk.1)⟩,bf_ BK709,bf_ BK728,⟨by (with_reducible repeat refine bu ?_);refine blk_put (cs:=#[.int .i64 ((rd_T50 t710 x12_2).f0),.int .i64 ((rd_T50 t710 x12_2).f1),.int .i64 ((rd_T50 t710 x12_2).f2),.int .i64 ((rd_T50 t710 x12_2).f3),.bool false]) ?_ 4 _ rfl;(with_reducible repeat refine bu ?_);refine blk_put (cs:=#[.int .i64 ((rd_T50 t710 x12_2).f0),.int .i64 ((rd_T50 t710 x12_2).f1),.int .i64 ((rd_T50 t710 x12_2).f2),.int .i64 0,.bool false]) ?_ 3 _ rfl;(with_reducible repeat refine bu ?_);refine blk_put (cs:=#[.int .i64 ((rd_T50 t710 x12_2).f0),.int .i64 ((rd_T50 t710 x12_2).f1),.int .i64 0,.int .i64 0,.bool false]) ?_ 2 _ rfl;(with_reducible repeat refine bu ?_);refine blk_put (cs:=#[.int .i64 ((rd_T50 t710 x12_2).f0),.int .i64 0,.int .i64 0,.int .i64 0,.bool false]) ?_ 1 _ rfl;(with_reducible repeat refine bu ?_);refine blk_put (cs:=#[.int .i64 0,.int .i64 0,.int .i64 0,.int .i64 0,.bool false]) ?_ 0 _ rfl;(with_reducible repeat refine bu ?_);exact BK730.out⟩,⟨m2_⟩⟩
                        ·rw [if_neg c67] at H
                         exact absurd H (by simp)
                       ·rw [if_neg c66] at H
                        exact absurd H (by simp)
                      ·rw [if_neg c64] at H
                       have c64b0 : ((t708.extract (((rd_T50 t710 x12_2).f0) : Int).toNat (((rd_T50 t710 x12_2).f1) : Int).toNat).toList == ((rdOf ByteArray.empty t720 x12_2) ++ (⟨#[59]⟩ : ByteArray)).toList) = false:=beq_eq_false_iff_ne.mpr c64
                       have c64b1 : ((t708.extract (((rd_T50 t710 x12_2).f0) : Int).toNat (((rd_T50 t710 x12_2).f1) : Int).toNat).toList != ((rdOf ByteArray.empty t720 x12_2) ++ (⟨#[59]⟩ : ByteArray)).toList) = true:=bne_iff_ne.mpr c64
                       have H':=am H
                       clear H
                       have:=NB730_709.out
                       have:=NB709_730.out
                       have:=NB730_728.out
                       have:=NB728_730.out
                       have hcz74_0:=bcell BK730 0
                       have hcz74_1:=bcell BK730 1
                       have hcz74_2:=bcell BK730 2
                       have hcz74_3:=bcell BK730 3
                       have hcz74_4:=bcell BK730 4
                       have hfz74_0:=blk_frozen BK730.out 0
                       have hfz74_1:=blk_frozen BK730.out 1
                       have hfz74_2:=blk_frozen BK730.out 2
                       have hfz74_3:=blk_frozen BK730.out 3
                       have hfz74_4:=blk_frozen BK730.out 4
                       have p731 : 0 ≤ (x12_2 : Int):=of_decide_eq_true da_
                       have q731 : x12_2 < (t720.length : Int):=of_decide_eq_true da_
                       obtain ⟨ad731,e731,hx731_0⟩:=Kd.at_string (Kd.R_reads' HO_6.out).2.2 x12_2 p731 q731
                       cases e731
                       have hn731_0 : ad731.block ≠ gb730:=Kd.own_blk (Kd.R_ne HO_6.out BK730.out (by decide))
                       have hn731_1 : ad731.block ≠ gb730:=Kd.own_blk (Kd.R_ne HO_6.out BK730.out (by decide))
                       have hn731_2 : ad731.block ≠ gb730:=Kd.own_blk (Kd.R_ne HO_6.out BK730.out (by decide))
                       have hn731_3 : ad731.block ≠ gb730:=Kd.own_blk (Kd.R_ne HO_6.out BK730.out (by decide))
                       have hn731_4 : ad731.block ≠ gb730:=Kd.own_blk (Kd.R_ne HO_6.out BK730.out (by decide))
                       replace hx731_0:=(cell_far (p:=⟨gb730,0,none⟩) (by first | (rw [add_block];exact hn731_0) | (show (Addr.add _ _).block ≠ _;rw [add_block];exact hn731_0) | exact hn731_0) (.int .i64 ((rd_T50 t710 x12_2).f0))).trans hx731_0
                       replace hx731_0:=(cell_far (p:=⟨gb730,1,none⟩) (by first | (rw [add_block];exact hn731_1) | (show (Addr.add _ _).block ≠ _;rw [add_block];exact hn731_1) | exact hn731_1) (.int .i64 ((rd_T50 t710 x12_2).f1))).trans hx731_0
                       replace hx731_0:=(cell_far (p:=⟨gb730,2,none⟩) (by first | (rw [add_block];exact hn731_2) | (show (Addr.add _ _).block ≠ _;rw [add_block];exact hn731_2) | exact hn731_2) (.int .i64 ((rd_T50 t710 x12_2).f2))).trans hx731_0
                       replace hx731_0:=(cell_far (p:=⟨gb730,3,none⟩) (by first | (rw [add_block];exact hn731_3) | (show (Addr.add _ _).block ≠ _;rw [add_block];exact hn731_3) | exact hn731_3) (.int .i64 ((rd_T50 t710 x12_2).f3))).trans hx731_0
                       replace hx731_0:=(cell_far (p:=⟨gb730,4,none⟩) (by first | (rw [add_block];exact hn731_4) | (show (Addr.add _ _).block ≠ _;rw [add_block];exact hn731_4) | exact hn731_4) (.bool ((rd_T50 t710 x12_2).f4))).trans hx731_0
                       (try have hy731_0:=fun (n_ : Nat)=>(show (((((((w44.drewN n_).setCell ⟨gb730,0,none⟩ (.int .i64 ((rd_T50 t710 x12_2).f0))).setCell ⟨gb730,1,none⟩ (.int .i64 ((rd_T50 t710 x12_2).f1))).setCell ⟨gb730,2,none⟩ (.int .i64 ((rd_T50 t710 x12_2).f2))).setCell ⟨gb730,3,none⟩ (.int .i64 ((rd_T50 t710 x12_2).f3))).setCell ⟨gb730,4,none⟩ (.bool ((rd_T50 t710 x12_2).f4)))).cell? _ = some _ from hx731_0))
                       clear hn731_0
                       clear hn731_1
                       clear hn731_2
                       clear hn731_3
                       clear hn731_4
                       replace p731:=eq_true p731
                       replace q731:=eq_true q731
                       have p732 : 0 ≤ (x12_2 : Int):=of_decide_eq_true da_
                       have q732 : x12_2 < (t720.length : Int):=of_decide_eq_true da_
                       obtain ⟨ad732,e732,hx732_0⟩:=Kd.at_string (Kd.R_reads' HO_6.out).2.2 x12_2 p732 q732
                       obtain rfl : ad731 = ad732:=(by injection e732)
                       have hn732_0 : ad731.block ≠ gb730:=Kd.own_blk (Kd.R_ne HO_6.out BK730.out (by decide))
                       have hn732_1 : ad731.block ≠ gb730:=Kd.own_blk (Kd.R_ne HO_6.out BK730.out (by decide))
                       have hn732_2 : ad731.block ≠ gb730:=Kd.own_blk (Kd.R_ne HO_6.out BK730.out (by decide))
                       have hn732_3 : ad731.block ≠ gb730:=Kd.own_blk (Kd.R_ne HO_6.out BK730.out (by decide))
                       have hn732_4 : ad731.block ≠ gb730:=Kd.own_blk (Kd.R_ne HO_6.out BK730.out (by decide))
                       replace hx732_0:=(cell_far (p:=⟨gb730,0,none⟩) (by first | (rw [add_block];exact hn732_0) | (show (Addr.add _ _).block ≠ _;rw [add_block];exact hn732_0) | exact hn732_0) (.int .i64 ((rd_T50 t710 x12_2).f0))).trans hx732_0
                       replace hx732_0:=(cell_far (p:=⟨gb730,1,none⟩) (by first | (rw [add_block];exact hn732_1) | (show (Addr.add _ _).block ≠ _;rw [add_block];exact hn732_1) | exact hn732_1) (.int .i64 ((rd_T50 t710 x12_2).f1))).trans hx732_0
                       replace hx732_0:=(cell_far (p:=⟨gb730,2,none⟩) (by first | (rw [add_block];exact hn732_2) | (show (Addr.add _ _).block ≠ _;rw [add_block];exact hn732_2) | exact hn732_2) (.int .i64 ((rd_T50 t710 x12_2).f2))).trans hx732_0
                       replace hx732_0:=(cell_far (p:=⟨gb730,3,none⟩) (by first | (rw [add_block];exact hn732_3) | (show (Addr.add _ _).block ≠ _;rw [add_block];exact hn732_3) | exact hn732_3) (.int .i64 ((rd_T50 t710 x12_2).f3))).trans hx732_0
                       replace hx732_0:=(cell_far (p:=⟨gb730,4,none⟩) (by first | (rw [add_block];exact hn732_4) | (show (Addr.add _ _).block ≠ _;rw [add_block];exact hn732_4) | exact hn732_4) (.bool ((rd_T50 t710 x12_2).f4))).trans hx732_0
                       (try have hy732_0:=fun (n_ : Nat)=>(show (((((((w44.drewN n_).setCell ⟨gb730,0,none⟩ (.int .i64 ((rd_T50 t710 x12_2).f0))).setCell ⟨gb730,1,none⟩ (.int .i64 ((rd_T50 t710 x12_2).f1))).setCell ⟨gb730,2,none⟩ (.int .i64 ((rd_T50 t710 x12_2).f2))).setCell ⟨gb730,3,none⟩ (.int .i64 ((rd_T50 t710 x12_2).f3))).setCell ⟨gb730,4,none⟩ (.bool ((rd_T50 t710 x12_2).f4)))).cell? _ = some _ from hx732_0))
                       clear hn732_0
                       clear hn732_1
                       clear hn732_2
                       clear hn732_3
                       clear hn732_4
                       replace p732:=eq_true p732
                       replace q732:=eq_true q732
                       go_wp2
                       repeat (go_quiet (fail);try go_wp2)
                       go_meet
                       case rel=>exact ⟨_,(true),rs_,H',⟨by have:=HJ7.out;have:=HK2.out;first | omega | exact Nat.le_refl _⟩,⟨by (with_reducible repeat apply ru);exact Kd.R_mono (Kd.R_far (p:=⟨gb730,4,none⟩) (Kd.R_far (p:=⟨gb730,3,none⟩) (Kd.R_far (p:=⟨gb730,2,none⟩) (Kd.R_far (p:=⟨gb730,1,none⟩) (Kd.R_far (p:=⟨gb730,0,none⟩) (Kd.R_mono HO_5.out (fun k_ hk=>(⟨hk,hk.2⟩ : _ ∧ k_ ≠ gb730))) (fun _ hk=>hk.2) (.int .i64 ((rd_T50 t710 x12_2).f0))) (fun _ hk=>hk.2) (.int .i64 ((rd_T50 t710 x12_2).f1))) (fun _ hk=>hk.2) (.int .i64 ((rd_T50 t710 x12_2).f2))) (fun _ hk=>hk.2) (.int .i64 ((rd_T50 t710 x12_2).f3))) (fun _ hk=>hk.2) (.bool ((rd_T50 t710 x12_2).f4))) (fun _ hk=>hk.1.2)⟩,⟨by (with_reducible repeat apply ru);exact Kd.R_mono (Kd.R_far (p:=⟨gb730,4,none⟩) (Kd.R_far (p:=⟨gb730,3,none⟩) (Kd.R_far (p:=⟨gb730,2,none⟩) (Kd.R_far (p:=⟨gb730,1,none⟩) (Kd.R_far (p:=⟨gb730,0,none⟩) (Kd.R_types HO_6.out BK730.out (by decide)) (fun _ hk=>hk.2) (.int .i64 ((rd_T50 t710 x12_2).f0))) (fun _ hk=>hk.2) (.int .i64 ((rd_T50 t710 x12_2).f1))) (fun _ hk=>hk.2) (.int .i64 ((rd_T50 t710 x12_2).f2))) (fun _ hk=>hk.2) (.int .i64 ((rd_T50 t710 x12_2).f3))) (fun _ hk=>hk.2) (.bool ((rd_T50 t710 x12_2).f4))) (fun _ hk=>trivial)⟩,⟨by (with_reducible repeat apply ru);exact Kd.R_mono (Kd.R_far (p:=⟨gb730,4,none⟩) (Kd.R_far (p:=⟨gb730,3,none⟩) (Kd.R_far (p:=⟨gb730,2,none⟩) (Kd.R_far (p:=⟨gb730,1,none⟩) (Kd.R_far (p:=⟨gb730,0,none⟩) (Kd.R_types HO_710000.out BK730.out (by decide)) (fun _ hk=>hk.2) (.int .i64 ((rd_T50 t710 x12_2).f0))) (fun _ hk=>hk.2) (.int .i64 ((rd_T50 t710 x12_2).f1))) (fun _ hk=>hk.2) (.int .i64 ((rd_T50 t710 x12_2).f2))) (fun _ hk=>hk.2) (.int .i64 ((rd_T50 t710 x12_2).f3))) (fun _ hk=>hk.2) (.bool ((rd_T50 t710 x12_2).f4))) (fun _ hk=>hk.1)⟩,⟨by (with_reducible repeat apply ru);exact Kd.R_mono (Kd.R_far (p:=⟨gb730,4,none⟩) (Kd.R_far (p:=⟨gb730,3,none⟩) (Kd.R_far (p:=⟨gb730,2,none⟩) (Kd.R_far (p:=⟨gb730,1,none⟩) (Kd.R_far (p:=⟨gb730,0,none⟩) (Kd.R_types HO_729000.out BK730.out (by decide)) (fun _ hk=>hk.2) (.int .i64 ((rd_T50 t710 x12_2).f0))) (fun _ hk=>hk.2) (.int .i64 ((rd_T50 t710 x12_2).f1))) (fun _ hk=>hk.2) (.int .i64 ((rd_T50 t710 x12_2).f2))) (fun _ hk=>hk.2) (.int .i64 ((rd_T50 t710 x12_2).f3))) (fun _ hk=>hk.2) (.bool ((rd_T50 t710 x12_2).f4))) (fun _ hk=>hk.1)⟩,bf_ BK709,bf_ BK728,⟨by (with_reducible repeat refine bu ?_);refine blk_put (cs:=#[.int .i64 ((rd_T50 t710 x12_2).f0),.int .i64 ((rd_T50 t710 x12_2).f1),.int .i64 ((rd_T50 t710 x12_2).f2),.int .i64 ((rd_T50 t710 x12_2).f3),.bool false]) ?_ 4 _ rfl;(with_reducible repeat refine bu ?_);refine blk_put (cs:=#[.int .i64 ((rd_T50 t710 x12_2).f0),.int .i64 ((rd_T50 t710 x12_2).f1),.int .i64 ((rd_T50 t710 x12_2).f2),.int .i64 0,.bool false]) ?_ 3 _ rfl;(with_reducible repeat refine bu ?_);refine blk_put (cs:=#[.int .i64 ((rd_T50 t710 x12_2).f0),.int .i64 ((rd_T50 t710 x12_2).f1),.int .i64 0,.int .i64 0,.bool false]) ?_ 2 _ rfl;(with_reducible repeat refine bu ?_);refine blk_put (cs:=#[.int .i64 ((rd_T50 t710 x12_2).f0),.int .i64 0,.int .i64 0,.int .i64 0,.bool false]) ?_ 1 _ rfl;(with_reducible repeat refine bu ?_);refine blk_put (cs:=#[.int .i64 0,.int .i64 0,.int .i64 0,.int .i64 0,.bool false]) ?_ 0 _ rfl;(with_reducible repeat refine bu ?_);exact BK730.out⟩,⟨m2_⟩⟩
                     ·rw [if_neg c63] at H
                      exact absurd H (by simp)
                    ·rw [if_neg c62] at H
                     exact absurd H (by simp)
                   ·rw [if_neg c61] at H
                    exact absurd H (by simp)
                  ·rw [if_neg c60] at H
                   exact absurd H (by simp)
               ·rw [if_neg c51] at H
                have c51b0 : (((rd_T50 t710 x12_2).f1) == (wrap64 ((wrap64 (x10_2 + ((rdOf ByteArray.empty t720 x12_2).size : Int))) + 1))) = false:=beq_eq_false_iff_ne.mpr c51
                have c51b1 : (((rd_T50 t710 x12_2).f1) != (wrap64 ((wrap64 (x10_2 + ((rdOf ByteArray.empty t720 x12_2).size : Int))) + 1))) = true:=bne_iff_ne.mpr c51
                have H':=am H
                clear H
                have:=NB730_709.out
                have:=NB709_730.out
                have:=NB730_728.out
                have:=NB728_730.out
                have hcz77_0:=bcell BK730 0
                have hcz77_1:=bcell BK730 1
                have hcz77_2:=bcell BK730 2
                have hcz77_3:=bcell BK730 3
                have hcz77_4:=bcell BK730 4
                have hfz77_0:=blk_frozen BK730.out 0
                have hfz77_1:=blk_frozen BK730.out 1
                have hfz77_2:=blk_frozen BK730.out 2
                have hfz77_3:=blk_frozen BK730.out 3
                have hfz77_4:=blk_frozen BK730.out 4
                have p731 : 0 ≤ (x12_2 : Int):=of_decide_eq_true da_
                have q731 : x12_2 < (t720.length : Int):=of_decide_eq_true da_
                obtain ⟨ad731,e731,hx731_0⟩:=Kd.at_string (Kd.R_reads' HO_6.out).2.2 x12_2 p731 q731
                cases e731
                have hn731_0 : ad731.block ≠ gb730:=Kd.own_blk (Kd.R_ne HO_6.out BK730.out (by decide))
                have hn731_1 : ad731.block ≠ gb730:=Kd.own_blk (Kd.R_ne HO_6.out BK730.out (by decide))
                have hn731_2 : ad731.block ≠ gb730:=Kd.own_blk (Kd.R_ne HO_6.out BK730.out (by decide))
                have hn731_3 : ad731.block ≠ gb730:=Kd.own_blk (Kd.R_ne HO_6.out BK730.out (by decide))
                have hn731_4 : ad731.block ≠ gb730:=Kd.own_blk (Kd.R_ne HO_6.out BK730.out (by decide))
                replace hx731_0:=(cell_far (p:=⟨gb730,0,none⟩) (by first | (rw [add_block];exact hn731_0) | (show (Addr.add _ _).block ≠ _;rw [add_block];exact hn731_0) | exact hn731_0) (.int .i64 ((rd_T50 t710 x12_2).f0))).trans hx731_0
                replace hx731_0:=(cell_far (p:=⟨gb730,1,none⟩) (by first | (rw [add_block];exact hn731_1) | (show (Addr.add _ _).block ≠ _;rw [add_block];exact hn731_1) | exact hn731_1) (.int .i64 ((rd_T50 t710 x12_2).f1))).trans hx731_0
                replace hx731_0:=(cell_far (p:=⟨gb730,2,none⟩) (by first | (rw [add_block];exact hn731_2) | (show (Addr.add _ _).block ≠ _;rw [add_block];exact hn731_2) | exact hn731_2) (.int .i64 ((rd_T50 t710 x12_2).f2))).trans hx731_0
                replace hx731_0:=(cell_far (p:=⟨gb730,3,none⟩) (by first | (rw [add_block];exact hn731_3) | (show (Addr.add _ _).block ≠ _;rw [add_block];exact hn731_3) | exact hn731_3) (.int .i64 ((rd_T50 t710 x12_2).f3))).trans hx731_0
                replace hx731_0:=(cell_far (p:=⟨gb730,4,none⟩) (by first | (rw [add_block];exact hn731_4) | (show (Addr.add _ _).block ≠ _;rw [add_block];exact hn731_4) | exact hn731_4) (.bool ((rd_T50 t710 x12_2).f4))).trans hx731_0
                (try have hy731_0:=fun (n_ : Nat)=>(show (((((((w44.drewN n_).setCell ⟨gb730,0,none⟩ (.int .i64 ((rd_T50 t710 x12_2).f0))).setCell ⟨gb730,1,none⟩ (.int .i64 ((rd_T50 t710 x12_2).f1))).setCell ⟨gb730,2,none⟩ (.int .i64 ((rd_T50 t710 x12_2).f2))).setCell ⟨gb730,3,none⟩ (.int .i64 ((rd_T50 t710 x12_2).f3))).setCell ⟨gb730,4,none⟩ (.bool ((rd_T50 t710 x12_2).f4)))).cell? _ = some _ from hx731_0))
                clear hn731_0
                clear hn731_1
                clear hn731_2
                clear hn731_3
                clear hn731_4
                replace p731:=eq_true p731
                replace q731:=eq_true q731
                go_wp2
                repeat (go_quiet (fail);try go_wp2)
                go_meet
                case rel=>exact ⟨_,(true),rs_,H',⟨by have:=HJ7.out;have:=HK2.out;first | omega | exact Nat.le_refl _⟩,⟨by (with_reducible repeat apply ru);exact Kd.R_mono (Kd.R_far (p:=⟨gb730,4,none⟩) (Kd.R_far (p:=⟨gb730,3,none⟩) (Kd.R_far (p:=⟨gb730,2,none⟩) (Kd.R_far (p:=⟨gb730,1,none⟩) (Kd.R_far (p:=⟨gb730,0,none⟩) (Kd.R_mono HO_5.out (fun k_ hk=>(⟨hk,hk.2⟩ : _ ∧ k_ ≠ gb730))) (fun _ hk=>hk.2) (.int .i64 ((rd_T50 t710 x12_2).f0))) (fun _ hk=>hk.2) (.int .i64 ((rd_T50 t710 x12_2).f1))) (fun _ hk=>hk.2) (.int .i64 ((rd_T50 t710 x12_2).f2))) (fun _ hk=>hk.2) (.int .i64 ((rd_T50 t710 x12_2).f3))) (fun _ hk=>hk.2) (.bool ((rd_T50 t710 x12_2).f4))) (fun _ hk=>hk.1.2)⟩,⟨by (with_reducible repeat apply ru);exact Kd.R_mono (Kd.R_far (p:=⟨gb730,4,none⟩) (Kd.R_far (p:=⟨gb730,3,none⟩) (Kd.R_far (p:=⟨gb730,2,none⟩) (Kd.R_far (p:=⟨gb730,1,none⟩) (Kd.R_far (p:=⟨gb730,0,none⟩) (Kd.R_types HO_6.out BK730.out (by decide)) (fun _ hk=>hk.2) (.int .i64 ((rd_T50 t710 x12_2).f0))) (fun _ hk=>hk.2) (.int .i64 ((rd_T50 t710 x12_2).f1))) (fun _ hk=>hk.2) (.int .i64 ((rd_T50 t710 x12_2).f2))) (fun _ hk=>hk.2) (.int .i64 ((rd_T50 t710 x12_2).f3))) (fun _ hk=>hk.2) (.bool ((rd_T50 t710 x12_2).f4))) (fun _ hk=>trivial)⟩,⟨by (with_reducible repeat apply ru);exact Kd.R_mono (Kd.R_far (p:=⟨gb730,4,none⟩) (Kd.R_far (p:=⟨gb730,3,none⟩) (Kd.R_far (p:=⟨gb730,2,none⟩) (Kd.R_far (p:=⟨gb730,1,none⟩) (Kd.R_far (p:=⟨gb730,0,none⟩) (Kd.R_types HO_710000.out BK730.out (by decide)) (fun _ hk=>hk.2) (.int .i64 ((rd_T50 t710 x12_2).f0))) (fun _ hk=>hk.2) (.int .i64 ((rd_T50 t710 x12_2).f1))) (fun _ hk=>hk.2) (.int .i64 ((rd_T50 t710 x12_2).f2))) (fun _ hk=>hk.2) (.int .i64 ((rd_T50 t710 x12_2).f3))) (fun _ hk=>hk.2) (.bool ((rd_T50 t710 x12_2).f4))) (fun _ hk=>hk.1)⟩,⟨by (with_reducible repeat apply ru);exact Kd.R_mono (Kd.R_far (p:=⟨gb730,4,none⟩) (Kd.R_far (p:=⟨gb730,3,none⟩) (Kd.R_far (p:=⟨gb730,2,none⟩) (Kd.R_far (p:=⟨gb730,1,none⟩) (Kd.R_far (p:=⟨gb730,0,none⟩) (Kd.R_types HO_729000.out BK730.out (by decide)) (fun _ hk=>hk.2) (.int .i64 ((rd_T50 t710 x12_2).f0))) (fun _ hk=>hk.2) (.int .i64 ((rd_T50 t710 x12_2).f1))) (fun _ hk=>hk.2) (.int .i64 ((rd_T50 t710 x12_2).f2))) (fun _ hk=>hk.2) (.int .i64 ((rd_T50 t710 x12_2).f3))) (fun _ hk=>hk.2) (.bool ((rd_T50 t710 x12_2).f4))) (fun _ hk=>hk.1)⟩,bf_ BK709,bf_ BK728,⟨by (with_reducible repeat refine bu ?_);refine blk_put (cs:=#[.int .i64 ((rd_T50 t710 x12_2).f0),.int .i64 ((rd_T50 t710 x12_2).f1),.int .i64 ((rd_T50 t710 x12_2).f2),.int .i64 ((rd_T50 t710 x12_2).f3),.bool false]) ?_ 4 _ rfl;(with_reducible repeat refine bu ?_);refine blk_put (cs:=#[.int .i64 ((rd_T50 t710 x12_2).f0),.int .i64 ((rd_T50 t710 x12_2).f1),.int .i64 ((rd_T50 t710 x12_2).f2),.int .i64 0,.bool false]) ?_ 3 _ rfl;(with_reducible repeat refine bu ?_);refine blk_put (cs:=#[.int .i64 ((rd_T50 t710 x12_2).f0),.int .i64 ((rd_T50 t710 x12_2).f1),.int .i64 0,.int .i64 0,.bool false]) ?_ 2 _ rfl;(with_reducible repeat refine bu ?_);refine blk_put (cs:=#[.int .i64 ((rd_T50 t710 x12_2).f0),.int .i64 0,.int .i64 0,.int .i64 0,.bool false]) ?_ 1 _ rfl;(with_reducible repeat refine bu ?_);refine blk_put (cs:=#[.int .i64 0,.int .i64 0,.int .i64 0,.int .i64 0,.bool false]) ?_ 0 _ rfl;(with_reducible repeat refine bu ?_);exact BK730.out⟩,⟨m2_⟩⟩
              ·rw [if_neg c50] at H
               exact absurd H (by simp)
             ·rw [if_neg c49] at H
              have c49b0 : (((rd_T50 t710 x12_2).f2) == x11_2) = false:=beq_eq_false_iff_ne.mpr c49
              have c49b1 : (((rd_T50 t710 x12_2).f2) != x11_2) = true:=bne_iff_ne.mpr c49
              have H':=am H
              clear H
              have:=NB730_709.out
              have:=NB709_730.out
              have:=NB730_728.out
              have:=NB728_730.out
              have hcz80_0:=bcell BK730 0
              have hcz80_1:=bcell BK730 1
              have hcz80_2:=bcell BK730 2
              have hcz80_3:=bcell BK730 3
              have hcz80_4:=bcell BK730 4
              have hfz80_0:=blk_frozen BK730.out 0
              have hfz80_1:=blk_frozen BK730.out 1
              have hfz80_2:=blk_frozen BK730.out 2
              have hfz80_3:=blk_frozen BK730.out 3
              have hfz80_4:=blk_frozen BK730.out 4
              go_wp2
              repeat (go_quiet (fail);try go_wp2)
              go_meet
              case rel=>exact ⟨_,(true),rs_,H',⟨by have:=HJ7.out;have:=HK2.out;first | omega | exact Nat.le_refl _⟩,⟨by (with_reducible repeat apply ru);exact Kd.R_mono (Kd.R_far (p:=⟨gb730,4,none⟩) (Kd.R_far (p:=⟨gb730,3,none⟩) (Kd.R_far (p:=⟨gb730,2,none⟩) (Kd.R_far (p:=⟨gb730,1,none⟩) (Kd.R_far (p:=⟨gb730,0,none⟩) (Kd.R_mono HO_5.out (fun k_ hk=>(⟨hk,hk.2⟩ : _ ∧ k_ ≠ gb730))) (fun _ hk=>hk.2) (.int .i64 ((rd_T50 t710 x12_2).f0))) (fun _ hk=>hk.2) (.int .i64 ((rd_T50 t710 x12_2).f1))) (fun _ hk=>hk.2) (.int .i64 ((rd_T50 t710 x12_2).f2))) (fun _ hk=>hk.2) (.int .i64 ((rd_T50 t710 x12_2).f3))) (fun _ hk=>hk.2) (.bool ((rd_T50 t710 x12_2).f4))) (fun _ hk=>hk.1.2)⟩,⟨by (with_reducible repeat apply ru);exact Kd.R_mono (Kd.R_far (p:=⟨gb730,4,none⟩) (Kd.R_far (p:=⟨gb730,3,none⟩) (Kd.R_far (p:=⟨gb730,2,none⟩) (Kd.R_far (p:=⟨gb730,1,none⟩) (Kd.R_far (p:=⟨gb730,0,none⟩) (Kd.R_types HO_6.out BK730.out (by decide)) (fun _ hk=>hk.2) (.int .i64 ((rd_T50 t710 x12_2).f0))) (fun _ hk=>hk.2) (.int .i64 ((rd_T50 t710 x12_2).f1))) (fun _ hk=>hk.2) (.int .i64 ((rd_T50 t710 x12_2).f2))) (fun _ hk=>hk.2) (.int .i64 ((rd_T50 t710 x12_2).f3))) (fun _ hk=>hk.2) (.bool ((rd_T50 t710 x12_2).f4))) (fun _ hk=>trivial)⟩,⟨by (with_reducible repeat apply ru);exact Kd.R_mono (Kd.R_far (p:=⟨gb730,4,none⟩) (Kd.R_far (p:=⟨gb730,3,none⟩) (Kd.R_far (p:=⟨gb730,2,none⟩) (Kd.R_far (p:=⟨gb730,1,none⟩) (Kd.R_far (p:=⟨gb730,0,none⟩) (Kd.R_types HO_710000.out BK730.out (by decide)) (fun _ hk=>hk.2) (.int .i64 ((rd_T50 t710 x12_2).f0))) (fun _ hk=>hk.2) (.int .i64 ((rd_T50 t710 x12_2).f1))) (fun _ hk=>hk.2) (.int .i64 ((rd_T50 t710 x12_2).f2))) (fun _ hk=>hk.2) (.int .i64 ((rd_T50 t710 x12_2).f3))) (fun _ hk=>hk.2) (.bool ((rd_T50 t710 x12_2).f4))) (fun _ hk=>hk.1)⟩,⟨by (with_reducible repeat apply ru);exact Kd.R_mono (Kd.R_far (p:=⟨gb730,4,none⟩) (Kd.R_far (p:=⟨gb730,3,none⟩) (Kd.R_far (p:=⟨gb730,2,none⟩) (Kd.R_far (p:=⟨gb730,1,none⟩) (Kd.R_far (p:=⟨gb730,0,none⟩) (Kd.R_types HO_729000.out BK730.out (by decide)) (fun _ hk=>hk.2) (.int .i64 ((rd_T50 t710 x12_2).f0))) (fun _ hk=>hk.2) (.int .i64 ((rd_T50 t710 x12_2).f1))) (fun _ hk=>hk.2) (.int .i64 ((rd_T50 t710 x12_2).f2))) (fun _ hk=>hk.2) (.int .i64 ((rd_T50 t710 x12_2).f3))) (fun _ hk=>hk.2) (.bool ((rd_T50 t710 x12_2).f4))) (fun _ hk=>hk.1)⟩,bf_ BK709,bf_ BK728,⟨by (with_reducible repeat refine bu ?_);refine blk_put (cs:=#[.int .i64 ((rd_T50 t710 x12_2).f0),.int .i64 ((rd_T50 t710 x12_2).f1),.int .i64 ((rd_T50 t710 x12_2).f2),.int .i64 ((rd_T50 t710 x12_2).f3),.bool false]) ?_ 4 _ rfl;(with_reducible repeat refine bu ?_);refine blk_put (cs:=#[.int .i64 ((rd_T50 t710 x12_2).f0),.int .i64 ((rd_T50 t710 x12_2).f1),.int .i64 ((rd_T50 t710 x12_2).f2),.int .i64 0,.bool false]) ?_ 3 _ rfl;(with_reducible repeat refine bu ?_);refine blk_put (cs:=#[.int .i64 ((rd_T50 t710 x12_2).f0),.int .i64 ((rd_T50 t710 x12_2).f1),.int .i64 0,.int .i64 0,.bool false]) ?_ 2 _ rfl;(with_reducible repeat refine bu ?_);refine blk_put (cs:=#[.int .i64 ((rd_T50 t710 x12_2).f0),.int .i64 0,.int .i64 0,.int .i64 0,.bool false]) ?_ 1 _ rfl;(with_reducible repeat refine bu ?_);refine blk_put (cs:=#[.int .i64 0,.int .i64 0,.int .i64 0,.int .i64 0,.bool false]) ?_ 0 _ rfl;(with_reducible repeat refine bu ?_);exact BK730.out⟩,⟨m2_⟩⟩
            ·rw [if_neg c48] at H
             have c48b0 : (((rd_T50 t710 x12_2).f0) == x10_2) = false:=beq_eq_false_iff_ne.mpr c48
             have c48b1 : (((rd_T50 t710 x12_2).f0) != x10_2) = true:=bne_iff_ne.mpr c48
             (first | rw [c48b0] | (simp only [i64_w,i32_w];rw [c48b0]) | skip)
             have H':=am H
             clear H
             have:=NB730_709.out
             have:=NB709_730.out
             have:=NB730_728.out
             have:=NB728_730.out
             have hcz83_0:=bcell BK730 0
             have hcz83_1:=bcell BK730 1
             have hcz83_2:=bcell BK730 2
             have hcz83_3:=bcell BK730 3
             have hcz83_4:=bcell BK730 4
             have hfz83_0:=blk_frozen BK730.out 0
             have hfz83_1:=blk_frozen BK730.out 1
             have hfz83_2:=blk_frozen BK730.out 2
             have hfz83_3:=blk_frozen BK730.out 3
             have hfz83_4:=blk_frozen BK730.out 4
             go_wp2
             repeat (go_quiet (fail);try go_wp2)
             go_meet
             case rel=>exact ⟨_,(true),rs_,H',⟨by have:=HJ7.out;have:=HK2.out;first | omega | exact Nat.le_refl _⟩,⟨by (with_reducible repeat apply ru);exact Kd.R_mono (Kd.R_far (p:=⟨gb730,4,none⟩) (Kd.R_far (p:=⟨gb730,3,none⟩) (Kd.R_far (p:=⟨gb730,2,none⟩) (Kd.R_far (p:=⟨gb730,1,none⟩) (Kd.R_far (p:=⟨gb730,0,none⟩) (Kd.R_mono HO_5.out (fun k_ hk=>(⟨hk,hk.2⟩ : _ ∧ k_ ≠ gb730))) (fun _ hk=>hk.2) (.int .i64 ((rd_T50 t710 x12_2).f0))) (fun _ hk=>hk.2) (.int .i64 ((rd_T50 t710 x12_2).f1))) (fun _ hk=>hk.2) (.int .i64 ((rd_T50 t710 x12_2).f2))) (fun _ hk=>hk.2) (.int .i64 ((rd_T50 t710 x12_2).f3))) (fun _ hk=>hk.2) (.bool ((rd_T50 t710 x12_2).f4))) (fun _ hk=>hk.1.2)⟩,⟨by (with_reducible repeat apply ru);exact Kd.R_mono (Kd.R_far (p:=⟨gb730,4,none⟩) (Kd.R_far (p:=⟨gb730,3,none⟩) (Kd.R_far (p:=⟨gb730,2,none⟩) (Kd.R_far (p:=⟨gb730,1,none⟩) (Kd.R_far (p:=⟨gb730,0,none⟩) (Kd.R_types HO_6.out BK730.out (by decide)) (fun _ hk=>hk.2) (.int .i64 ((rd_T50 t710 x12_2).f0))) (fun _ hk=>hk.2) (.int .i64 ((rd_T50 t710 x12_2).f1))) (fun _ hk=>hk.2) (.int .i64 ((rd_T50 t710 x12_2).f2))) (fun _ hk=>hk.2) (.int .i64 ((rd_T50 t710 x12_2).f3))) (fun _ hk=>hk.2) (.bool ((rd_T50 t710 x12_2).f4))) (fun _ hk=>trivial)⟩,⟨by (with_reducible repeat apply ru);exact Kd.R_mono (Kd.R_far (p:=⟨gb730,4,none⟩) (Kd.R_far (p:=⟨gb730,3,none⟩) (Kd.R_far (p:=⟨gb730,2,none⟩) (Kd.R_far (p:=⟨gb730,1,none⟩) (Kd.R_far (p:=⟨gb730,0,none⟩) (Kd.R_types HO_710000.out BK730.out (by decide)) (fun _ hk=>hk.2) (.int .i64 ((rd_T50 t710 x12_2).f0))) (fun _ hk=>hk.2) (.int .i64 ((rd_T50 t710 x12_2).f1))) (fun _ hk=>hk.2) (.int .i64 ((rd_T50 t710 x12_2).f2))) (fun _ hk=>hk.2) (.int .i64 ((rd_T50 t710 x12_2).f3))) (fun _ hk=>hk.2) (.bool ((rd_T50 t710 x12_2).f4))) (fun _ hk=>hk.1)⟩,⟨by (with_reducible repeat apply ru);exact Kd.R_mono (Kd.R_far (p:=⟨gb730,4,none⟩) (Kd.R_far (p:=⟨gb730,3,none⟩) (Kd.R_far (p:=⟨gb730,2,none⟩) (Kd.R_far (p:=⟨gb730,1,none⟩) (Kd.R_far (p:=⟨gb730,0,none⟩) (Kd.R_types HO_729000.out BK730.out (by decide)) (fun _ hk=>hk.2) (.int .i64 ((rd_T50 t710 x12_2).f0))) (fun _ hk=>hk.2) (.int .i64 ((rd_T50 t710 x12_2).f1))) (fun _ hk=>hk.2) (.int .i64 ((rd_T50 t710 x12_2).f2))) (fun _ hk=>hk.2) (.int .i64 ((rd_T50 t710 x12_2).f3))) (fun _ hk=>hk.2) (.bool ((rd_T50 t710 x12_2).f4))) (fun _ hk=>hk.1)⟩,bf_ BK709,bf_ BK728,⟨by (with_reducible repeat refine bu ?_);refine blk_put (cs:=#[.int .i64 ((rd_T50 t710 x12_2).f0),.int .i64 ((rd_T50 t710 x12_2).f1),.int .i64 ((rd_T50 t710 x12_2).f2),.int .i64 ((rd_T50 t710 x12_2).f3),.bool false]) ?_ 4 _ rfl;(with_reducible repeat refine bu ?_);refine blk_put (cs:=#[.int .i64 ((rd_T50 t710 x12_2).f0),.int .i64 ((rd_T50 t710 x12_2).f1),.int .i64 ((rd_T50 t710 x12_2).f2),.int .i64 0,.bool false]) ?_ 3 _ rfl;(with_reducible repeat refine bu ?_);refine blk_put (cs:=#[.int .i64 ((rd_T50 t710 x12_2).f0),.int .i64 ((rd_T50 t710 x12_2).f1),.int .i64 0,.int .i64 0,.bool false]) ?_ 2 _ rfl;(with_reducible repeat refine bu ?_);refine blk_put (cs:=#[.int .i64 ((rd_T50 t710 x12_2).f0),.int .i64 0,.int .i64 0,.int .i64 0,.bool false]) ?_ 1 _ rfl;(with_reducible repeat refine bu ?_);refine blk_put (cs:=#[.int .i64 0,.int .i64 0,.int .i64 0,.int .i64 0,.bool false]) ?_ 0 _ rfl;(with_reducible repeat refine bu ?_);exact BK730.out⟩,⟨m2_⟩⟩
           case rest=>
            clear HC43
            try clear c1
            try clear c2
            try clear c2b0
            try clear c2b1
            try clear p2
            try clear c3
            try clear c4
            try clear c5
            try clear c6
            try clear p6
            try clear q6
            try clear hx6
            try clear c7
            try clear p7
            try clear q7
            try clear hx7
            try clear c8
            try clear c19
            try clear c26
            try clear c27
            try clear c27b0
            try clear c27b1
            try clear c27b2
            try clear c32
            try clear c32b0
            try clear c32b1
            try clear c32b2
            try clear c38
            try clear c41
            try clear c41b0
            try clear c42
            try clear c42b0
            try clear c45
            try clear c46
            try clear c48
            try clear c48b0
            try clear c48b1
            try clear c49
            try clear c49b0
            try clear c49b1
            try clear c50
            try clear c50b0
            try clear c51
            try clear c51b0
            try clear c51b1
            try clear c52
            try clear c52b0
            try clear c53
            try clear c54
            try clear c56
            try clear c56b0
            try clear c57
            try clear c58
            try clear c60
            try clear c60b0
            try clear c60b1
            try clear c61
            try clear c61b0
            try clear c61b1
            try clear c62
            try clear c62b0
            try clear c62b1
            try clear c63
            try clear c63b0
            try clear c63b1
            try clear c63b2
            try clear c64
            try clear c64b0
            try clear c64b1
            try clear p64
            try clear c66
            try clear c66b0
            try clear c67
            try clear c67b0
            try clear p68
            try clear q68
            try clear hx68
            try clear c69
            try clear c70
            try clear c72
            try clear p72
            try clear q72
            try clear hx72
            try clear c73
            try clear p73
            try clear q73
            try clear hx73
            try clear c75
            try clear c76
            try clear c78
            try clear c79
            try clear c81
            try clear c82
            try clear hcz12_0
            try clear hcz14_0
            try clear hcz21_0
            try clear hcz24_0
            try clear hcz34_0
            try clear hcz39_0
            try clear hcz47_0
            try clear hcz47_1
            try clear hcz47_2
            try clear hcz47_3
            try clear hcz47_4
            try clear hcz55_0
            try clear hcz55_1
            try clear hcz55_2
            try clear hcz55_3
            try clear hcz55_4
            try clear hcz59_0
            try clear hcz59_1
            try clear hcz59_2
            try clear hcz59_3
            try clear hcz59_4
            try clear hcz71_0
            try clear hcz71_1
            try clear hcz71_2
            try clear hcz71_3
            try clear hcz71_4
            try clear hcz74_0
            try clear hcz74_1
            try clear hcz74_2
            try clear hcz74_3
            try clear hcz74_4
            try clear hcz77_0
            try clear hcz77_1
            try clear hcz77_2
            try clear hcz77_3
            try clear hcz77_4
            try clear hcz80_0
            try clear hcz80_1
            try clear hcz80_2
            try clear hcz80_3
            try clear hcz80_4
            try clear hcz83_0
            try clear hcz83_1
            try clear hcz83_2
            try clear hcz83_3
            try clear hcz83_4
            try clear hfz12_0
            try clear hfz14_0
            try clear hfz21_0
            try clear hfz24_0
            try clear hfz34_0
            try clear hfz39_0
            try clear hfz47_0
            try clear hfz47_1
            try clear hfz47_2
            try clear hfz47_3
            try clear hfz47_4
            try clear hfz55_0
            try clear hfz55_1
            try clear hfz55_2
            try clear hfz55_3
            try clear hfz55_4
            try clear hfz59_0
            try clear hfz59_1
            try clear hfz59_2
            try clear hfz59_3
            try clear hfz59_4
            try clear hfz71_0
            try clear hfz71_1
            try clear hfz71_2
            try clear hfz71_3
            try clear hfz71_4
            try clear hfz74_0
            try clear hfz74_1
            try clear hfz74_2
            try clear hfz74_3
            try clear hfz74_4
            try clear hfz77_0
            try clear hfz77_1
            try clear hfz77_2
            try clear hfz77_3
            try clear hfz77_4
            try clear hfz80_0
            try clear hfz80_1
            try clear hfz80_2
            try clear hfz80_3
            try clear hfz80_4
            try clear hfz83_0
            try clear hfz83_1
            try clear hfz83_2
            try clear hfz83_3
            try clear hfz83_4
            try clear hx729_0
            try clear hx729_1
            try clear hx729_2
            try clear hx729_3
            try clear hx729_4
            try clear hx731_0
            try clear hx732_0
            try clear p2
            try clear p68
            try clear p729
            try clear p731
            try clear p732
            try clear q68
            try clear q729
            try clear q731
            try clear q732
            obtain ⟨kq,x129_42,rfl,HA,HJ42,HO_5,HO_6,HO_710000,HO_729000,BK709,BK728,BK730,HB⟩:=hcut
            cases kq with
            | zero=>exact absurd HA.out (by simp [laws_FnPosSpans.j2])
            | succ kj42=>
             have H:=HA.out
             clear HA
             simp only [laws_FnPosSpans.j2] at H
             by_cases c84 : x129_42 = true
             ·subst c84
              have H1 : (some false) = some r:=by rw [if_pos rfl] at H;exact H
              clear H
              have H:=H1
              clear H1
              exact absurd ((Option.some.inj H).trans hrt.out) (by decide)
             ·replace c84:=Bool.eq_false_iff.mpr c84
              subst c84
              have H1 : (if 0 ≤ ((rd_T50 t710 x12_2).f2) then (if ((rd_T50 t710 x12_2).f2) ≤ ((rd_T50 t710 x12_2).f3) then (if ((rd_T50 t710 x12_2).f3) ≤ (t727.size : Int) then (if 0 ≤ ((rd_T50 t710 x12_2).f0) then (if ((rd_T50 t710 x12_2).f0) ≤ ((rd_T50 t710 x12_2).f1) then (if ((rd_T50 t710 x12_2).f1) ≤ (t708.size : Int) then (if (((rd_T50 t710 x12_2).f4) != ((t727.extract (((rd_T50 t710 x12_2).f2) : Int).toNat (((rd_T50 t710 x12_2).f3) : Int).toNat).toList == (t708.extract (((rd_T50 t710 x12_2).f0) : Int).toNat (((rd_T50 t710 x12_2).f1) : Int).toNat).toList)) = true then (some false) else (laws_FnPosSpans.l0 kj42 t708 t710 t720 t727 ((rd_T50 t710 x12_2).f1) ((rd_T50 t710 x12_2).f3) (wrap64 (x12_2 + 1)))) else (none)) else (none)) else (none)) else (none)) else (none)) else (none)) = some r:=by rw [if_neg (show ¬ (false = true) by decide)] at H;exact H
              clear H
              have H:=H1
              clear H1
              by_cases c85 : 0 ≤ ((rd_T50 t710 x12_2).f2)
              ·rw [if_pos c85] at H
               have c85b0:=eq_true c85
               have c85b1 : decide (0 ≤ ((rd_T50 t710 x12_2).f2)) = true:=decide_eq_true c85
               clear c85
               by_cases c86 : ((rd_T50 t710 x12_2).f2) ≤ ((rd_T50 t710 x12_2).f3)
               ·rw [if_pos c86] at H
                have c86b0:=eq_true c86
                have c86b1 : decide (((rd_T50 t710 x12_2).f2) ≤ ((rd_T50 t710 x12_2).f3)) = true:=decide_eq_true c86
                clear c86
                by_cases c87 : ((rd_T50 t710 x12_2).f3) ≤ (t727.size : Int)
                ·rw [if_pos c87] at H
                 have c87b0:=eq_true c87
                 have c87b1 : decide (((rd_T50 t710 x12_2).f3) ≤ (t727.size : Int)) = true:=decide_eq_true c87
                 clear c87
                 by_cases c88 : 0 ≤ ((rd_T50 t710 x12_2).f0)
                 ·rw [if_pos c88] at H
                  have c88b0:=eq_true c88
                  have c88b1 : decide (0 ≤ ((rd_T50 t710 x12_2).f0)) = true:=decide_eq_true c88
                  clear c88
                  by_cases c89 : ((rd_T50 t710 x12_2).f0) ≤ ((rd_T50 t710 x12_2).f1)
                  ·rw [if_pos c89] at H
                   have c89b0:=eq_true c89
                   have c89b1 : decide (((rd_T50 t710 x12_2).f0) ≤ ((rd_T50 t710 x12_2).f1)) = true:=decide_eq_true c89
                   clear c89
                   by_cases c90 : ((rd_T50 t710 x12_2).f1) ≤ (t708.size : Int)
                   ·rw [if_pos c90] at H
                    have c90b0:=eq_true c90
                    have c90b1 : decide (((rd_T50 t710 x12_2).f1) ≤ (t708.size : Int)) = true:=decide_eq_true c90
                    clear c90
                    by_cases c91 : (((rd_T50 t710 x12_2).f4) != ((t727.extract (((rd_T50 t710 x12_2).f2) : Int).toNat (((rd_T50 t710 x12_2).f3) : Int).toNat).toList == (t708.extract (((rd_T50 t710 x12_2).f0) : Int).toNat (((rd_T50 t710 x12_2).f1) : Int).toNat).toList)) = true
                    ·rw [if_pos c91] at H
                     have c91b0 : (((rd_T50 t710 x12_2).f4) != ((t727.extract (((rd_T50 t710 x12_2).f2) : Int).toNat (((rd_T50 t710 x12_2).f3) : Int).toNat).toList == (t708.extract (((rd_T50 t710 x12_2).f0) : Int).toNat (((rd_T50 t710 x12_2).f1) : Int).toNat).toList)) = true:=c91
                     (try (have c91b1 : decide (((rd_T50 t710 x12_2).f4) = ((t727.extract (((rd_T50 t710 x12_2).f2) : Int).toNat (((rd_T50 t710 x12_2).f3) : Int).toNat).toList == (t708.extract (((rd_T50 t710 x12_2).f0) : Int).toNat (((rd_T50 t710 x12_2).f1) : Int).toNat).toList)) = false:=by simpa using c91))
                     (try (have c91b2 : (((rd_T50 t710 x12_2).f4) == ((t727.extract (((rd_T50 t710 x12_2).f2) : Int).toNat (((rd_T50 t710 x12_2).f3) : Int).toNat).toList == (t708.extract (((rd_T50 t710 x12_2).f0) : Int).toNat (((rd_T50 t710 x12_2).f1) : Int).toNat).toList)) = false:=by simpa using c91))
                     (try (have c91b3 : ¬ (((rd_T50 t710 x12_2).f4) = ((t727.extract (((rd_T50 t710 x12_2).f2) : Int).toNat (((rd_T50 t710 x12_2).f3) : Int).toNat).toList == (t708.extract (((rd_T50 t710 x12_2).f0) : Int).toNat (((rd_T50 t710 x12_2).f1) : Int).toNat).toList)):=by simpa using c91))
                     clear c91
                     exact absurd ((Option.some.inj H).trans hrt.out) (by decide)
                    ·rw [if_neg c91] at H
                     have c91b0 : (((rd_T50 t710 x12_2).f4) != ((t727.extract (((rd_T50 t710 x12_2).f2) : Int).toNat (((rd_T50 t710 x12_2).f3) : Int).toNat).toList == (t708.extract (((rd_T50 t710 x12_2).f0) : Int).toNat (((rd_T50 t710 x12_2).f1) : Int).toNat).toList)) = false:=by simpa using c91
                     (try (have c91b1 : decide (((rd_T50 t710 x12_2).f4) = ((t727.extract (((rd_T50 t710 x12_2).f2) : Int).toNat (((rd_T50 t710 x12_2).f3) : Int).toNat).toList == (t708.extract (((rd_T50 t710 x12_2).f0) : Int).toNat (((rd_T50 t710 x12_2).f1) : Int).toNat).toList)) = true:=by simpa using c91))
                     (try (have c91b2 : (((rd_T50 t710 x12_2).f4) == ((t727.extract (((rd_T50 t710 x12_2).f2) : Int).toNat (((rd_T50 t710 x12_2).f3) : Int).toNat).toList == (t708.extract (((rd_T50 t710 x12_2).f0) : Int).toNat (((rd_T50 t710 x12_2).f1) : Int).toNat).toList)) = true:=by simpa using c91))
                     clear c91
                     have H':=am H
                     clear H
                     have:=NB730_709.out
                     have:=NB709_730.out
                     have:=NB730_728.out
                     have:=NB728_730.out
                     have:=bcell BK730 0
                     have:=bcell BK730 1
                     have:=bcell BK730 2
                     have:=bcell BK730 3
                     have:=bcell BK730 4
                     have:=bfz BK730 0
                     have:=bfz BK730 1
                     have:=bfz BK730 2
                     have:=bfz BK730 3
                     have:=bfz BK730 4
                     go_wp2
                     repeat (go_quiet (fail);try go_wp2)
                     go_roundg kj42
                     case measure=>have:=HJ7.out;have:=HK2.out;have:=HJ42.out;omega
                     case rel=>exact ⟨(((rd_T50 t710 x12_2).f1)),(((rd_T50 t710 x12_2).f3)),(wrap64 (x12_2 + 1)),rs_,rs_,rs_,H',⟨by have:=HJ7.out;have:=HK2.out;have:=HJ42.out;omega⟩,⟨by (with_reducible repeat apply ru);exact Kd.R_mono HO_5.out (fun _ hk=>trivial)⟩,⟨by (with_reducible repeat apply ru);exact HO_6.out⟩,⟨by (with_reducible repeat apply ru);exact HO_710000.out⟩,⟨by (with_reducible repeat apply ru);exact HO_729000.out⟩,⟨bk BK709⟩,⟨bk BK728⟩,⟨m2_⟩⟩
                   ·rw [if_neg c90] at H
                    exact absurd H (by simp)
                  ·rw [if_neg c89] at H
                   exact absurd H (by simp)
                 ·rw [if_neg c88] at H
                  exact absurd H (by simp)
                ·rw [if_neg c87] at H
                 exact absurd H (by simp)
               ·rw [if_neg c86] at H
                exact absurd H (by simp)
              ·rw [if_neg c85] at H
               exact absurd H (by simp)
          ·rw [if_neg c42] at H
           exact absurd H (by simp)
         ·rw [if_neg c41] at H
          have c41b0 : decide (x12_2 < (t710.length : Int)) = false:=decide_eq_false c41
          clear c41
          obtain rfl:=Option.some.inj H
          go_wp2
          repeat (go_quiet (fail);try go_wp2)
          go_ret
          exact ⟨fi_,m2_⟩
      ·rw [if_neg c32] at H
       have c32b0 : ((t710.length : Int) == (t720.length : Int)) = false:=beq_eq_false_iff_ne.mpr c32
       have c32b1 : ((t710.length : Int) != (t720.length : Int)) = true:=bne_iff_ne.mpr c32
       have c32b2 : (t710.length == t720.length) = false:=by first | simpa using c32 | (simp at c32 ⊢;omega)
       exact absurd ((Option.some.inj H).trans hrt.out) (by decide)
  ·replace c7:=Bool.eq_false_iff.mpr c7
   subst c7
   have H1 : (some false) = some r:=by rw [if_neg (show ¬ (false = true) by decide)] at H;exact H
   clear H
   have H:=H1
   clear H1
   exact absurd ((Option.some.inj H).trans hrt.out) (by decide)
def laws_FnPosSpans.Pure : Prop:=∀ (l0 : List Int),l0.length ≤ maxLen → l0.length * 1 ≤ 140737488351232 → (∀ x ∈ l0,(Lit.int .u8 x).wf = true) → ∃ k,laws_FnPosSpans.f k l0 = some true
theorem laws_FnPosSpans.walk (P : laws_FnPosSpans.Pure) (a0 : Option Addr) (len0 cap0 : Nat) (z0 : List Int) (w : World) (w0 : (a0 = none ∧ len0 = 0 ∧ cap0 = 0 ∧ z0 = []) ∨ ∃ x,a0 = some x ∧ len0 ≤ cap0 ∧ cap0 ≤ maxLen ∧ z0.length = cap0 ∧ (∀ i,i < z0.length → w.cell? (x.add i) = some (.int .u8 (z0.getD i 0))) ∧ ∀ n ∈ z0,(Lit.int .u8 n).wf = true) (y0 : len0 * 1 ≤ 140737488351232) (hE : EnvE w) :
  Calls Tryz.prog 6 #[.slice a0 len0 cap0] w fun e w'=>e = .returned (.bool true) ∧ Below w.heap.size w w':=by
 obtain ⟨l0,rfl,hr0,hm0,hw0,hc0⟩:=ReadsInt.ofRowC w0
 obtain ⟨k,h⟩:=P l0 hm0 y0 hw0
 refine (laws_FnPosSpans.calls k _ _ l0 true w (Kd.C_of_reads (d:=(0 : Int)) (h1:=fun _=>rfl) hr0) hc0 h ⟨rfl⟩ hE).mono ?_
 rintro e w' ⟨rfl,hd⟩
 exact ⟨rfl,hd⟩
def spec_l3Line.f (k : Nat) (l0_0 : List (S55)) (a1 : ByteArray) : Option ((List (S55)) × ByteArray):=(spec_LinSays.f k a1).bind fun bt199=>(if bt199.2.2 = true then ((spec_l3Put.f k l0_0 bt199.1 bt199.2.1).bind fun bt203=>(if bt203.2 = 0 then (some (bt203.1,(⟨#[110,111,110,101]⟩ : ByteArray))) else ((spec_LinPort.f k 50 bt203.2).bind fun t208=>(some (bt203.1,t208))))) else (some (l0_0,a1)))
def spec_l3Stream.l0 : Nat → List ByteArray → ByteArray → Int → List (S55) → Option ((List (S55)) × ByteArray)
 | 0,_,_,_,_=>none
 | k + 1,x6,x8,x9,x210000=>if x9 < (x6.length : Int) then (if 0 ≤ x9 then ((spec_l3Line.f k x210000 (rdOf ByteArray.empty x6 x9)).bind fun bt216=>(if x8.size + bt216.2.size ≤ 9223372036854775807 then (if (x8 ++ bt216.2).size + 1 ≤ 9223372036854775807 then (spec_l3Stream.l0 k x6 ((x8 ++ bt216.2) ++ (⟨#[59]⟩ : ByteArray)) (wrap64 (x9 + 1)) bt216.1) else (none)) else (none))) else (none)) else (some (x210000,x8))
def spec_l3Stream.f (k : Nat) (l0_0 : List (S55)) (a1 : ByteArray) : Option ((List (S55)) × ByteArray):=(spec_StrLines.f k a1).bind fun bt211=>(spec_l3Stream.l0 k bt211.1 (⟨#[]⟩ : ByteArray) 0 l0_0)
end
theorem i64_xor_nat (a b : Nat) (ha : a < 2 ^ 62) (hb : b < 2 ^ 62) : Go.bits .xor .i64 (a : Int) (b : Int) = ((a ^^^ b : Nat) : Int):=by
  have hx : a ^^^ b < 2 ^ 62:=Nat.xor_lt_two_pow ha hb
  show IntKind.i64.wrap ((BitVec.ofInt 64 (a : Int) ^^^ BitVec.ofInt 64 (b : Int)).toNat : Int) = _
  have e : ∀ n : Nat,n < 2 ^ 62 → (BitVec.ofInt 64 (n : Int)).toNat = n:=by
    intro n hn
    rw [BitVec.ofInt_natCast,BitVec.toNat_ofNat];exact Nat.mod_eq_of_lt (by omega)
  rw [BitVec.toNat_xor,e a ha,e b hb]
  rw [i64_w];unfold wrap64;omega
theorem i64_xor_nonneg (a b : Int) (h1 : 0 ≤ a) (h2 : a < 2 ^ 62) (h3 : 0 ≤ b) (h4 : b < 2 ^ 62) : 0 ≤ Go.bits .xor .i64 a b:=by
  obtain ⟨A,rfl⟩:=Int.eq_ofNat_of_zero_le h1
  obtain ⟨B,rfl⟩:=Int.eq_ofNat_of_zero_le h3
  rw [i64_xor_nat A B (by omega) (by omega)]
  omega
theorem w64 (n : Int) (h : -9223372036854775808 ≤ n ∧ n ≤ 9223372036854775807) : wrap64 n = n:=by unfold wrap64;omega
def Bys (l : List Int) : Prop:=∀ x ∈ l,0 ≤ x ∧ x ≤ 255
theorem rd_bys {l : List Int} (h : Bys l) (i : Int) : 0 ≤ rd l i ∧ rd l i ≤ 255:=by
  unfold rd
  by_cases hi : i.toNat < l.length
  · have e : l.getD i.toNat 0 = l[i.toNat]:=by simp [List.getD,hi]
    rw [e];exact h _ (List.getElem_mem hi)
  · have e : l.getD i.toNat 0 = 0:=by simp [List.getD,Nat.not_lt.mp hi]
    rw [e];omega
theorem tmod_in {a n : Int} (ha : 0 ≤ a) (hn : 1 ≤ n) : 0 ≤ Int.tmod a n ∧ Int.tmod a n < n:=by
  rw [Int.tmod_eq_emod_of_nonneg ha]
  exact ⟨Int.emod_nonneg _ (by omega),Int.emod_lt_of_pos _ (by omega)⟩
theorem tdiv_in {a n : Int} (ha : 0 ≤ a) (hn : 1 ≤ n) : 0 ≤ Int.tdiv a n ∧ Int.tdiv a n ≤ a:=by
  rw [Int.tdiv_eq_ediv_of_nonneg ha]
  exact ⟨Int.ediv_nonneg ha (by omega),Int.ediv_le_self _ ha⟩
theorem pick_f {l : List Int} (hl : Bys l) (s n : Int) (k : Nat) (hs : 0 ≤ s) (hs' : s < 1000000) : ∃ v,spec_l20Rd_pick.f (k + 1) l s n = some (v,s + 1) ∧ 0 ≤ v ∧ (v < n ∨ v = 0):=by
  unfold spec_l20Rd_pick.f spec_l20Rd_pick.j0
  dsimp only
  have e1 : wrap64 (s + 1) = s + 1:=w64 _ (by omega)
  have e2 : wrap64 (s + 1 - 1) = s:=by rw [show s + 1 - 1 = s by omega];exact w64 _ (by omega)
  by_cases c : n < 1
  · exact ⟨0,by simp [c,e1],by omega,.inr rfl⟩
  · rw [if_neg c,e1]
    simp only [e2]
    by_cases c0 : (l.length : Int) = 0
    · exact ⟨0,by simp [c0],by omega,.inr rfl⟩
    · have cb : ¬ (((l.length : Int) == 0) = true):=by simpa using c0
      have cn : ¬ (n = 0):=by omega
      rw [if_neg cb]
      by_cases c1 : s < (l.length : Int)
      · have hb:=rd_bys hl s
        have hm:=tmod_in hb.1 (show 1 ≤ n by omega)
        refine ⟨_,by rw [if_pos c1,if_pos hs,if_neg cn,w64 (rd l s) (by omega)],hm.1,.inl hm.2⟩
      · have hL : 1 ≤ (l.length : Int):=by omega
        have m1:=tmod_in hs hL
        have f1 : wrap64 (s * 7) = s * 7:=w64 _ (by omega)
        have f2 : wrap64 (s * 7 + 3) = s * 7 + 3:=w64 _ (by omega)
        have m2:=tmod_in (show 0 ≤ s * 7 + 3 by omega) hL
        rw [if_neg c1,if_neg c0,if_pos m1.1,if_pos m1.2]
        simp only [f1,f2]
        rw [if_pos m2.1,if_pos m2.2,if_neg cn]
        have r1:=rd_bys hl (Int.tmod s (l.length : Int))
        have r2:=rd_bys hl (Int.tmod (s * 7 + 3) (l.length : Int))
        have d1:=tdiv_in hs hL
        generalize rd l (Int.tmod s (l.length : Int)) = u1 at *
        generalize rd l (Int.tmod (s * 7 + 3) (l.length : Int)) = u2 at *
        generalize Int.tdiv s (l.length : Int) = u3 at *
        have g1 : wrap64 u1 = u1:=w64 _ (by omega)
        have g2 : wrap64 u2 = u2:=w64 _ (by omega)
        have g3 : wrap64 u3 = u3:=w64 _ (by omega)
        have g4 : wrap64 (u1 * 131) = u1 * 131:=w64 _ (by omega)
        have g5 : wrap64 (u2 * 1117) = u2 * 1117:=w64 _ (by omega)
        have g6 : wrap64 (s * 29) = s * 29:=w64 _ (by omega)
        have g7 : wrap64 (u3 * 53) = u3 * 53:=w64 _ (by omega)
        simp only [g1,g2,g3,g4,g5,g6,g7]
        have g8 : wrap64 (u1 * 131 + u2 * 1117) = u1 * 131 + u2 * 1117:=w64 _ (by omega)
        rw [g8]
        have g9 : wrap64 (u1 * 131 + u2 * 1117 + s * 29) = u1 * 131 + u2 * 1117 + s * 29:=w64 _ (by omega)
        rw [g9]
        have g10 : wrap64 (u1 * 131 + u2 * 1117 + s * 29 + u3 * 53) = u1 * 131 + u2 * 1117 + s * 29 + u3 * 53:=w64 _ (by omega)
        rw [g10]
        have hX0 : 0 ≤ u1 * 131 + u2 * 1117 + s * 29 + u3 * 53:=by omega
        have hX1 : u1 * 131 + u2 * 1117 + s * 29 + u3 * 53 < 1000000000:=by omega
        generalize u1 * 131 + u2 * 1117 + s * 29 + u3 * 53 = X at *
        have d2:=tdiv_in hX0 (show (1:Int) ≤ 64 by omega)
        have g11 : wrap64 (Int.tdiv X 64) = Int.tdiv X 64:=w64 _ (by omega)
        rw [g11]
        have hz:=i64_xor_nonneg X (Int.tdiv X 64) hX0 (by omega) d2.1 (by omega)
        have hm:=tmod_in hz (show 1 ≤ n by omega)
        exact ⟨_,rfl,hm.1,.inl hm.2⟩
theorem open_f (l : List Int) (hl : Bys l) : ∃ l',spec_l20Open.f l = some (l',0) ∧ Bys l':=by
  unfold spec_l20Open.f
  by_cases c : (l.length : Int) > 2000
  · exact ⟨l.take 2000,by rw [if_pos c,if_pos (by omega)],fun x h=>hl x (List.mem_of_mem_take h)⟩
  · exact ⟨l,by rw [if_neg c],hl⟩
def Sm (n : Int) : Prop:=-10 ≤ n ∧ n ≤ 1200
end Go.Proofs.YtakfmcpjnkagmaaGreatDoor.P
namespace Go.Proofs.YtakfmcpjnkagmaaGreatDoor.P
open Go.RowKit Go.Proofs.YtakfmcpjnkagmaaGreatDoorUPoSp.PrintWords Go.Proofs.YtakfmcpjnkagmaaGreatDoorUPoSp.PrintLast Go.Proofs.YtakfmcpjnkagmaaGreatDoorUPoSp.PrintMore
set_option linter.unusedVariables false
set_option linter.unusedSimpArgs false
def Ans {α : Type} (f : Nat → Option α) (P : α → Prop) : Prop:=∃ K v,P v ∧ ∀ k,K ≤ k → f k = some v
namespace Ans
variable {α β : Type} {f g : Nat → Option α} {P Q : α → Prop}
theorem of {v : α} (h : ∀ k,f k = some v) (p : P v) : Ans f P:=⟨0,v,p,fun k _=>h k⟩
theorem pure {v : α} (p : P v) : Ans (fun _=>some v) P:=⟨0,v,p,fun k _=>rfl⟩
theorem mono (h : Ans f P) (hq : ∀ v,P v → Q v) : Ans f Q:=by obtain ⟨K,v,p,e⟩:=h;exact ⟨K,v,hq v p,e⟩
theorem succ (h : Ans (fun k=>f (k + 1)) P) : Ans f P:=by
  obtain ⟨K,v,p,e⟩:=h
  refine ⟨K + 1,v,p,fun k hk=>?_⟩
  obtain ⟨k',rfl⟩ : ∃ k',k = k' + 1:=⟨k - 1,by omega⟩
  exact e k' (by omega)
theorem bind {a : Nat → Option β} {R : β → Prop} {b : Nat → β → Option α} (h : Ans a R) (hb : ∀ v,R v → Ans (fun k=>b k v) P) : Ans (fun k=>(a k).bind (b k)) P:=by
  obtain ⟨K,v,p,e⟩:=h
  obtain ⟨K',u,q,e'⟩:=hb v p
  exact ⟨max K K',u,q,fun k hk=>by show (a k).bind (b k) = some u;rw [e k (by omega)];exact e' k (by omega)⟩
theorem bsome {v : β} {b : Nat → β → Option α} (h : Ans (fun k=>b k v) P) : Ans (fun k=>(some v).bind (b k)) P:=h
theorem congr (h : Ans g P) (e : ∀ k,f k = g k) : Ans f P:=by obtain ⟨K,v,p,e'⟩:=h;exact ⟨K,v,p,fun k hk=>(e k).trans (e' k hk)⟩
theorem got (h : Ans f P) : ∃ k v,P v ∧ f k = some v:=by obtain ⟨K,v,p,e⟩:=h;exact ⟨K,v,p,e K (Nat.le_refl _)⟩
theorem pos {c : Prop} [Decidable c] (h : c) (ht : Ans f P) : Ans (fun k=>if c then f k else g k) P:=congr ht (fun k=>if_pos h)
theorem neg {c : Prop} [Decidable c] (h : ¬ c) (ht : Ans g P) : Ans (fun k=>if c then f k else g k) P:=congr ht (fun k=>if_neg h)
theorem ite {c : Prop} [Decidable c] (ht : c → Ans f P) (he : ¬ c → Ans g P) : Ans (fun k=>if c then f k else g k) P:=by
  by_cases h : c
  · exact pos h (ht h)
  · exact neg h (he h)
end Ans
def At (n s : Int) : Prop:=0 ≤ s ∧ s ≤ n
theorem pick_a {l : List Int} (hl : Bys l) {s B : Int} (hs : At B s) (hB : B < 900000) (n : Int) : Ans (fun k=>spec_l20Rd_pick.f k l s n) (fun r=>At (B + 1) r.2 ∧ 0 ≤ r.1 ∧ (r.1 < n ∨ r.1 = 0)):=by
  obtain ⟨h0,h1⟩:=hs
  refine Ans.succ ?_
  obtain ⟨v,h,p⟩:=pick_f hl s n 0 h0 (by omega)
  refine Ans.of (v:=(v,s + 1)) (fun k=>?_) ⟨⟨by omega,by first | omega | (dsimp only;omega)⟩,p⟩
  obtain ⟨v',h',_⟩:=pick_f hl s n k h0 (by omega)
  have e : spec_l20Rd_pick.f (k + 1) l s n = spec_l20Rd_pick.f (0 + 1) l s n:=by
    unfold spec_l20Rd_pick.f spec_l20Rd_pick.j0
    rfl
  rw [e,h]
theorem odd_a {l : List Int} (hl : Bys l) {s B : Int} (hs : At B s) (hB : B < 900000) (n : Int) : Ans (fun k=>spec_l20Rd_odd.f k l s n) (fun r=>At (B + 1) r.2):=by
  unfold spec_l20Rd_odd.f
  refine Ans.ite (fun _=>?_) (fun _=>Ans.pure ⟨hs.1,by have:=hs.2;dsimp only;omega⟩)
  refine Ans.bind (pick_a hl hs hB n) ?_
  rintro ⟨v,s'⟩ ⟨h,_⟩
  exact Ans.pure h
theorem at_le {B B' s : Int} (h : At B s) (hb : B ≤ B') : At B' s:=⟨h.1,by have:=h.2;omega⟩
theorem sm_rd {xs : List Int} (h : ∀ x ∈ xs,Sm x) (i : Int) : Sm (rd xs i):=by
  unfold rd
  by_cases hi : i.toNat < xs.length
  · have e : xs.getD i.toNat 0 = xs[i.toNat]:=by simp [List.getD,hi]
    rw [e];exact h _ (List.getElem_mem hi)
  · have e : xs.getD i.toNat 0 = 0:=by simp [List.getD,Nat.not_lt.mp hi]
    rw [e];unfold Sm;omega
end Go.Proofs.YtakfmcpjnkagmaaGreatDoor.P
namespace Go.Proofs.YtakfmcpjnkagmaaGreatDoor.P
open Go.Proofs.YtakfmcpjnkagmaaGreatDoorUPoSp.PrintLast Go.Proofs.YtakfmcpjnkagmaaGreatDoorUPoSp.PrintMore Go.Proofs.YtakfmcpjnkagmaaGreatDoorUPoSp.PrintWords Go.RowKit
set_option linter.unusedVariables false
set_option linter.unusedSimpArgs false
theorem bys_of {l : List Int} (hw : ∀ x ∈ l,(Lit.int .u8 x).wf = true) : Bys l:=fun x hx=>by
  have:=hw x hx
  simp [Lit.wf,IntKind.min,IntKind.max,IntKind.signed,IntKind.bits] at this
  omega
theorem l1In_f (n lo hi : Int) : spec_l1In.f n lo hi = some (inB n lo hi):=by
  unfold spec_l1In.f inB
  by_cases h : lo ≤ n <;> simp [h]
theorem haOk_f : laws_haOk.f = some true:=by
  unfold laws_haOk.f impl_LinOk.f
  rfl
theorem wi (i : Nat) (h : i ≤ 100000000) : wrap64 ((i : Int) + 1) = ((i + 1 : Nat) : Int):=by rw [w64 _ (by omega)];push_cast;rfl
theorem specEndInside_f (a p : Int) : spec_EndInside.f a p = some (endIn a p):=by
  unfold spec_EndInside.f endIn
  simp only [l1In_f,Option.bind_some]
  cases inB a 1 9 <;> simp
theorem specEndOutside_f (a p : Int) : spec_EndOutside.f a p = some (endOut a p):=by
  unfold spec_EndOutside.f endOut
  simp only [l1In_f,Option.bind_some]
  cases inB a 100 109 <;> simp
theorem fnd_nil (a b : Int) : fnd [] a b = none:=rfl
theorem fnd_cons (x : S55) (r : List S55) (a b : Int) : fnd (x :: r) a b = if x.f0 = a ∧ x.f1 = b then some 0 else (fnd r a b).map (· + 1):=by
  unfold fnd
  rw [List.findIdx?_cons]
  by_cases h : x.f0 = a ∧ x.f1 = b
  · simp [h]
  · rw [if_neg h]
    have : (x.f0 == a && x.f1 == b) = false:=by
      rw [Bool.eq_false_iff]
      simpa using h
    simp [this]
theorem fnd_lt {l : List S55} {a b : Int} {i : Nat} (h : fnd l a b = some i) : i < l.length ∧ ∀ hi : i < l.length,l[i].f0 = a ∧ l[i].f1 = b:=by
  unfold fnd at h
  rw [List.findIdx?_eq_some_iff_getElem] at h
  obtain ⟨h1,h2,_⟩:=h
  exact ⟨h1,fun _=>by simpa using h2⟩
theorem fnd_app (l r : List S55) (a b : Int) : fnd (l ++ r) a b = (match fnd l a b with | some i=>some i | none=>(fnd r a b).map (· + l.length)):=by
  unfold fnd
  rw [List.findIdx?_append]
  cases l.findIdx? (fun x=>x.f0 == a && x.f1 == b) <;> simp
def sign (o : Option Nat) : Int:=match o with | none=>-1 | some i=>(i : Int)
theorem rd29_take {l : List S55} {i : Nat} (h : i < l.length) : l.take (i + 1) = l.take i ++ [rd_T55 l (i : Int)]:=by
  rw [rd29_get h]
  exact List.take_succ_eq_append_getElem h
theorem l3Find_a (l : List S55) (hl : l.length ≤ 2000000) (a b : Int) : Ans (fun k=>spec_l3Find.f k l a b) (fun r=>r = sign (fnd l a b)):=by
  have L : ∀ (m i : Nat),i + m = l.length → fnd (l.take i) a b = none → Ans (fun k=>spec_l3Find.l0 k (i : Int) l a b) (fun r=>r = sign (fnd l a b)):=by
    intro m
    induction m with
    | zero=>
      intro i hi hn
      refine Ans.succ ?_
      unfold spec_l3Find.l0
      rw [List.take_of_length_le (by omega)] at hn
      exact Ans.neg (by omega) (Ans.pure (by rw [hn];rfl))
    | succ m ih=>
      intro i hi hn
      refine Ans.succ ?_
      unfold spec_l3Find.l0
      refine Ans.pos (by omega) (Ans.pos (by omega) ?_)
      have ht : fnd (l.take (i + 1)) a b = if (rd_T55 l (i : Int)).f0 = a ∧ (rd_T55 l (i : Int)).f1 = b then some i else none:=by
        rw [rd29_take (by omega : i < l.length),fnd_app,hn,fnd_cons]
        have : (l.take i).length = i:=by rw [List.length_take];omega
        dsimp only
        by_cases hc : (rd_T55 l (i : Int)).f0 = a ∧ (rd_T55 l (i : Int)).f1 = b <;> simp [hc,this,fnd_nil]
      refine Ans.ite (fun c=>Ans.pure ?_) (fun c=>?_)
      · have c' : (rd_T55 l (i : Int)).f0 = a ∧ (rd_T55 l (i : Int)).f1 = b:=by simpa using c
        rw [if_pos c'] at ht
        have:=List.take_append_drop (i + 1) l
        rw [← this,fnd_app,ht]
        rfl
      · have c' : ¬ ((rd_T55 l (i : Int)).f0 = a ∧ (rd_T55 l (i : Int)).f1 = b):=by simpa using c
        rw [if_neg c'] at ht
        rw [wi i (by omega)]
        exact ih (i + 1) (by omega) ht
  exact L l.length 0 (by omega) rfl
theorem contains_a (l : List S55) (hl : l.length ≤ 2000000) (a b : Int) : Ans (fun k=>impl_EndPoint_81.f k l a b) (fun r=>r = (fnd l a b).isSome):=by
  unfold impl_EndPoint_81.f impl_EndPoint_101.f
  have L : ∀ (m i : Nat),i + m = l.length → fnd (l.take i) a b = none → Ans (fun k=>impl_EndPoint_101.l0 k l (l.length : Int) (i : Int) a b) (fun r=>r = sign (fnd l a b)):=by
    intro m
    induction m with
    | zero=>
      intro i hi hn
      refine Ans.succ ?_
      unfold impl_EndPoint_101.l0
      rw [List.take_of_length_le (by omega)] at hn
      exact Ans.neg (by omega) (Ans.pure (by rw [hn];rfl))
    | succ m ih=>
      intro i hi hn
      refine Ans.succ ?_
      unfold impl_EndPoint_101.l0
      refine Ans.pos (by omega) (Ans.pos (by omega) (Ans.pos (by omega) ?_))
      have ht : fnd (l.take (i + 1)) a b = if (rd_T55 l (i : Int)).f0 = a ∧ (rd_T55 l (i : Int)).f1 = b then some i else none:=by
        rw [rd29_take (by omega : i < l.length),fnd_app,hn,fnd_cons]
        have : (l.take i).length = i:=by rw [List.length_take];omega
        dsimp only
        by_cases hc : (rd_T55 l (i : Int)).f0 = a ∧ (rd_T55 l (i : Int)).f1 = b <;> simp [hc,this,fnd_nil]
      refine Ans.ite (fun c=>Ans.pure ?_) (fun c=>?_)
      · have c' : (rd_T55 l (i : Int)).f0 = a ∧ (rd_T55 l (i : Int)).f1 = b:=by
          simp only [Bool.and_eq_true,beq_iff_eq] at c
          exact ⟨c.1.symm,c.2.symm⟩
        rw [if_pos c'] at ht
        have:=List.take_append_drop (i + 1) l
        rw [← this,fnd_app,ht]
        rfl
      · have c' : ¬ ((rd_T55 l (i : Int)).f0 = a ∧ (rd_T55 l (i : Int)).f1 = b):=by
          rintro ⟨h1,h2⟩
          exact c (by rw [h1,h2];simp)
        rw [if_neg c'] at ht
        rw [wi i (by omega)]
        exact ih (i + 1) (by omega) ht
  refine Ans.bind (L l.length 0 (by omega) rfl) ?_
  rintro _ rfl
  refine Ans.pure ?_
  cases fnd l a b with
  | none=>rfl
  | some i=>simp [sign]
def goodFrom (l : List S55) (i : Nat) : Bool:=(List.range' i (l.length - i)).all fun j=>endIn (rd_T55 l (j : Int)).f0 (rd_T55 l (j : Int)).f1 && !(fnd (l.take j) (rd_T55 l (j : Int)).f0 (rd_T55 l (j : Int)).f1).isSome
def okT (l : List S55) : Bool:=decide ((l.length : Int) ≤ 6) && goodFrom l 0
theorem good_end {l : List S55} {i : Nat} (h : l.length ≤ i) : goodFrom l i = true:=by
  unfold goodFrom
  rw [Nat.sub_eq_zero_of_le h]
  rfl
theorem good_step {l : List S55} {i : Nat} (h : i < l.length) : goodFrom l i = (endIn (rd_T55 l (i : Int)).f0 (rd_T55 l (i : Int)).f1 && !(fnd (l.take i) (rd_T55 l (i : Int)).f0 (rd_T55 l (i : Int)).f1).isSome && goodFrom l (i + 1)):=by
  unfold goodFrom
  obtain ⟨d,hd⟩ : ∃ d,l.length - i = d + 1:=⟨l.length - i - 1,by omega⟩
  have hd' : l.length - (i + 1) = d:=by omega
  rw [hd,hd',List.range'_succ,List.all_cons]
theorem specMapOk_a (l : List S55) (hl : l.length ≤ 2000000) : Ans (fun k=>spec_MapOk.f k l) (fun r=>r = okT l):=by
  unfold spec_MapOk.f okT
  refine Ans.ite (fun c=>Ans.pure ?_) (fun c=>?_)
  · have : ¬ ((l.length : Int) ≤ 6):=by omega
    simp [this]
  · have e : decide ((l.length : Int) ≤ 6) = true:=by simp;omega
    rw [e]
    have L : ∀ (m i : Nat),i + m = l.length → Ans (fun k=>spec_MapOk.l0 k (i : Int) l) (fun r=>r = goodFrom l i):=by
      intro m
      induction m with
      | zero=>
        intro i hi
        refine Ans.succ ?_
        unfold spec_MapOk.l0
        exact Ans.neg (by omega) (Ans.pure (good_end (by omega)).symm)
      | succ m ih=>
        intro i hi
        refine Ans.succ ?_
        unfold spec_MapOk.l0
        refine Ans.pos (by omega) (Ans.pos (by omega) ?_)
        rw [good_step (by omega : i < l.length)]
        simp only [specEndInside_f,Option.bind_some]
        have e1 : ((i : Int)).toNat = i:=by omega
        cases h1 : endIn (rd_T55 l (i : Int)).f0 (rd_T55 l (i : Int)).f1
        · exact Ans.neg (by simp) (Ans.pure (by simp))
        refine Ans.pos rfl (Ans.pos (by omega) ?_)
        rw [e1,wi i (by omega)]
        refine Ans.bind (l3Find_a (l.take i) (by rw [List.length_take];omega) _ _) ?_
        rintro _ rfl
        cases hf : fnd (l.take i) (rd_T55 l (i : Int)).f0 (rd_T55 l (i : Int)).f1 with
        | none=>
          refine Ans.neg (by simp [sign]) ?_
          simpa using ih (i + 1) (by omega)
        | some j=>exact Ans.pos (by simp [sign]) (Ans.pure (by simp))
    simpa using L l.length 0 (by omega)
theorem implMapOk_a (l : List S55) (hl : l.length ≤ 2000000) : Ans (fun k=>impl_MapOk.f k l) (fun r=>r = okT l):=by
  unfold impl_MapOk.f
  have L : ∀ (m i : Nat),i + m = l.length → Ans (fun k=>impl_MapOk.l0 k l (l.length : Int) (i : Int) l) (fun r=>r = (decide ((l.length : Int) ≤ 6) && goodFrom l i)):=by
    intro m
    induction m with
    | zero=>
      intro i hi
      refine Ans.succ ?_
      unfold impl_MapOk.l0
      exact Ans.neg (by omega) (Ans.pure (by rw [good_end (by omega)];simp))
    | succ m ih=>
      intro i hi
      refine Ans.succ ?_
      unfold impl_MapOk.l0
      refine Ans.pos (by omega) (Ans.pos (by omega) (Ans.pos (by omega) ?_))
      rw [good_step (by omega : i < l.length)]
      simp only [EndInside_f,Option.bind_some]
      have e1 : ((i : Int)).toNat = i:=by omega
      cases h1 : endIn (rd_T55 l (i : Int)).f0 (rd_T55 l (i : Int)).f1
      · exact Ans.neg (by simp) (Ans.pure (by simp))
      refine Ans.pos rfl (Ans.pos (by omega) ?_)
      rw [e1,wi i (by omega)]
      refine Ans.bind (contains_a (l.take i) (by rw [List.length_take];omega) _ _) ?_
      rintro _ rfl
      cases hf : fnd (l.take i) (rd_T55 l (i : Int)).f0 (rd_T55 l (i : Int)).f1 with
      | none=>
        refine Ans.neg (by simp) ?_
        simpa using ih (i + 1) (by omega)
      | some j=>exact Ans.pos (by simp) (Ans.pure (by simp))
  exact L l.length 0 (by omega)
def putV (l : List S55) (a b : Int) : List S55 × Int:=if portV l a b ≠ 0 then (l,portV l a b) else if l.length = 6 then (l,0) else (l ++ [⟨a,b⟩],500 + l.length)
def tabPut (l : List S55) (a b : Int) : List S55 × Int:=if okT l && endIn a b then putV l a b else ([],0)
theorem portV_sign (l : List S55) (a b : Int) : portV l a b = if sign (fnd l a b) < 0 then 0 else 500 + sign (fnd l a b):=by
  unfold portV sign
  cases fnd l a b with
  | none=>simp
  | some i=>
    have : ¬ ((i : Int) < 0):=by omega
    simp [this]
theorem sign_lt {l : List S55} (hl : l.length ≤ 2000000) (a b : Int) : -1 ≤ sign (fnd l a b) ∧ sign (fnd l a b) < 2000000:=by
  cases h : fnd l a b with
  | none=>simp [sign]
  | some i=>have:=(fnd_lt h).1;simp only [sign];omega
theorem portV_range {l : List S55} (hl : l.length ≤ 2000000) (a b : Int) : portV l a b = 0 ∨ (500 ≤ portV l a b ∧ portV l a b < 500 + l.length):=by
  unfold portV
  cases h : fnd l a b with
  | none=>exact .inl rfl
  | some i=>have:=(fnd_lt h).1;dsimp only;omega
theorem specMapPort_a (l : List S55) (hl : l.length ≤ 2000000) (a b : Int) : Ans (fun k=>spec_MapPort.f k l a b) (fun r=>r = portV l a b):=by
  unfold spec_MapPort.f
  refine Ans.bind (l3Find_a l hl a b) ?_
  rintro _ rfl
  have hs:=sign_lt hl a b
  rw [portV_sign]
  refine Ans.ite (fun c=>Ans.pure (by rw [if_pos c])) (fun c=>Ans.pure ?_)
  rw [if_neg c,w64 _ (by omega)]
theorem okT_le {l : List S55} (h : okT l = true) : l.length ≤ 6:=by
  simp only [okT,Bool.and_eq_true,decide_eq_true_eq] at h
  omega
theorem good_all {l : List S55} (h : goodFrom l 0 = true) : ∀ x ∈ l,endIn x.f0 x.f1 = true:=by
  intro x hx
  obtain ⟨j,hj,rfl⟩:=List.getElem_of_mem hx
  unfold goodFrom at h
  have:=List.all_eq_true.mp h j (by simp [List.mem_range'];omega)
  rw [rd29_get hj] at this
  simp only [Bool.and_eq_true] at this
  exact this.1
theorem okT_all {l : List S55} (h : okT l = true) : ∀ x ∈ l,endIn x.f0 x.f1 = true:=by
  simp only [okT,Bool.and_eq_true] at h
  exact good_all h.2
theorem endIn_wf {a b : Int} (h : endIn a b = true) : wfB a = true ∧ wfB b = true:=by
  simp only [endIn,inB,Bool.and_eq_true,decide_eq_true_eq] at h
  unfold wfB
  exact ⟨(i64_iff a).mpr (by omega),(i64_iff b).mpr (by omega)⟩
theorem all_wf {l : List S55} (h : ∀ x ∈ l,endIn x.f0 x.f1 = true) : l.all wfE = true:=by
  rw [List.all_eq_true]
  intro x hx
  have:=endIn_wf (h x hx)
  simp [wfE,this.1,this.2]
theorem implMapPort_f {l : List S55} (hl : l.length ≤ 1000) (h : ∀ x ∈ l,endIn x.f0 x.f1 = true) {a b : Int} (he : endIn a b = true) : impl_MapPort.f l a b = some (portV l a b):=by
  unfold impl_MapPort.f
  have:=endIn_wf he
  rw [if_pos ⟨by omega,all_wf h,this.1,this.2⟩]
theorem l3Put_a (l : List S55) (hl : l.length ≤ 2000000) (a b : Int) : Ans (fun k=>spec_l3Put.f k l a b) (fun r=>r = putV l a b):=by
  unfold spec_l3Put.f
  refine Ans.bind (specMapPort_a l hl a b) ?_
  rintro _ rfl
  have hr:=portV_range hl a b
  refine Ans.ite (fun c1=>Ans.pure ?_) (fun c1=>?_)
  · have v0 : putV l a b = (l,portV l a b):=by unfold putV;rw [if_pos (by omega)]
    rw [v0]
  · have e0 : portV l a b = 0:=by omega
    refine Ans.ite (fun c2=>Ans.pure ?_) (fun c2=>?_)
    · have v0 : putV l a b = (l,0):=by unfold putV;rw [if_neg (by simp [e0]),if_pos (by omega)]
      rw [v0]
    · have v0 : putV l a b = (l ++ [⟨a,b⟩],(500 + l.length : Int)):=by unfold putV;rw [if_neg (by simp [e0]),if_neg (by omega)]
      rw [v0]
      refine Ans.bsome (Ans.pos (by simp;omega) (Ans.bsome (Ans.bsome (Ans.pos (by simp;omega) (Ans.bsome (Ans.pure ?_))))))
      have e1 : (([] ++ l ++ [⟨a,b⟩] : List S55).length : Int) = l.length + 1:=by simp
      rw [e1,w64 (500 + ((l.length : Int) + 1)) (by omega),w64 _ (by omega)]
      simp
      omega
theorem implPut_f {l : List S55} (c : okT l = true) {a b : Int} (he : endIn a b = true) : impl_MapTab_put.f l a b = some (putV l a b):=by
  have hl6:=okT_le c
  have hr:=portV_range (l:=l) (by omega) a b
  unfold impl_MapTab_put.f impl_MapTab_copied.f impl_EndPoint_103.f impl_EndPoint_102.f
  rw [if_pos (by omega),Option.bind_some,Option.bind_some,Option.bind_some,implMapPort_f (by omega) (okT_all c) he,Option.bind_some]
  unfold putV
  by_cases c1 : portV l a b = 0
  · by_cases c2 : (l.length : Int) ≥ 6
    · have c2' : l.length = 6:=by omega
      simp [c1,c2']
    · have c2' : ¬ l.length = 6:=by omega
      have c3 : l.length < 8796093022208:=by omega
      have c4 : ¬ (6 ≤ l.length):=by omega
      have e : wrap64 (500 + (l.length : Int)) = 500 + l.length:=w64 _ (by omega)
      simp [c1,c2',c3,c4,e]
      omega
  · simp [c1]
theorem in_a {l : List Int} (hl : Bys l) {s B : Int} (hs : At B s) (hB : B < 800000) : Ans (fun k=>spec_l20In.f k l s) (fun r=>At (B + 3) r.2.2 ∧ Sm r.1 ∧ Sm r.2.1):=by
  unfold spec_l20In.f
  refine Ans.bind (pick_a hl hs (by omega) 4) ?_
  rintro ⟨v1,s1⟩ ⟨h1,p1⟩
  refine Ans.bind (pick_a hl h1 (by omega) 40) ?_
  rintro ⟨v2,s2⟩ ⟨h2,p2⟩
  dsimp only at *
  simp only [Option.bind_some]
  refine Ans.bind (pick_a hl h2 (by omega) 5) ?_
  rintro ⟨v3,s3⟩ ⟨h3,p3⟩
  dsimp only at *
  refine Ans.pos p3.1 (Ans.pos (by simp;omega) (Ans.pure ⟨at_le h3 (by omega),?_,sm_rd ?_ _⟩))
  · rw [w64 _ (by omega)];unfold Sm;omega
  · intro x hx
    have e : wrap64 (1 + v2) = 1 + v2:=w64 _ (by omega)
    rw [e] at hx
    simp at hx
    unfold Sm
    omega
theorem out_a {l : List Int} (hl : Bys l) {s B : Int} (hs : At B s) (hB : B < 800000) : Ans (fun k=>spec_l20Out.f k l s) (fun r=>At (B + 2) r.2.2 ∧ Sm r.1 ∧ Sm r.2.1):=by
  unfold spec_l20Out.f
  refine Ans.bind (pick_a hl hs (by omega) 3) ?_
  rintro ⟨v1,s1⟩ ⟨h1,p1⟩
  simp only [Option.bind_some]
  dsimp only at *
  refine Ans.bind (pick_a hl h1 (by omega) 4) ?_
  rintro ⟨v3,s3⟩ ⟨h3,p3⟩
  dsimp only at *
  refine Ans.pos p3.1 (Ans.pos (by simp;omega) (Ans.pure ⟨at_le h3 (by omega),?_,sm_rd ?_ _⟩))
  · rw [w64 _ (by omega)];unfold Sm;omega
  · intro x hx
    simp at hx
    unfold Sm
    omega
theorem specMapPut_a (l : List S55) (hl : l.length ≤ 2000000) (a b : Int) : Ans (fun k=>spec_MapPut.f k l a b) (fun r=>r = tabPut l a b):=by
  unfold spec_MapPut.f tabPut
  refine Ans.bind (specMapOk_a l hl) ?_
  rintro _ rfl
  simp only [specEndInside_f,Option.bind_some]
  have J0 : Ans (fun k=>spec_MapPut.j0 k true l a b) (fun r=>r = ([],0)):=by
    refine Ans.succ ?_
    unfold spec_MapPut.j0
    exact Ans.pos rfl (Ans.pure rfl)
  refine Ans.ite (fun c=>?_) (fun c=>by simpa [c] using J0)
  rw [c]
  cases he : endIn a b
  · simpa using J0
  have hl6:=okT_le c
  refine Ans.succ ?_
  unfold spec_MapPut.j0
  refine Ans.neg (by simp) ?_
  have hc : spec_l3Copy.f l = some l:=by
    unfold spec_l3Copy.f
    rw [Option.bind_some,if_pos (by simp;omega)]
    rfl
  rw [hc]
  refine Ans.bsome ?_
  refine Ans.bind (R:=fun r=>r = putV l a b) ?_ (fun v hv=>by subst hv;exact Ans.pure (by simp))
  exact l3Put_a l hl a b
instance decS29 : DecidableEq S55:=fun a b=>decidable_of_iff (a.f0 = b.f0 ∧ a.f1 = b.f1) (by cases a;cases b;simp)
theorem tabPut_len (l : List S55) (a b : Int) : (tabPut l a b).1.length ≤ l.length + 1:=by
  unfold tabPut putV
  split
  · split
    · simp
    · split <;> simp
  · simp
theorem table_a {l : List Int} (hl : Bys l) {s B : Int} (hs : At B s) (hB : B < 500000) (n : Int) : Ans (fun k=>spec_l20Table.f k l s n) (fun r=>At (B + 200) r.2 ∧ r.1.length ≤ 20):=by
  have L1 : ∀ (m : Nat) (x : List S55) (s B : Int),At B s → x.length + m = 20 → Ans (fun k=>spec_l20Table.l1 k l s x) (fun r=>At B r.2 ∧ r.1.length ≤ 20):=by
    intro m
    induction m with
    | zero=>
      intro x s B hs hm
      refine Ans.succ ?_
      unfold spec_l20Table.l1
      exact Ans.neg (by omega) (Ans.pure ⟨hs,by dsimp only;omega⟩)
    | succ m ih=>
      intro x s B hs hm
      refine Ans.succ ?_
      unfold spec_l20Table.l1
      refine Ans.ite (fun c=>Ans.pos (by omega) (ih _ s B hs (by simp;omega))) (fun c=>Ans.pure ⟨hs,by dsimp only;omega⟩)
  have L0 : ∀ (m : Nat) (x : List S55) (x6 s B : Int),At B s → B + 3 * (m : Int) < 600000 → x.length + m ≤ 10 → x6 ≤ m → m ≤ 10 → Ans (fun k=>spec_l20Table.l0 k n x6 l s x) (fun r=>At (B + 3 * m + 10) r.2 ∧ r.1.length ≤ 20):=by
    intro m
    have J : ∀ (x : List S55) (s B : Int),At B s → B < 700000 → x.length ≤ 10 → Ans (fun k=>(spec_l20Rd_odd.f k l s n).bind fun bt566=>(if bt566.1 = true then ((spec_l20Rd_pick.f k l bt566.2 3).bind fun bt568=>(if bt568.1 = 0 then ((spec_l20Out.f k l bt568.2).bind fun bt570=>(if x.length < 8796093022208 then (some ((x ++ [(⟨bt570.1,bt570.2.1⟩ : S55)]),bt570.2.2)) else (none))) else (if bt568.1 = 1 then (if x.length < 8796093022208 then ((some (x ++ [(⟨9,9⟩ : S55)] : List (S55))).bind fun y576=>(if y576.length < 8796093022208 then (some ((y576 ++ [(⟨9,9⟩ : S55)]),bt568.2)) else (none))) else (none)) else (spec_l20Table.l1 k l bt568.2 x)))) else (some (x,bt566.2)))) (fun r=>At (B + 10) r.2 ∧ r.1.length ≤ 20):=by
      intro x s B hs hB hx
      refine Ans.bind (odd_a hl hs (by omega) n) ?_
      rintro ⟨b,s1⟩ h1
      dsimp only at *
      refine Ans.ite (fun _=>?_) (fun _=>Ans.pure ⟨at_le h1 (by omega),by dsimp only;omega⟩)
      refine Ans.bind (pick_a hl h1 (by omega) 3) ?_
      rintro ⟨v2,s2⟩ ⟨h2,p2⟩
      dsimp only at *
      refine Ans.ite (fun _=>?_) (fun _=>Ans.ite (fun _=>?_) (fun _=>?_))
      · refine Ans.bind (out_a hl h2 (by omega)) ?_
        rintro ⟨a1,a2,s3⟩ ⟨h3,_⟩
        dsimp only at *
        exact Ans.pos (by omega) (Ans.pure ⟨at_le h3 (by omega),by simp;omega⟩)
      · exact Ans.pos (by omega) (Ans.bsome (Ans.pos (by simp;omega) (Ans.pure ⟨at_le h2 (by omega),by simp;omega⟩)))
      · refine (L1 (20 - x.length) x s2 _ h2 (by omega)).mono ?_
        rintro r ⟨a,b⟩
        exact ⟨at_le a (by omega),b⟩
    induction m with
    | zero=>
      intro x x6 s B hs hB hm hx hq
      refine Ans.succ ?_
      unfold spec_l20Table.l0
      refine Ans.neg (by omega) ((J x s B hs (by omega) (by omega)).mono ?_)
      rintro r ⟨a,b⟩
      exact ⟨at_le a (by omega),b⟩
    | succ m ih=>
      intro x x6 s B hs hB hm hx hq
      refine Ans.succ ?_
      unfold spec_l20Table.l0
      refine Ans.ite (fun c=>?_) (fun c=>?_)
      · refine Ans.bind (in_a hl hs (by omega)) ?_
        rintro ⟨a1,a2,s1⟩ ⟨h1,_⟩
        dsimp only at *
        refine Ans.bind (specMapPut_a x (by omega) a1 a2) ?_
        rintro _ rfl
        have hp:=tabPut_len x a1 a2
        have e : wrap64 (x6 - 1) = x6 - 1:=w64 _ (by omega)
        rw [e]
        refine (ih _ _ s1 _ h1 (by omega) (by omega) (by omega) (by omega)).mono ?_
        rintro r ⟨a,b⟩
        exact ⟨at_le a (by push_cast;omega),b⟩
      · refine (J x s B hs (by omega) (by omega)).mono ?_
        rintro r ⟨a,b⟩
        exact ⟨at_le a (by omega),b⟩
  unfold spec_l20Table.f
  refine Ans.bind (pick_a hl hs (by omega) 8) ?_
  rintro ⟨v1,s1⟩ ⟨h1,p1⟩
  dsimp only at *
  refine (L0 10 [] v1 s1 _ h1 (by omega) (by simp) (by omega) (by omega)).mono ?_
  rintro r ⟨a,b⟩
  exact ⟨at_le a (by omega),b⟩
theorem fnd_none {l : List S55} {a b : Int} (h : portV l a b = 0) : fnd l a b = none:=by
  unfold portV at h
  cases hf : fnd l a b with
  | none=>rfl
  | some i=>rw [hf] at h;simp at h;omega
theorem ok_snoc {l : List S55} {a b : Int} (h : okT l = true) (hl : l.length < 6) (he : endIn a b = true) (hn : fnd l a b = none) : okT (l ++ [⟨a,b⟩]) = true:=by
  unfold okT at *
  simp only [Bool.and_eq_true,decide_eq_true_eq] at *
  refine ⟨by simp;omega,?_⟩
  unfold goodFrom
  rw [List.all_eq_true]
  intro j hj
  simp [List.mem_range'] at hj
  by_cases hjl : j < l.length
  · have h2:=h.2
    unfold goodFrom at h2
    have:=List.all_eq_true.mp h2 j (by simp [List.mem_range'];omega)
    have e1 : rd_T55 (l ++ [⟨a,b⟩]) (j : Int) = rd_T55 l (j : Int):=by
      rw [rd29_get (by simp;omega),rd29_get hjl,List.getElem_append_left]
    have e2 : List.take j (l ++ [(⟨a,b⟩ : S55)]) = l.take j:=by rw [List.take_append_of_le_length (by omega)]
    rw [e1,e2]
    exact this
  · have hjj : j = l.length:=by omega
    subst hjj
    have e1 : rd_T55 (l ++ [⟨a,b⟩]) (l.length : Int) = ⟨a,b⟩:=by
      rw [rd29_get (by simp)]
      simp
    rw [e1,List.take_left]
    simp [he,hn]
theorem put_ok {l : List S55} {a b : Int} (h : okT l = true) (he : endIn a b = true) : okT (putV l a b).1 = true:=by
  have:=okT_le h
  unfold putV
  by_cases c1 : portV l a b = 0
  · rw [if_neg (by simp [c1])]
    by_cases c2 : l.length = 6
    · rw [if_pos c2];exact h
    · rw [if_neg c2];exact ok_snoc h (by omega) he (fnd_none c1)
  · rw [if_pos c1];exact h
end Go.Proofs.YtakfmcpjnkagmaaGreatDoor.P
namespace Go.Proofs.YtakfmcpjnkagmaaGreatDoor.P
open Go Go.Proofs.YtakfmcpjnkagmaaGreatDoorUPoSp.PrintLast Go.Proofs.YtakfmcpjnkagmaaGreatDoorUPoSp.PrintMore Go.Proofs.YtakfmcpjnkagmaaGreatDoorUPoSp.PrintWords Go.RowKit
set_option linter.unusedVariables false
def wordsB (s : ByteArray) : List ByteArray:=Lib.splitB (⟨#[32]⟩ : ByteArray) 0 (Lib.countB s (⟨#[32]⟩ : ByteArray)) s
end Go.Proofs.YtakfmcpjnkagmaaGreatDoor.P
namespace Go.Proofs.YtakfmcpjnkagmaaGreatDoor.P
open Go.Proofs.YtakfmcpjnkagmaaGreatDoorUPoSp.PrintLast Go.Proofs.YtakfmcpjnkagmaaGreatDoorUPoSp.PrintMore Go.Proofs.YtakfmcpjnkagmaaGreatDoorUPoSp.PrintWords Go.RowKit
set_option linter.unusedVariables false
set_option linter.unusedSimpArgs false
theorem ba_ext {a b : ByteArray} (h : a.data.toList = b.data.toList) : a = b:=by
  cases a;cases b;simp at h;rw [h]
theorem numB_small {n : Nat} (h : n < 10) : numB n = strOfNums [((48 + n : Nat) : Int)]:=by
  apply ba_ext
  unfold numB Lib.itoa
  rw [if_neg (by omega)]
  simp only [Int.toNat_natCast,Lib.decDigits_one h,strOfNums]
  rfl
theorem numB_big {n : Nat} (h : ¬ n < 10) : numB n = numB (n / 10 : Nat) ++ strOfNums [((48 + n % 10 : Nat) : Int)]:=by
  apply ba_ext
  unfold numB Lib.itoa
  rw [if_neg (by omega),if_neg (by omega)]
  simp only [Int.toNat_natCast,ByteArray.data_append,Array.toList_append]
  rw [Lib.decDigits,dif_neg h]
  simp only [Int.toNat_natCast,strOfNums]
  rfl
theorem strOfNums_size (l : List Int) : (strOfNums l).size = l.length:=by simp [strOfNums,ByteArray.size]
theorem plain_l0 : ∀ (N n : Nat),n < N → n < 1000000 → ∀ x3 : ByteArray,x3.size + N ≤ 1000000000 → Ans (fun k=>spec_l1Plain.l0 k n x3) (fun b=>b = numB n ++ x3)
  | 0,n,h,_,_,_=>by omega
  | N + 1,n,h,hn,x3,hx=>by
    refine Ans.succ ?_
    unfold spec_l1Plain.l0
    by_cases h9 : n < 10
    · refine Ans.neg (by omega) ?_
      have e : (wrap64 (48 + (n : Int))) % 256 = ((48 + n : Nat) : Int):=by unfold wrap64;omega
      rw [e]
      refine Ans.bsome (Ans.pos (by rw [strOfNums_size];simp;omega) (Ans.pure ?_))
      rw [numB_small h9]
    · refine Ans.pos (by omega) ?_
      have e1 : Int.tmod (n : Int) 10 = ((n % 10 : Nat) : Int):=by rw [Int.tmod_eq_emod_of_nonneg (by omega)];rfl
      have e2 : Int.tdiv (n : Int) 10 = ((n / 10 : Nat) : Int):=by rw [Int.tdiv_eq_ediv_of_nonneg (by omega)];rfl
      have e : (wrap64 (48 + Int.tmod (n : Int) 10)) % 256 = ((48 + n % 10 : Nat) : Int):=by rw [e1];unfold wrap64;omega
      have e3 : wrap64 (Int.tdiv (n : Int) 10) = ((n / 10 : Nat) : Int):=by rw [e2];unfold wrap64;omega
      rw [e,e3]
      have hs : (strOfNums [((48 + n % 10 : Nat) : Int)]).size = 1:=by rw [strOfNums_size];rfl
      refine Ans.bsome (Ans.pos (by rw [hs];omega) ?_)
      refine (plain_l0 N (n / 10) (by omega) (by omega) (strOfNums [((48 + n % 10 : Nat) : Int)] ++ x3) (by rw [ByteArray.size_append,hs];omega)).mono ?_
      rintro v rfl
      rw [numB_big h9,ByteArray.append_assoc]
theorem plain_a {n : Nat} (hn : n < 1000000) : Ans (fun k=>spec_l1Plain.f k n) (fun b=>b = numB n):=by
  refine (plain_l0 (n + 1) n (by omega) hn (⟨#[]⟩ : ByteArray) (by simp [ByteArray.size];omega)).mono ?_
  rintro v rfl
  exact ba_ext (by simp)
theorem len_size (s : ByteArray) : s.data.toList.length = s.size:=by rw [Array.length_toList];rfl
def wlpB : ByteArray → List UInt8 → List ByteArray
  | w,[]=>[w]
  | w,c :: r=>if c = 32 then w :: wlpB ⟨#[]⟩ r else wlpB (w ++ ⟨#[c]⟩) r
theorem bt_get (s : ByteArray) (i : Nat) (h : i < s.size) : bt s i = ((s.data.toList[i]'(by rw [len_size];exact h)).toNat : Int):=by
  unfold bt
  simp only [Int.toNat_natCast,dif_pos h]
  rfl
theorem extract_get (s : ByteArray) (i : Nat) (h : i < s.size) : s.extract i (i + 1) = ⟨#[s.data.toList[i]'(by rw [len_size];exact h)]⟩:=by
  apply ba_ext
  have hl : i < s.data.toList.length:=by rw [len_size];exact h
  rw [Lib.extract_data]
  have e : s.data.toList.drop i = s.data.toList[i] :: s.data.toList.drop (i + 1):=List.drop_eq_getElem_cons hl
  rw [e,show i + 1 - i = 1 by omega]
  rfl
theorem words_l0 (s : ByteArray) (hs : s.size ≤ 1048576) : ∀ (m i : Nat),s.size - i = m → i ≤ s.size → ∀ (x3 : List ByteArray) (x4 : ByteArray),x3.length ≤ i → x4.size ≤ i →
    Ans (fun k=>spec_l1Words.l0 k s x3 x4 i) (fun r=>r = x3 ++ wlpB x4 (s.data.toList.drop i))
  | 0,i,hm,hi,x3,x4,h3,h4=>by
    refine Ans.succ ?_
    unfold spec_l1Words.l0
    refine Ans.neg (by omega) (Ans.pos (by omega) (Ans.pure ?_))
    rw [List.drop_eq_nil_of_le (by rw [len_size];omega)]
    rfl
  | m + 1,i,hm,hi,x3,x4,h3,h4=>by
    have hlt : i < s.size:=by omega
    have hl : i < s.data.toList.length:=by rw [len_size];exact hlt
    have hw : wrap64 ((i : Int) + 1) = ((i + 1 : Nat) : Int):=by unfold wrap64;omega
    have e : s.data.toList.drop i = s.data.toList[i] :: s.data.toList.drop (i + 1):=List.drop_eq_getElem_cons hl
    refine Ans.succ ?_
    unfold spec_l1Words.l0
    refine Ans.pos (by omega) (Ans.pos (by omega) ?_)
    rw [bt_get s i hlt,hw,e]
    by_cases hc : s.data.toList[i] = 32
    · refine Ans.pos (by rw [hc];rfl) (Ans.pos (by omega) ?_)
      refine (words_l0 s hs m (i + 1) (by omega) (by omega) (x3 ++ [x4]) (⟨#[]⟩ : ByteArray) (by simp;omega) (Nat.zero_le _)).mono ?_
      rintro v rfl
      rw [wlpB,if_pos hc]
      simp
    · refine Ans.neg (fun h=>hc (UInt8.toNat_inj.mp (by have : ((32 : UInt8).toNat : Int) = 32:=rfl;omega))) (Ans.pos (by omega) (Ans.pos (by omega) ?_))
      have ex : s.extract ((i : Int)).toNat ((((i + 1 : Nat) : Int))).toNat = ⟨#[s.data.toList[i]]⟩:=by simp only [Int.toNat_natCast];exact extract_get s i hlt
      rw [ex]
      have h1 : (⟨#[s.data.toList[i]]⟩ : ByteArray).size = 1:=rfl
      refine Ans.pos (by rw [h1];omega) ?_
      refine (words_l0 s hs m (i + 1) (by omega) (by omega) x3 (x4 ++ ⟨#[s.data.toList[i]]⟩) (by omega) (by rw [ByteArray.size_append,h1];omega)).mono ?_
      rintro v rfl
      rw [wlpB,if_neg hc]
theorem wlpB_data : ∀ (l : List UInt8) (w : ByteArray),wlpB w l = match wlpB ⟨#[]⟩ l with
    | []=>[]
    | h :: t=>(w ++ h) :: t
  | [],w=>by simp only [wlpB];congr 1;exact ba_ext (by simp)
  | c :: r,w=>by
    by_cases hc : c = 32
    · subst hc
      simp only [wlpB,if_true]
      congr 1;exact ba_ext (by simp)
    · simp only [wlpB,if_neg hc]
      rw [wlpB_data r (w ++ ⟨#[c]⟩),wlpB_data r (⟨#[]⟩ ++ ⟨#[c]⟩)]
      cases wlpB ⟨#[]⟩ r with
      | nil=>rfl
      | cons h t=>simp only [List.cons.injEq,and_true];exact ba_ext (by simp)
theorem wlp_eq : ∀ (l : List UInt8),Lib.splitK [32] 0 (Lib.count l [32]) l = (wlpB ⟨#[]⟩ l).map (·.data.toList)
  | []=>by rw [Lib.count_miss (by simp [Lib.index])];rfl
  | b :: l=>by
    by_cases h : b = 32
    · subst h
      rw [Lib.count_cons_eq,Nat.add_comm]
      have hix : Lib.index (32 :: l) [32] = 0:=by rw [Lib.index];simp [List.isPrefixOf]
      unfold Lib.splitK
      rw [hix]
      simp only [wlpB,if_true,List.map_cons]
      simp [wlp_eq l]
    · rw [Lib.count_cons_ne b 32 l h]
      have hp : ([32] : List UInt8).isPrefixOf (b :: l) = false:=by simp [List.isPrefixOf,Ne.symm h]
      have hix : Lib.index (b :: l) [32] = if Lib.index l [32] == -1 then -1 else Lib.index l [32] + 1:=by rw [Lib.index,hp];simp
      have ih:=wlp_eq l
      simp only [wlpB,if_neg h]
      rw [wlpB_data l (⟨#[]⟩ ++ ⟨#[b]⟩)]
      by_cases hm : Lib.index l [32] = -1
      · rw [Lib.count_miss hm] at ih ⊢
        simp only [Lib.splitK] at ih ⊢
        cases hw : wlpB ⟨#[]⟩ l with
        | nil=>rw [hw] at ih;simp at ih
        | cons x t=>rw [hw] at ih;simp at ih ⊢;exact ⟨ih.1,ih.2⟩
      · have hge:=Lib.index_ge l [32]
        obtain ⟨j,hj⟩ : ∃ j : Nat,Lib.index l [32] = j:=⟨(Lib.index l [32]).toNat,by omega⟩
        have hix' : Lib.index (b :: l) [32] = ((j + 1 : Nat) : Int):=by rw [hix,if_neg (fun e=>hm (beq_iff_eq.1 e)),hj];omega
        rw [Lib.count_hit (by simp) hj,Nat.add_comm] at ih ⊢
        unfold Lib.splitK at ih ⊢
        rw [hix',if_neg (fun h=>by have:=beq_iff_eq.1 h;omega)]
        rw [hj,if_neg (fun h=>by have:=beq_iff_eq.1 h;omega)] at ih
        cases hw : wlpB ⟨#[]⟩ l with
        | nil=>rw [hw] at ih;simp at ih
        | cons x t=>rw [hw] at ih;simp at ih ⊢;exact ⟨ih.1,ih.2⟩
theorem map_inj_data : ∀ {a b : List ByteArray},a.map (·.data.toList) = b.map (·.data.toList) → a = b
  | [],[],_=>rfl
  | [],_ :: _,h=>by simp at h
  | _ :: _,[],h=>by simp at h
  | x :: a,y :: b,h=>by
    simp only [List.map_cons,List.cons.injEq] at h
    rw [ba_ext h.1,map_inj_data h.2]
theorem wordsB_eq (s : ByteArray) : wordsB s = wlpB ⟨#[]⟩ s.data.toList:=by
  apply map_inj_data
  unfold wordsB
  rw [Lib.splitB_data,← wlp_eq]
  try rfl
theorem words_a (s : ByteArray) (hs : s.size ≤ 1048576) : Ans (fun k=>spec_l1Words.f k s) (fun r=>r = wordsB s):=by
  refine (words_l0 s hs _ 0 rfl (Nat.zero_le _) [] ⟨#[]⟩ (Nat.le_refl _) (Nat.le_refl _)).mono ?_
  rintro v rfl
  rw [wordsB_eq];rfl
def joinB (w : ByteArray) (l : List ByteArray) : ByteArray:=l.foldl (fun s x=>s ++ ((⟨#[32]⟩ : ByteArray) ++ x)) w
def noBlank (b : ByteArray) : Prop:=∀ c ∈ b.data.toList,c ≠ 32
theorem wlpB_noBlank : ∀ (l : List UInt8) (w : ByteArray) (r : List UInt8),(∀ c ∈ l,c ≠ 32) → wlpB w (l ++ r) = wlpB (w ++ ⟨l.toArray⟩) r
  | [],w,r,_=>by simp only [List.nil_append];congr 1;exact ba_ext (by simp)
  | c :: l,w,r,h=>by
    have hc : c ≠ 32:=h c (by simp)
    simp only [List.cons_append,wlpB,if_neg hc]
    rw [wlpB_noBlank l (w ++ ⟨#[c]⟩) r (fun x hx=>h x (by simp [hx]))]
    congr 1;exact ba_ext (by simp)
theorem wlpB_join : ∀ (l : List ByteArray) (w u : ByteArray),noBlank w → (∀ x ∈ l,noBlank x) → wlpB u (joinB w l).data.toList = (u ++ w) :: l
  | [],w,u,hw,_=>by
    have:=wlpB_noBlank w.data.toList u [] hw
    rw [List.append_nil] at this
    show wlpB u w.data.toList = _
    rw [this]
    rfl
  | x :: l,w,u,hw,hl=>by
    have e : ∀ (l : List ByteArray) (w x : ByteArray),(joinB (w ++ ((⟨#[32]⟩ : ByteArray) ++ x)) l).data.toList = w.data.toList ++ 32 :: (joinB x l).data.toList:=by
      intro l
      induction l with
      | nil=>intro w x;simp [joinB]
      | cons y l ih=>
        intro w x
        have h1:=ih (w ++ ((⟨#[32]⟩ : ByteArray) ++ x)) y
        have h2:=ih x y
        simp only [joinB,List.foldl_cons] at h1 h2 ⊢
        rw [h1,h2]
        simp
    have h0 : joinB w (x :: l) = joinB (w ++ ((⟨#[32]⟩ : ByteArray) ++ x)) l:=rfl
    rw [h0,e,wlpB_noBlank w.data.toList u _ hw]
    simp only [wlpB,if_true]
    rw [wlpB_join l x ⟨#[]⟩ (hl x (by simp)) (fun y hy=>hl y (by simp [hy]))]
    have e2 : (⟨#[]⟩ : ByteArray) ++ x = x:=ba_ext (by simp)
    have e3 : u ++ ⟨w.data.toList.toArray⟩ = u ++ w:=ba_ext (by simp)
    rw [e2]
theorem words_join (w : ByteArray) (l : List ByteArray) (hw : noBlank w) (hl : ∀ x ∈ l,noBlank x) : wordsB (joinB w l) = w :: l:=by
  have e2 : (⟨#[]⟩ : ByteArray) ++ w = w:=ba_ext (by simp)
  rw [wordsB_eq,wlpB_join l w ⟨#[]⟩ hw hl,e2]
theorem wlpB_ne : ∀ (r : List UInt8) (w : ByteArray),wlpB w r ≠ []
  | [],w=>by simp [wlpB]
  | c :: r,w=>by
    unfold wlpB
    split
    · simp
    · exact wlpB_ne r _
theorem join_wlpB : ∀ (r : List UInt8) (w : ByteArray),(match wlpB w r with | []=>(⟨#[]⟩ : ByteArray) | h :: t=>joinB h t).data.toList = w.data.toList ++ r
  | [],w=>by simp [wlpB,joinB]
  | c :: r,w=>by
    by_cases hc : c = 32
    · subst hc
      simp only [wlpB,if_true]
      have ih:=join_wlpB r ⟨#[]⟩
      cases hw : wlpB ⟨#[]⟩ r with
      | nil=>exact absurd hw (wlpB_ne r _)
      | cons x t=>
        rw [hw] at ih
        have e : ∀ (t : List ByteArray) (w x : ByteArray),(joinB w (x :: t)).data.toList = w.data.toList ++ 32 :: (joinB x t).data.toList:=by
          intro t
          induction t with
          | nil=>intro w x;simp [joinB]
          | cons y t ih=>
            intro w x
            have h1:=ih (w ++ ((⟨#[32]⟩ : ByteArray) ++ x)) y
            have h2:=ih x y
            simp only [joinB,List.foldl_cons] at h1 h2 ⊢
            rw [h1,h2]
            simp
        show (joinB w (x :: t)).data.toList = _
        rw [e]
        simp only [List.append_cancel_left_eq,List.cons.injEq,true_and]
        simpa using ih
    · simp only [wlpB,if_neg hc]
      have ih:=join_wlpB r (w ++ ⟨#[c]⟩)
      rw [ih]
      simp
theorem join_words (s w : ByteArray) (l : List ByteArray) (h : wordsB s = w :: l) : joinB w l = s:=by
  have:=join_wlpB s.data.toList ⟨#[]⟩
  rw [← wordsB_eq,h] at this
  exact ba_ext (by simpa using this)
def isDg (c : UInt8) : Prop:=48 ≤ c.toNat ∧ c.toNat ≤ 57
def valF (a : Nat) (l : List UInt8) : Nat:=l.foldl (fun a b=>a * 10 + (b.toNat - 48)) a
theorem dg_of {d : Nat} (h : d < 10) : isDg (UInt8.ofNat (48 + d)) ∧ (UInt8.ofNat (48 + d)).toNat - 48 = d:=by
  have e : (UInt8.ofNat (48 + d)).toNat = 48 + d:=by simp;omega
  unfold isDg;rw [e];omega
theorem numB_data_small {n : Nat} (h : n < 10) : (numB n).data.toList = [UInt8.ofNat (48 + n)]:=by
  rw [numB_small h];rfl
theorem numB_data_big {n : Nat} (h : ¬ n < 10) : (numB n).data.toList = (numB (n / 10 : Nat)).data.toList ++ [UInt8.ofNat (48 + n % 10)]:=by
  rw [numB_big h,ByteArray.data_append,Array.toList_append];rfl
theorem numB_dg : ∀ (N n : Nat),n < N → (∀ c ∈ (numB n).data.toList,isDg c) ∧ valF 0 (numB n).data.toList = n ∧ (numB n).data.toList ≠ []
  | 0,n,h=>by omega
  | N + 1,n,h=>by
    by_cases h9 : n < 10
    · rw [numB_data_small h9]
      refine ⟨fun c hc=>?_,?_,by simp⟩
      · simp at hc;subst hc;have:=(dg_of h9).1;simpa using this
      · have:=(dg_of h9).2;simp only [valF,List.foldl_cons,List.foldl_nil];omega
    · rw [numB_data_big h9]
      obtain ⟨i1,i2,i3⟩:=numB_dg N (n / 10) (by omega)
      have hd : n % 10 < 10:=by omega
      refine ⟨fun c hc=>?_,?_,by simp⟩
      · rcases List.mem_append.1 hc with hc | hc
        · exact i1 c hc
        · have e:=List.mem_singleton.1 hc;subst e;exact (dg_of hd).1
      · have:=(dg_of hd).2
        unfold valF at i2 ⊢
        rw [List.foldl_append,i2]
        simp only [List.foldl_cons,List.foldl_nil]
        omega
theorem numB_inj {a b : Nat} (h : numB a = numB b) : a = b:=by
  have h1:=(numB_dg (a + 1) a (by omega)).2.1
  have h2:=(numB_dg (b + 1) b (by omega)).2.1
  rw [h] at h1;omega
theorem numB_size4 {n : Nat} (h : n ≤ 9999) : (numB n).size ≤ 4 ∧ 1 ≤ (numB n).size:=by
  have e : (numB n).size = Lib.nDigits n:=by
    unfold numB Lib.itoa
    rw [if_neg (by omega)]
    show (Lib.decDigits (n : Int).toNat).toArray.size = _
    rw [List.size_toArray,Lib.decDigits_length];rfl
  rw [e]
  by_cases a : n < 10
  · rw [Lib.nDigits_small a];omega
  · rw [Lib.nDigits_big a]
    by_cases b : n / 10 < 10
    · rw [Lib.nDigits_small b];omega
    · rw [Lib.nDigits_big b]
      by_cases c : n / 10 / 10 < 10
      · rw [Lib.nDigits_small c];omega
      · rw [Lib.nDigits_big c,Lib.nDigits_small (by omega)];omega
theorem numB_noBlank (n : Nat) : noBlank (numB n):=by
  intro c hc e
  have:=(numB_dg (n + 1) n (by omega)).1 c hc
  subst e
  unfold isDg at this
  simp at this
theorem valF_lt : ∀ (l : List UInt8) (a : Nat),(∀ c ∈ l,isDg c) → valF a l + 1 ≤ (a + 1) * 10 ^ l.length
  | [],a,_=>by simp [valF]
  | c :: l,a,h=>by
    have hc:=h c (by simp)
    have ih:=valF_lt l (a * 10 + (c.toNat - 48)) (fun x hx=>h x (by simp [hx]))
    unfold isDg at hc
    have : (a * 10 + (c.toNat - 48) + 1) * 10 ^ l.length ≤ ((a + 1) * 10) * 10 ^ l.length:=Nat.mul_le_mul_right _ (by omega)
    simp only [valF,List.foldl_cons,List.length_cons,Nat.pow_succ] at ih ⊢
    rw [Nat.mul_assoc,Nat.mul_comm 10] at this
    omega
theorem parse_dg : ∀ (l : List UInt8) (a : Nat),(∀ c ∈ l,isDg c) → (a + 1) * 10 ^ l.length ≤ 10 ^ 18 → Lib.parseUint10 a l = .ok (valF a l)
  | [],a,_,_=>rfl
  | c :: l,a,h,hb=>by
    have hc:=h c (by simp)
    unfold isDg at hc
    have hp : 1 ≤ 10 ^ l.length:=Nat.one_le_pow _ _ (by decide)
    have h1 : ((a + 1) * 10) * 1 ≤ ((a + 1) * 10) * 10 ^ l.length:=Nat.mul_le_mul_left _ hp
    have h2 : (a + 1) * 10 ^ (l.length + 1) = ((a + 1) * 10) * 10 ^ l.length:=by rw [Nat.pow_succ,Nat.mul_comm (10 ^ l.length) 10,Nat.mul_assoc]
    simp only [List.length_cons] at hb
    have h3 : (a * 10 + (c.toNat - 48) + 1) * 10 ^ l.length ≤ ((a + 1) * 10) * 10 ^ l.length:=Nat.mul_le_mul_right _ (by omega)
    unfold Lib.parseUint10
    rw [if_pos hc,if_neg (by omega),if_neg (by omega),parse_dg l _ (fun x hx=>h x (by simp [hx])) (by omega)]
    rfl
theorem atoiO_num {n : Nat} (h : n ≤ 9999) : atoiO (numB n) = some (n : Int):=by
  obtain ⟨h1,h2,h3⟩:=numB_dg (n + 1) n (by omega)
  have hs : (numB n).data.toList.length ≤ 4:=by rw [len_size];exact (numB_size4 h).1
  have hp:=parse_dg (numB n).data.toList 0 h1 (by
    have : 10 ^ (numB n).data.toList.length ≤ 10 ^ 4:=Nat.pow_le_pow_right (by decide) hs
    omega)
  rw [h2] at hp
  have e : Lib.atoiAll (numB n).data.toList = .ok (n : Int):=by
    generalize (numB n).data.toList = l at h1 h3 hp
    match l,h3 with
    | c :: r,_=>
      have hc:=h1 c (by simp)
      unfold isDg at hc
      unfold Lib.atoiAll
      simp only
      rw [if_neg (by omega)]
      unfold Lib.parseMag
      rw [if_neg (by simp),hp]
      simp only
      rw [if_neg (by omega),if_neg (by omega),if_neg (by omega)]
  unfold atoiO
  rw [e]
def NumIs (s : ByteArray) (v : Int) : Prop:=(∃ n : Nat,n ≤ 9999 ∧ s = numB n ∧ v = n) ∨ (v = -1 ∧ ∀ n : Nat,n ≤ 9999 → s ≠ numB n)
theorem num_step (V c : Nat) (hV : V ≤ 9999) (h0 : 48 ≤ c) (h1 : c ≤ 57) : wrap64 (wrap64 ((V : Int) * 10) + ((c : Int) - 48) % 256) = ((V * 10 + (c - 48) : Nat) : Int):=by
  have e1 : wrap64 ((V : Int) * 10) = (V : Int) * 10:=w64 _ (by omega)
  have e2 : ((c : Int) - 48) % 256 = (c : Int) - 48:=by omega
  rw [e1,e2,w64 _ (by omega)]
  omega
theorem num_l0 (s : ByteArray) (hs : s.size ≤ 4) : ∀ (m i : Nat),s.size - i = m → i ≤ s.size → (∀ c ∈ s.data.toList.take i,isDg c) →
    Ans (fun k=>spec_l1Num.l0 k s (valF 0 (s.data.toList.take i) : Nat) i) (NumIs s)
  | 0,i,hm,hi,hd=>by
    have hl : s.data.toList.length ≤ i:=by rw [len_size];omega
    rw [List.take_of_length_le hl] at hd ⊢
    have hv:=valF_lt s.data.toList 0 hd
    have hp : 10 ^ s.data.toList.length ≤ 10 ^ 4:=Nat.pow_le_pow_right (by decide) (by rw [len_size];exact hs)
    refine Ans.succ ?_
    unfold spec_l1Num.l0
    refine Ans.neg (by omega) ?_
    refine Ans.bind (plain_a (n:=valF 0 s.data.toList) (by omega)) ?_
    rintro v rfl
    refine Ans.ite (fun h=>Ans.pure (.inl ⟨_,by omega,(toList_inj h).symm,rfl⟩)) (fun h=>Ans.pure (.inr ⟨rfl,?_⟩))
    intro n hn e
    refine h ?_
    have:=(numB_dg (n + 1) n (by omega)).2.1
    rw [← e] at this
    rw [this,← e]
  | m + 1,i,hm,hi,hd=>by
    have hlt : i < s.size:=by omega
    have hl : i < s.data.toList.length:=by rw [len_size];exact hlt
    have hw : wrap64 ((i : Int) + 1) = ((i + 1 : Nat) : Int):=by unfold wrap64;omega
    have hno : ∀ (h : ¬ isDg s.data.toList[i]) (n : Nat),n ≤ 9999 → s ≠ numB n:=by
      intro h n hn e
      have:=(numB_dg (n + 1) n (by omega)).1 (s.data.toList[i]) (by rw [← e];exact List.getElem_mem hl)
      exact h this
    refine Ans.succ ?_
    unfold spec_l1Num.l0
    refine Ans.pos (by omega) (Ans.pos (by omega) ?_)
    rw [bt_get s i hlt,hw]
    have hc8:=(s.data.toList[i]).toNat_lt
    refine Ans.ite (fun h=>Ans.pure (.inr ⟨rfl,hno (fun q=>by unfold isDg at q;omega)⟩)) (fun h1=>?_)
    refine Ans.ite (fun h=>Ans.pure (.inr ⟨rfl,hno (fun q=>by unfold isDg at q;omega)⟩)) (fun h2=>?_)
    have hdi : isDg s.data.toList[i]:=by unfold isDg;omega
    have ht : s.data.toList.take (i + 1) = s.data.toList.take i ++ [s.data.toList[i]]:=List.take_succ_eq_append_getElem hl
    have hd' : ∀ c ∈ s.data.toList.take (i + 1),isDg c:=by
      rw [ht]
      intro c hc
      rcases List.mem_append.1 hc with hc | hc
      · exact hd c hc
      · have e:=List.mem_singleton.1 hc;subst e;exact hdi
    have hv:=valF_lt _ 0 hd
    have hp : 10 ^ (s.data.toList.take i).length ≤ 10 ^ 4:=Nat.pow_le_pow_right (by decide) (by rw [List.length_take];omega)
    have e : wrap64 (wrap64 ((valF 0 (s.data.toList.take i) : Nat) * 10) + (((s.data.toList[i]).toNat : Int) - 48) % 256) = (valF 0 (s.data.toList.take (i + 1)) : Nat):=by
      have e1 : valF 0 (s.data.toList.take (i + 1)) = valF 0 (s.data.toList.take i) * 10 + ((s.data.toList[i]).toNat - 48):=by
        rw [ht];unfold valF;rw [List.foldl_append];rfl
      rw [e1]
      unfold isDg at hdi
      exact num_step _ _ (by omega) hdi.1 hdi.2
    rw [e]
    exact num_l0 s hs m (i + 1) (by omega) (by omega) hd'
theorem num_a (s : ByteArray) : Ans (fun k=>spec_l1Num.f k s) (NumIs s):=by
  unfold spec_l1Num.f
  refine Ans.ite (fun h=>?_) (fun h=>?_)
  · refine Ans.succ ?_
    unfold spec_l1Num.j0
    refine Ans.pos rfl (Ans.pure (.inr ⟨rfl,fun n hn e=>?_⟩))
    have:=(numB_size4 hn).2
    rw [← e] at this;omega
  · refine Ans.succ ?_
    unfold spec_l1Num.j0
    refine Ans.ite (fun h4=>Ans.pure (.inr ⟨rfl,fun n hn e=>?_⟩)) (fun h4=>?_)
    · have:=(numB_size4 hn).1
      rw [← e] at this
      have:=of_decide_eq_true h4
      omega
    · have h4' : ¬ ((s.size : Int) > 4):=fun q=>h4 (decide_eq_true q)
      exact num_l0 s (by omega) _ 0 rfl (Nat.zero_le _) (by simp)
theorem index_at : ∀ (x y : List UInt8),(∀ c ∈ x,c ≠ 32) → Lib.index (x ++ 32 :: y) [32] = x.length
  | [],y,_=>by rw [List.nil_append,Lib.index];simp [List.isPrefixOf]
  | b :: x,y,h=>by
    have hb : b ≠ 32:=h b (by simp)
    have hp : ([32] : List UInt8).isPrefixOf (b :: (x ++ 32 :: y)) = false:=by simp [List.isPrefixOf,Ne.symm hb]
    have ih:=index_at x y (fun c hc=>h c (by simp [hc]))
    rw [List.cons_append,Lib.index,hp,ih]
    simp
theorem cut_at {x y : ByteArray} (h : noBlank x) : cutW ((x ++ (⟨#[32]⟩ : ByteArray)) ++ y) = (x,y):=by
  have e : ((x ++ (⟨#[32]⟩ : ByteArray)) ++ y).data.toList = x.data.toList ++ 32 :: y.data.toList:=by simp
  have hi:=index_at x.data.toList y.data.toList h
  unfold cutW
  rw [e]
  unfold Lib.cut
  rw [hi,if_pos (by omega)]
  have e1 : (x.data.toList ++ 32 :: y.data.toList).take x.data.toList.length = x.data.toList:=List.take_left
  have e2 : (x.data.toList ++ 32 :: y.data.toList).drop (x.data.toList.length + 1) = y.data.toList:=by
    have : x.data.toList ++ 32 :: y.data.toList = (x.data.toList ++ [32]) ++ y.data.toList:=by simp
    rw [this]
    exact List.drop_left' (by simp)
  simp only [Int.toNat_natCast,List.length_cons,List.length_nil,Nat.zero_add,e1,e2]
theorem readEndW_some {t : ByteArray} {a p : Int} (h : readEndW t = some (a,p)) : endOkB a p = true ∧ t = etext a p:=by
  unfold readEndW at h
  simp only [Option.bind_eq_some_iff] at h
  obtain ⟨a',h1,p',h2,h3⟩:=h
  by_cases ht : etext a' p' = t
  · rw [if_pos ht] at h3
    cases h3
    refine ⟨?_,ht.symm⟩
    cases hk : endOkB a p with
    | true=>rfl
    | false=>
      unfold etext at ht
      rw [hk] at ht
      rw [← ht,if_neg (by simp)] at h1
      have : atoiO (cutW (⟨#[]⟩ : ByteArray)).1 = none:=by decide
      rw [this] at h1;cases h1
  · rw [if_neg ht] at h3;cases h3
theorem readEndW_of {a p : Int} (h : endOkB a p = true) : readEndW (etext a p) = some (a,p):=by
  have hb:=endOkB_le h
  obtain ⟨m,rfl⟩ : ∃ m : Nat,a = m:=⟨a.toNat,by omega⟩
  obtain ⟨n,rfl⟩ : ∃ n : Nat,p = n:=⟨p.toNat,by omega⟩
  have e : etext (m : Int) n = (numB m ++ (⟨#[32]⟩ : ByteArray)) ++ numB n:=by unfold etext;rw [if_pos h]
  unfold readEndW
  rw [e,cut_at (numB_noBlank m),atoiO_num (by omega),atoiO_num (by omega)]
  simp only [Option.bind_some]
  rw [if_pos e]
theorem etext_join {a p : Int} (h : endOkB a p = true) : etext a p = joinB (numB a) [numB p]:=by
  unfold etext joinB;rw [if_pos h];simp [ByteArray.append_assoc]
theorem etext_words {a p : Int} (h : endOkB a p = true) : wordsB (etext a p) = [numB a,numB p]:=by
  have hb:=endOkB_le h
  obtain ⟨m,rfl⟩ : ∃ m : Nat,a = m:=⟨a.toNat,by omega⟩
  obtain ⟨n,rfl⟩ : ∃ n : Nat,p = n:=⟨p.toNat,by omega⟩
  rw [etext_join h]
  exact words_join _ _ (numB_noBlank m) (by intro x hx;rw [List.mem_singleton.1 hx];exact numB_noBlank n)
theorem numE_same {b : ByteArray} {n x : Int} (h : b = numB n) (h0 : 0 ≤ n) (h1 : n ≤ 999) (hx : NumIs b x) : x = n:=by
  obtain ⟨k,rfl⟩ : ∃ k : Nat,n = k:=⟨n.toNat,by omega⟩
  rcases hx with ⟨m,hm,e,rfl⟩ | ⟨_,hno⟩
  · have:=numB_inj (e.symm.trans h);omega
  · exact absurd h (hno k (by omega))
theorem endW_len {s : ByteArray} (h : (wordsB s).length ≠ 2) : readEndW s = none:=by
  cases hr : readEndW s with
  | none=>rfl
  | some r=>
    obtain ⟨a,p⟩:=r
    obtain ⟨hk,e⟩:=readEndW_some hr
    rw [e,etext_words hk] at h
    exact absurd rfl h
theorem endW_key {s b1 b2 : ByteArray} (hw : wordsB s = [b1,b2]) {x1 x2 : Int} (h1 : NumIs b1 x1) (h2 : NumIs b2 x2) : readEndW s = if endOkB x1 x2 then some (x1,x2) else none:=by
  cases hk : endOkB x1 x2 with
  | true=>
    have hb:=endOkB_le hk
    have q1 : b1 = numB x1:=by
      rcases h1 with ⟨m,hm,e,rfl⟩ | ⟨e,_⟩
      · exact e
      · omega
    have q2 : b2 = numB x2:=by
      rcases h2 with ⟨m,hm,e,rfl⟩ | ⟨e,_⟩
      · exact e
      · omega
    have e : s = etext x1 x2:=by rw [etext_join hk,← q1,← q2];exact (join_words s b1 _ hw).symm
    rw [e]
    exact readEndW_of hk
  | false=>
    cases hr : readEndW s with
    | none=>simp
    | some r=>
      obtain ⟨a,p⟩:=r
      obtain ⟨hk',e⟩:=readEndW_some hr
      have hb:=endOkB_le hk'
      rw [e,etext_words hk'] at hw
      simp only [List.cons.injEq,and_true] at hw
      have g1:=numE_same hw.1.symm (by omega) (by omega) h1
      have g2:=numE_same hw.2.symm (by omega) (by omega) h2
      rw [g1,g2,hk'] at hk
      cases hk
theorem specEndOk_f (a p : Int) : spec_EndOk.f a p = some (endOkB a p):=by
  unfold spec_EndOk.f endOkB
  rw [specEndInside_f,specEndOutside_f,l1In_f]
  unfold endIn endOut
  by_cases h3 : a = 50 <;> cases inB a 1 9 <;> cases inB a 100 109 <;> cases inB p 1 999 <;> simp [h3]
theorem specEndRead_a (s : ByteArray) (hs : s.size ≤ 1048576) : Ans (fun k=>spec_EndRead.f k s) (fun r=>r = match readEndW s with | some (a,p)=>(a,p,true) | none=>(0,0,false)):=by
  unfold spec_EndRead.f
  refine Ans.bind (words_a s hs) ?_
  rintro v rfl
  by_cases h2 : (wordsB s).length = 2
  · obtain ⟨b1,b2,hw⟩ : ∃ b1 b2,wordsB s = [b1,b2]:=by
      generalize wordsB s = l at h2
      match l,h2 with
      | [b1,b2],_=>exact ⟨b1,b2,rfl⟩
    rw [hw]
    refine Ans.pos (by simp) (Ans.pos (by simp) ?_)
    refine Ans.bind (num_a _) ?_
    intro x1 h1
    refine Ans.pos (by simp) (Ans.bind (num_a _) ?_)
    intro x2 h2
    rw [specEndOk_f]
    have hk:=endW_key hw (x1:=x1) (x2:=x2) h1 h2
    refine Ans.bsome ?_
    cases hb : endOkB x1 x2 with
    | true=>rw [hb] at hk;refine Ans.pos rfl (Ans.pure ?_);rw [hk];rfl
    | false=>rw [hb] at hk;refine Ans.neg (by simp) (Ans.pure ?_);rw [hk];rfl
  · refine Ans.neg (by omega) (Ans.pure ?_)
    rw [endW_len h2]
def saysW (s : ByteArray) : Option (Int × Int):=if Lib.hasPrefix s.data.toList portL = true then (match readEndW (trimW s) with | some (a,p)=>if endIn a p then some (a,p) else none | none=>none) else none
def saysT (s : ByteArray) : Int × Int × Bool:=match saysW s with | some (a,p)=>(a,p,true) | none=>(0,0,false)
theorem pre_split (s : ByteArray) : Lib.hasPrefix s.data.toList portL = true ↔ (5 ≤ s.size ∧ (s.extract 0 5).toList = [112,111,114,116,32]):=by
  have hl : s.data.toList.length = s.size:=by rw [Array.length_toList];rfl
  unfold Lib.hasPrefix portL
  rw [List.isPrefixOf_iff_prefix,List.prefix_iff_eq_take]
  rw [ByteArray.toList_eq,Lib.extract_data]
  simp only [List.drop_zero,List.length_cons,List.length_nil]
  constructor
  · intro h
    have:=congrArg List.length h
    simp only [List.length_take,List.length_cons,List.length_nil] at this
    exact ⟨by omega,h.symm⟩
  · rintro ⟨_,h⟩;exact h.symm
theorem trim_extract {s : ByteArray} (h : Lib.hasPrefix s.data.toList portL = true) : s.extract 5 s.size = trimW s:=by
  have hl : s.data.toList.length = s.size:=by rw [Array.length_toList];rfl
  apply ba_ext
  unfold trimW Lib.trimPrefix
  rw [if_pos h,Lib.extract_data]
  simp only [portL,List.length_cons,List.length_nil]
  rw [List.take_of_length_le (by rw [List.length_drop];omega)]
theorem implLinSays_f {s : ByteArray} (hs : s.size ≤ 1048576) : impl_LinSays.f s = some (saysT s):=by
  unfold impl_LinSays.f impl_said.f
  rw [if_pos (by omega),Option.bind_some]
  unfold saysT saysW saidW
  cases hr : readEndW (trimW s) with
  | none=>simp
  | some r=>
    obtain ⟨a,p⟩:=r
    simp only
    cases hp : Lib.hasPrefix s.data.toList portL with
    | false=>simp
    | true=>
      simp only [if_true]
      rw [EndInside_f,Option.bind_some]
      cases hi : endIn a p <;> simp
theorem specLinSays_a (s : ByteArray) (hs : s.size ≤ 1048576) : Ans (fun k=>spec_LinSays.f k s) (fun r=>r = saysT s):=by
  unfold spec_LinSays.f
  have J : ∀ (c : Bool),(c = true → Lib.hasPrefix s.data.toList portL = false) → (c = false → Lib.hasPrefix s.data.toList portL = true) → Ans (fun k=>spec_LinSays.j0 k s c) (fun r=>r = saysT s):=by
    intro c h1 h2
    refine Ans.succ ?_
    unfold spec_LinSays.j0
    cases c with
    | true=>
      refine Ans.pos rfl (Ans.pure ?_)
      unfold saysT saysW
      rw [h1 rfl];rfl
    | false=>
      have hp:=h2 rfl
      have h5:=((pre_split s).mp hp).1
      refine Ans.neg (by simp) (Ans.pos (by omega) ?_)
      rw [trim_extract hp]
      refine Ans.bind (specEndRead_a (trimW s) (Nat.le_trans (trim_size s) hs)) ?_
      rintro v rfl
      unfold saysT saysW
      rw [if_pos hp]
      cases hr : readEndW (trimW s) with
      | none=>exact Ans.neg (by simp) (Ans.pure rfl)
      | some r=>
        obtain ⟨a,p⟩:=r
        simp only
        rw [specEndInside_f]
        cases hi : endIn a p with
        | true=>exact Ans.pos (by simp) (Ans.bsome (Ans.pos rfl (Ans.pure (by simp [hi]))))
        | false=>exact Ans.pos (by simp) (Ans.bsome (Ans.neg (by simp) (Ans.pure (by simp [hi]))))
  refine Ans.ite (fun h=>?_) (fun h=>?_)
  · refine J true (fun _=>?_) (fun h=>by cases h)
    cases hp : Lib.hasPrefix s.data.toList portL with
    | false=>rfl
    | true=>have:=((pre_split s).mp hp).1;omega
  · refine Ans.pos (by omega) (Ans.pos (by omega) (J _ (fun hc=>?_) (fun hc=>?_)))
    · cases hp : Lib.hasPrefix s.data.toList portL with
      | false=>rfl
      | true=>rw [((pre_split s).mp hp).2] at hc;simp at hc
    · exact (pre_split s).mpr ⟨by omega,bne_eq_false_iff_eq.mp hc⟩
def lportW (a p : Int) : ByteArray:=if endOkB a p then (⟨#[112,111,114,116,32]⟩ : ByteArray) ++ etext a p else ⟨#[]⟩
theorem etext_size (a p : Int) : (etext a p).size ≤ 7:=by
  unfold etext
  cases hk : endOkB a p with
  | false=>exact Nat.zero_le _
  | true=>
    have hb:=endOkB_le hk
    have h1:=numB_size (n:=a) (by omega) (by omega)
    have h2:=numB_size (n:=p) (by omega) (by omega)
    have h3 : ((⟨#[32]⟩ : ByteArray)).size = 1:=rfl
    simp only [if_true,ByteArray.size_append]
    omega
theorem implLinPort_f (a p : Int) : impl_LinPort.f a p = some (lportW a p):=by
  unfold impl_LinPort.f lportW
  rw [EndOk_f,Option.bind_some]
  have hz:=etext_size a p
  cases hk : endOkB a p with
  | false=>simp
  | true=>
    simp only [if_true]
    rw [EndText_f,Option.bind_some,if_pos (by omega)]
theorem specEndText_a (a p : Int) : Ans (fun k=>spec_EndText.f k a p) (fun r=>r = etext a p):=by
  unfold spec_EndText.f etext
  rw [specEndOk_f]
  refine Ans.bsome ?_
  cases hk : endOkB a p with
  | false=>exact Ans.neg (by simp) (Ans.pure (by simp))
  | true=>
    have hb:=endOkB_le hk
    obtain ⟨m,rfl⟩ : ∃ m : Nat,a = m:=⟨a.toNat,by omega⟩
    obtain ⟨n,rfl⟩ : ∃ n : Nat,p = n:=⟨p.toNat,by omega⟩
    have h1:=numB_size (n:=(m : Int)) (by omega) (by omega)
    have h2:=numB_size (n:=(n : Int)) (by omega) (by omega)
    have h3 : ((⟨#[32]⟩ : ByteArray)).size = 1:=rfl
    refine Ans.pos rfl (Ans.bind (plain_a (n:=m) (by omega)) ?_)
    rintro v rfl
    refine Ans.pos (by omega) (Ans.bind (plain_a (n:=n) (by omega)) ?_)
    rintro v rfl
    exact Ans.pos (by rw [ByteArray.size_append];omega) (Ans.pure (by simp))
theorem specLinPort_a (a p : Int) : Ans (fun k=>spec_LinPort.f k a p) (fun r=>r = lportW a p):=by
  unfold spec_LinPort.f lportW
  rw [specEndOk_f]
  refine Ans.bsome ?_
  have hz:=etext_size a p
  cases hk : endOkB a p with
  | false=>exact Ans.neg (by simp) (Ans.pure (by simp))
  | true=>
    refine Ans.pos rfl (Ans.bind (specEndText_a a p) ?_)
    rintro v rfl
    exact Ans.pos (by omega) (Ans.pure (by simp))
def noneB : ByteArray:=⟨#[110,111,110,101]⟩
def lineW (l : List S55) (s : ByteArray) : List S55 × ByteArray:=match saysW s with
  | none=>(l,s)
  | some (a,p)=>if (putV l a p).2 = 0 then ((putV l a p).1,noneB) else ((putV l a p).1,lportW 50 (putV l a p).2)
theorem saysW_in {s : ByteArray} {a p : Int} (h : saysW s = some (a,p)) : endIn a p = true:=by
  unfold saysW at h
  cases hp : Lib.hasPrefix s.data.toList portL with
  | false=>rw [hp] at h;simp at h
  | true=>
    rw [hp] at h
    simp only [if_true] at h
    cases hr : readEndW (trimW s) with
    | none=>rw [hr] at h;cases h
    | some r=>
      obtain ⟨a',p'⟩:=r
      rw [hr] at h
      simp only at h
      cases hi : endIn a' p' with
      | false=>rw [hi] at h;simp at h
      | true=>rw [hi] at h;simp at h;obtain ⟨rfl,rfl⟩:=h;exact hi
theorem implGoesOut_f {l : List S55} (c : okT l = true) {s : ByteArray} (hs : s.size ≤ 1048576) : impl_MapTab_goesOut.f l s = some (lineW l s):=by
  have hl:=okT_le c
  unfold impl_MapTab_goesOut.f
  rw [implLinSays_f hs,Option.bind_some]
  unfold saysT lineW
  cases hr : saysW s with
  | none=>
    simp only
    have e : impl_MapTab_copied.f l = some l:=by
      unfold impl_MapTab_copied.f impl_EndPoint_103.f impl_EndPoint_102.f
      rw [if_pos (by omega)];rfl
    rw [e]
    simp
  | some r=>
    obtain ⟨a,p⟩:=r
    simp only
    rw [implPut_f c (saysW_in hr),Option.bind_some]
    simp only [if_true]
    by_cases h0 : (putV l a p).2 = 0
    · simp [h0,noneB]
    · simp only [h0,if_false]
      rw [implLinPort_f,Option.bind_some]
theorem specLine_a {l : List S55} (hl : l.length ≤ 2000000) {s : ByteArray} (hs : s.size ≤ 1048576) : Ans (fun k=>spec_l3Line.f k l s) (fun r=>r = lineW l s):=by
  unfold spec_l3Line.f
  refine Ans.bind (specLinSays_a s hs) ?_
  rintro v rfl
  unfold saysT lineW
  cases hr : saysW s with
  | none=>exact Ans.neg (by simp) (Ans.pure rfl)
  | some r=>
    obtain ⟨a,p⟩:=r
    simp only
    refine Ans.pos (by simp) (Ans.bind (l3Put_a l hl a p) ?_)
    rintro v rfl
    refine Ans.ite (fun h=>Ans.pure ?_) (fun h=>?_)
    · simp [h,noneB]
    · refine Ans.bind (specLinPort_a 50 (putV l a p).2) ?_
      rintro v rfl
      exact Ans.pure (by simp [h])
theorem specLinOk_a (s : ByteArray) : Ans (fun k=>spec_LinOk.f k s) (fun r=>r = linOk s):=by
  have hb : ∀ b : Int,spec_l2Byte.f b = some (lb b):=by
    intro b
    unfold spec_l2Byte.f lb
    by_cases h1 : 97 ≤ b <;> by_cases h2 : b ≤ 122 <;> by_cases h3 : 48 ≤ b <;> by_cases h4 : b ≤ 57 <;> simp [h1,h2,h3,h4]
  have L : s.size ≤ 16 → ∀ (m i : Nat),s.size - i = m → i ≤ s.size → Ans (fun k=>spec_LinOk.l0 k s i) (fun r=>r = ((bys s).drop i).all lb):=by
    intro hs m
    induction m with
    | zero=>
      intro i hm hi
      refine Ans.succ ?_
      unfold spec_LinOk.l0
      refine Ans.neg (by omega) (Ans.pure ?_)
      have hl : (bys s).length = s.size:=by unfold bys;rw [List.length_map];exact len_size s
      rw [List.drop_eq_nil_of_le (by omega)];rfl
    | succ m ih=>
      intro i hm hi
      have hlt : i < s.size:=by omega
      have hl : (bys s).length = s.size:=by unfold bys;rw [List.length_map];exact len_size s
      have hw : wrap64 ((i : Int) + 1) = ((i + 1 : Nat) : Int):=w64 _ (by omega)
      have hd : (bys s).drop i = (bys s)[i]'(by omega) :: (bys s).drop (i + 1):=List.drop_eq_getElem_cons (by omega)
      have hbt : bt s i = (bys s)[i]'(by omega):=by rw [bt_get s i hlt];simp [bys]
      refine Ans.succ ?_
      unfold spec_LinOk.l0
      refine Ans.pos (by omega) (Ans.pos (by omega) ?_)
      rw [hbt,hb,hw]
      refine Ans.bsome ?_
      cases hq : lb ((bys s)[i]'(by omega)) with
      | true=>exact Ans.pos rfl ((ih (i + 1) (by omega) (by omega)).mono (by rintro v rfl;rw [hd,List.all_cons,hq,Bool.true_and]))
      | false=>exact Ans.neg (by simp) (Ans.pure (by rw [hd,List.all_cons,hq,Bool.false_and]))
  unfold spec_LinOk.f linOk
  refine Ans.ite (fun h=>Ans.pure ?_) (fun h=>?_)
  · have : ¬ s.size ≤ 16:=by omega
    simp [this]
  · have hs : s.size ≤ 16:=by omega
    refine (L hs _ 0 rfl (Nat.zero_le _)).mono ?_
    rintro v rfl
    simp [hs]
theorem linOk_size {s : ByteArray} (h : linOk s = true) : s.size ≤ 16:=by
  unfold linOk at h;simp at h;exact h.2
theorem bent_tail (b y : ByteArray) (ys : y.size = 1) (k' : Nat) (hk : k' ≤ b.size) (hb : b.size ≤ 100000) (v4 s4 B : Int) (h5 : At B s4) :
    Ans (fun (_ : Nat)=>(if v4 = 0 then (if 0 ≤ (k' : Int) then (if (k' : Int) ≤ (b.size : Int) then (if (b.extract 0 ((k' : Int)).toNat).size + y.size ≤ 9223372036854775807 then (if ((b.extract 0 ((k' : Int)).toNat) ++ y).size + (b.extract ((k' : Int)).toNat b.size).size ≤ 9223372036854775807 then (some (((b.extract 0 ((k' : Int)).toNat) ++ y) ++ (b.extract ((k' : Int)).toNat b.size),s4)) else (none)) else (none)) else (none)) else (none)) else (if v4 = 1 then (if (k' : Int) < (b.size : Int) then (if 0 ≤ (k' : Int) then (if (k' : Int) ≤ (b.size : Int) then (if 0 ≤ (wrap64 ((k' : Int) + 1)) then (if (wrap64 ((k' : Int) + 1)) ≤ (b.size : Int) then (if (b.extract 0 ((k' : Int)).toNat).size + (b.extract ((wrap64 ((k' : Int) + 1)) : Int).toNat b.size).size ≤ 9223372036854775807 then (some ((b.extract 0 ((k' : Int)).toNat) ++ (b.extract ((wrap64 ((k' : Int) + 1)) : Int).toNat b.size),s4)) else (none)) else (none)) else (none)) else (none)) else (none)) else (some (b,s4))) else (if (k' : Int) < (b.size : Int) then (if 0 ≤ (k' : Int) then (if (k' : Int) ≤ (b.size : Int) then (if (b.extract 0 ((k' : Int)).toNat).size + y.size ≤ 9223372036854775807 then (if 0 ≤ (wrap64 ((k' : Int) + 1)) then (if (wrap64 ((k' : Int) + 1)) ≤ (b.size : Int) then (if ((b.extract 0 ((k' : Int)).toNat) ++ y).size + (b.extract ((wrap64 ((k' : Int) + 1)) : Int).toNat b.size).size ≤ 9223372036854775807 then (some (((b.extract 0 ((k' : Int)).toNat) ++ y) ++ (b.extract ((wrap64 ((k' : Int) + 1)) : Int).toNat b.size),s4)) else (none)) else (none)) else (none)) else (none)) else (none)) else (none)) else (some (b,s4)))))) (fun r=>At B r.2 ∧ r.1.size ≤ b.size + 1):=by
  have z1 : (b.extract 0 ((k' : Int)).toNat).size = k':=by rw [ByteArray.size_extract];simp only [Int.toNat_natCast];omega
  have z2 : (b.extract ((k' : Int)).toNat b.size).size = b.size - k':=by rw [ByteArray.size_extract];simp only [Int.toNat_natCast];omega
  have ek : wrap64 ((k' : Int) + 1) = ((k' + 1 : Nat) : Int):=w64 _ (by omega)
  have z3 : (b.extract (((k' + 1 : Nat) : Int)).toNat b.size).size = b.size - (k' + 1):=by rw [ByteArray.size_extract];simp only [Int.toNat_natCast];omega
  rw [ek]
  refine Ans.ite (fun c=>?_) (fun c=>?_)
  · refine Ans.pos (by omega) (Ans.pos (by omega) (Ans.pos (by rw [z1,ys];omega) (Ans.pos (by rw [ByteArray.size_append,z1,z2,ys];omega) (Ans.pure ⟨h5,?_⟩))))
    simp only [ByteArray.size_append,z1,z2,ys];omega
  · refine Ans.ite (fun c1=>?_) (fun c1=>?_)
    · refine Ans.ite (fun c2=>?_) (fun c2=>Ans.pure ⟨h5,by dsimp only;omega⟩)
      refine Ans.pos (by omega) (Ans.pos (by omega) (Ans.pos (by omega) (Ans.pos (by omega) (Ans.pos (by rw [z1,z3];omega) (Ans.pure ⟨h5,?_⟩)))))
      simp only [ByteArray.size_append,z1,z3];omega
    · refine Ans.ite (fun c2=>?_) (fun c2=>Ans.pure ⟨h5,by dsimp only;omega⟩)
      refine Ans.pos (by omega) (Ans.pos (by omega) (Ans.pos (by rw [z1,ys];omega) (Ans.pos (by omega) (Ans.pos (by omega) (Ans.pos (by rw [ByteArray.size_append,z1,z3,ys];omega) (Ans.pure ⟨h5,?_⟩))))))
      simp only [ByteArray.size_append,z1,z3,ys];omega
theorem bent_a {l : List Int} (hl : Bys l) {s B : Int} (hs : At B s) (hB : B < 400000) (b : ByteArray) (hb : b.size ≤ 100000) :
    Ans (fun k=>spec_l20Bent.f k l s b) (fun r=>At (B + 4) r.2 ∧ r.1.size ≤ b.size + 1):=by
  unfold spec_l20Bent.f
  have ew : wrap64 ((b.size : Int) + 1) = (b.size : Int) + 1:=w64 _ (by omega)
  rw [ew]
  refine Ans.bind (pick_a hl hs (by omega) _) ?_
  rintro ⟨k,s1⟩ ⟨h1,p1⟩
  refine Ans.bind (pick_a hl h1 (by omega) 256) ?_
  rintro ⟨v2,s2⟩ ⟨h2,p2⟩
  dsimp only at *
  simp only [Option.bind_some]
  refine Ans.bind (pick_a hl h2 (by omega) 8) ?_
  rintro ⟨v3,s3⟩ ⟨h3,p3⟩
  dsimp only at *
  refine Ans.pos p3.1 (Ans.pos (by simp;omega) ?_)
  refine Ans.bind (pick_a hl h3 (by omega) 3) ?_
  rintro ⟨v4,s4⟩ ⟨h4,p4⟩
  dsimp only at *
  have hk0 : 0 ≤ k ∧ k ≤ (b.size : Int):=by clear p2 p3 p4 h1 h2 h3 h4;omega
  have h5 : At (B + 4) s4:=at_le h4 (by omega)
  clear p1 p2 p3 p4 h1 h2 h3 h4 hs hl ew
  obtain ⟨k',rfl⟩ : ∃ k' : Nat,k = k':=⟨k.toNat,by omega⟩
  generalize hy : strOfNums [rd [32,48,49,57,59,97,112,v2] v3 % 256] = y
  have ys : y.size = 1:=by rw [← hy,strOfNums_size];rfl
  clear hy
  exact bent_tail b y ys k' (by omega) hb v4 s4 _ h5
theorem at0 : At 0 0:=⟨by omega,by omega⟩
theorem lportW_size (a p : Int) : (lportW a p).size ≤ 12:=by
  have hz:=etext_size a p
  have h5 : ((⟨#[112,111,114,116,32]⟩ : ByteArray)).size = 5:=rfl
  unfold lportW
  split
  · rw [ByteArray.size_append];omega
  · exact Nat.zero_le _
theorem rdOf_size {l : List ByteArray} {m : Nat} (h : ∀ x ∈ l,x.size ≤ m) (i : Int) : (rdOf ByteArray.empty l i).size ≤ m:=by
  unfold rdOf
  by_cases hi : i.toNat < l.length
  · have e : l.getD i.toNat ByteArray.empty = l[i.toNat]:=by simp [List.getD,hi]
    rw [e];exact h _ (List.getElem_mem hi)
  · have e : l.getD i.toNat ByteArray.empty = ByteArray.empty:=by simp [List.getD,Nat.not_lt.mp hi]
    rw [e];exact Nat.zero_le _
theorem line_a {l : List Int} (hl : Bys l) {s B : Int} (hs : At B s) (hB : B < 400000) :
    Ans (fun k=>spec_l20Line.f k l s) (fun r=>At (B + 4) r.2 ∧ r.1.size ≤ 20):=by
  unfold spec_l20Line.f
  refine Ans.bind (pick_a hl hs (by omega) 3) ?_
  rintro ⟨v1,s1⟩ ⟨h1,p1⟩
  dsimp only at *
  refine Ans.ite (fun _=>?_) (fun _=>Ans.ite (fun _=>?_) (fun _=>?_))
  · refine Ans.bind (in_a hl h1 (by omega)) ?_
    rintro ⟨a,p,s2⟩ ⟨h2,_⟩
    dsimp only at *
    refine Ans.bind (specLinPort_a a p) ?_
    rintro _ rfl
    have:=lportW_size a p
    exact Ans.pure ⟨at_le h2 (by omega),by dsimp only;omega⟩
  · refine Ans.bsome ?_
    refine Ans.bind (pick_a hl h1 (by omega) 10) ?_
    rintro ⟨v3,s3⟩ ⟨h3,p3⟩
    dsimp only at *
    refine Ans.pos p3.1 (Ans.pos (by simp;omega) (Ans.pure ⟨at_le h3 (by omega),?_⟩))
    exact rdOf_size (by decide) _
  · refine Ans.bsome ?_
    refine Ans.bind (pick_a hl h1 (by omega) 4) ?_
    rintro ⟨v3,s3⟩ ⟨h3,p3⟩
    dsimp only at *
    refine Ans.pos p3.1 (Ans.pos (by simp;omega) (Ans.pure ⟨at_le h3 (by omega),?_⟩))
    exact rdOf_size (by decide) _
end Go.Proofs.YtakfmcpjnkagmaaGreatDoor.P
