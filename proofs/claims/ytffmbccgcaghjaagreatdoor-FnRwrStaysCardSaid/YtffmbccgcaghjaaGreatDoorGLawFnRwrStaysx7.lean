import Derived.Test.YtffmbccgcaghjaaGreatDoorGLawFnRwrStaysx6
namespace Go.Proofs.YtffmbccgcaghjaaGreatDoor.P
open Go.Proofs.YtffmbccgcaghjaaGreatDoorUFnRwrStays.PrintLast Go.Proofs.YtffmbccgcaghjaaGreatDoorUFnRwrStays.PrintMore Go.Proofs.YtffmbccgcaghjaaGreatDoorUFnRwrStays.PrintWords Go.RowKit
set_option linter.unusedVariables false
set_option linter.unusedSimpArgs false
section
attribute [local go_sem] max2_int min2_int max_two min_two max_three min_three max_four min_four
def spec_DrawRwrLine.f (k : Nat) (l0 : List Int) : Option ((List (S34)) × ByteArray):=(spec_l20Open.f l0).bind fun bt268=>((spec_l20Table.f k bt268.1 bt268.2 12).bind fun bt271=>((spec_l20Line.f k bt268.1 bt271.2).bind fun bt276=>((spec_l20Rd_odd.f k bt268.1 bt276.2 9).bind fun bt278=>(if bt278.1 = true then ((spec_l20Bent.f k bt268.1 bt278.2 bt276.1).bind fun bt280=>(some (bt271.1,bt280.1))) else (some (bt271.1,bt276.1))))))
theorem spec_DrawRwrLine.mono : ∀ a0 k,LeO (spec_DrawRwrLine.f k a0) (spec_DrawRwrLine.f (k + 1) a0):=by
 intro a0 k
 unfold spec_DrawRwrLine.f
 repeat' first | (with_reducible first | exact spec_l20Bent.mono _ _ _ _ | exact spec_l20Line.mono _ _ _ | exact spec_l20Rd_odd.mono _ _ _ _ | exact spec_l20Table.mono _ _ _ _ | exact LeO.refl _ | exact LeO.none _ | refine LeO.ite ?_ ?_ | refine LeO.bind ?_ (fun _=>?_)) | exact spec_l20Bent.mono _ _ _ _ | exact spec_l20Line.mono _ _ _ | exact spec_l20Rd_odd.mono _ _ _ _ | exact spec_l20Table.mono _ _ _ _ | exact LeO.none _ | refine LeO.ite ?_ ?_ | refine LeO.bind ?_ (fun _=>?_)
set_option maxHeartbeats 8000000 in
set_option maxRecDepth 100000 in
theorem spec_DrawRwrLine.calls (k : Nat) (A0 : Option Addr) (c0 : Nat) (l0 : List Int) (r1 : List (S34)) (r2 : ByteArray) (w : World) (hr0 : Kd.C (Kd.int .u8) w A0 l0.length l0) (hc0 : l0.length ≤ c0) (h : spec_DrawRwrLine.f k l0 = some (r1,r2)) :
  Calls Tryz.prog 12 #[.slice A0 l0.length c0] w fun e w'=>∃ v0_ : Value,e = .returned (.tuple #[.agg #[v0_],.string r2]) ∧ Kd.R k34 34 w' w.heap.size (fun _=>True) v0_ r1 ∧ Below w.heap.size w w':=by
 have hu25:=Tryz.underlying25
 have HR0:=am hr0
 have HC0:=am hc0
 clear hr0 hc0
 have HB:=am (Below.refl w.heap.size w)
 have H : ((spec_l20Open.f l0).bind fun bt268=>((spec_l20Table.f k bt268.1 bt268.2 12).bind fun bt271=>((spec_l20Line.f k bt268.1 bt271.2).bind fun bt276=>((spec_l20Rd_odd.f k bt268.1 bt276.2 9).bind fun bt278=>(if bt278.1 = true then ((spec_l20Bent.f k bt268.1 bt278.2 bt276.1).bind fun bt280=>(some (bt271.1,bt280.1))) else (some (bt271.1,bt276.1))))))) = some (r1,r2):=h
 clear h
 obtain ⟨⟨t268,t269⟩,A2,H⟩:=bse H
 try dsimp only at H
 obtain ⟨⟨t271,t274⟩,A3,H⟩:=bse H
 try dsimp only at H
 obtain ⟨⟨t276,t277⟩,A4,H⟩:=bse H
 try dsimp only at H
 obtain ⟨⟨t278,t279⟩,A5,H⟩:=bse H
 try dsimp only at H
 by_cases c6 : t278 = true
 ·subst c6
  have H1 : ((spec_l20Bent.f k t268 t279 t276).bind fun bt280=>(some (t271,bt280.1))) = some (r1,r2):=by rw [if_pos rfl] at H;exact H
  clear H
  have H:=H1
  clear H1
  obtain ⟨⟨t280,t281⟩,A7,H⟩:=bse H
  try dsimp only at H
  simp only [Option.some.injEq,Prod.mk.injEq] at H
  obtain ⟨rfl,rfl⟩:=H
  go_enter Tryz.func12,Tryz.ntmps12
  go_wp2_with (first | ((with_reducible refine gD 2 rfl ?_);refine box_event rfl (N:=2) rfl (cs:=#[.slice none 0 0]) (t:=25) hr_ ?_;intro gb267 hg w8 hbox hb;have BK267:=am hbox;have GW267:=gwE HB hg;have GE267:=gwE HB hg;replace HB:=hbS HB hb;clear hb hbox hg) | ((with_reducible refine gC 40 rfl ?_);refine gL (some 8) Tryz.func40 #[.slice A0 l0.length c0] ?_;(with_reducible refine (spec_l20Open.calls _ _ l0 t268 t269 w _ ?side1 ?side2 ?side3 A2.out).mono ?_);(case side1=>exact m2_);(case side2=>exact HR0.out);(case side3=>exact HC0.out);rintro e w9 ⟨g270,rfl,hi,hb,hb2⟩;refine ⟨_,rfl,?_⟩;replace HB:=am hb;have HI270:=am hi;have NB270_267:=am (IsS84.ne_blk hi (blk_below (g:=gb267) (o:=.cells #[.slice none 0 0] 25 (0,0)) (bk BK267) hb2) (by decide));have NB267_270:=am (Ne.symm (IsS84.ne_blk hi (blk_below (g:=gb267) (o:=.cells #[.slice none 0 0] 25 (0,0)) (bk BK267) hb2) (by decide)));replace BK267:=am (blk_below (g:=gb267) (o:=.cells #[.slice none 0 0] 25 (0,0)) (bk BK267) hb2);(try clear hb);(try clear hb2);(try clear hi)) | ((with_reducible refine gC 41 rfl ?_);refine gL (some 10) Tryz.func41 #[.pointer (some ⟨g270,0,none⟩),.int .i64 12] ?_;(with_reducible refine (spec_l20Table.calls k g270 t268 t269 12 t271 t274 w _ ?side1 ?side2 A3.out).mono ?_);(case side1=>exact m6_);(case side2=>exact m7_);rintro e w10 ⟨v272,rfl,ho0,hi,hb,hk⟩;refine ⟨_,rfl,?_⟩;replace BK267:=am (KeepBut.blk hk (g':=gb267) (o:=.cells #[.slice none 0 0] 25 (0,0)) (bk BK267) NB267_270.out (by simp));have HO273:=am (Kd.R_lower ho0 (below_size m7_));replace HB:=am hb;replace HI270:=am hi;(try clear hb);(try clear hk);(try clear hi);(try clear ho0)) | ((with_reducible refine gD 5 rfl ?_);refine box_event rfl (N:=5) rfl (cs:=#[.slice none 0 0]) (t:=25) hr_ ?_;intro gb275 hg w11 hbox hb;replace HO273:=am (Kd.R_below (rs HO273) hb);have BK275:=am hbox;have GW275:=am ((by rw [hg];exact (below_size m7_) : w.heap.size ≤ gb275));have GE275:=am ((by rw [hg];exact (below_size m7_) : w.heap.size ≤ gb275));replace HB:=am (below_step m7_ hb);have NB267_275:=neL BK267 hg;have NB275_267:=neG BK267 hg;replace BK267:=bkB BK267 hb;have NB270_275:=am ((by rw [hg];exact Nat.ne_of_lt (IsS84.lt (show IsS84 w _ g270 t268 t274 from m6_)) : g270 ≠ gb275));have NB275_270:=am ((by rw [hg];exact Nat.ne_of_gt (IsS84.lt (show IsS84 w _ g270 t268 t274 from m6_)) : gb275 ≠ g270));replace HI270:=am (IsS84.below m6_ hb);clear hb hbox hg;obtain ⟨Ao12,co12,eo12⟩:=Kd.R_slice HO273.out;subst eo12;have:=NB275_267.out;have:=NB267_275.out;have:=NB275_270.out;have:=NB270_275.out;have:=bcell BK275 0;have:=bfz BK275 0) | ((with_reducible refine gC 42 rfl ?_);refine gL (some 12) Tryz.func42 #[.pointer (some ⟨g270,0,none⟩)] ?_;(with_reducible refine (spec_l20Line.calls k g270 t268 t274 t276 t277 w _ ?side1 ?side2 A4.out).mono ?_);(case side1=>exact m6_);(case side2=>exact m7_);rintro e w16 ⟨rfl,hi,hb,hk⟩;refine ⟨_,rfl,?_⟩;replace BK267:=am (KeepBut.blk hk (g':=gb267) (o:=.cells #[.slice none 0 0] 25 (0,0)) (by (with_reducible repeat refine bu ?_);refine blk_far ?_ NB267_275.out _;(with_reducible repeat refine bu ?_);exact BK267.out) NB267_270.out (by simp));replace HO273:=am (Kd.R_mono (Kd.R_keep (IsS84.apart (show IsS84 w _ g270 t268 t274 from m6_) (by (with_reducible repeat apply ru);exact (Kd.R_mono (Kd.R_far (p:=⟨gb275,0,none⟩) (Kd.R_types HO273.out BK275.out (by decide)) (fun _ hk=>hk.2) (.slice Ao12 t271.length co12)) (fun _ h_=>h_.1))) (by decide)) hk (fun _ h=>h.2)) (fun _ h=>h.1));replace BK275:=am (KeepBut.blk hk (g':=gb275) (o:=.cells #[.slice Ao12 t271.length co12] 25 (0,0)) (by (with_reducible repeat refine bu ?_);refine blk_put (cs:=#[.slice none 0 0]) ?_ 0 _ rfl;(with_reducible repeat refine bu ?_);exact BK275.out) NB275_270.out (by simp));replace HB:=am hb;replace HI270:=am hi;(try clear hb);(try clear hk);(try clear hi)) | ((with_reducible refine gC 43 rfl ?_);refine gL (some 14) Tryz.func43 #[.pointer (some ⟨g270,0,none⟩),.int .i64 9] ?_;(with_reducible refine (spec_l20Rd_odd.calls k g270 t268 t277 9 true t279 w _ ?side1 ?side2 A5.out).mono ?_);(case side1=>exact m6_);(case side2=>exact m7_);rintro e w17 ⟨rfl,hi,hb,hk⟩;refine ⟨_,rfl,?_⟩;replace BK267:=am (KeepBut.blk hk (g':=gb267) (o:=.cells #[.slice none 0 0] 25 (0,0)) (bk BK267) NB267_270.out (by simp));replace HO273:=am (Kd.R_mono (Kd.R_keep (IsS84.apart (show IsS84 w _ g270 t268 t277 from m6_) (rs HO273) (by decide)) hk (fun _ h=>h.2)) (fun _ h=>h.1));replace BK275:=am (KeepBut.blk hk (g':=gb275) (o:=.cells #[.slice Ao12 t271.length co12] 25 (0,0)) (bk BK275) NB275_270.out (by simp));replace HB:=am hb;replace HI270:=am hi;(try clear hb);(try clear hk);(try clear hi)) | ((with_reducible refine gC 44 rfl ?_);refine gL (some 17) Tryz.func44 #[.pointer (some ⟨g270,0,none⟩),.string t276] ?_;(with_reducible refine (spec_l20Bent.calls k g270 t268 t279 t276 t280 t281 w _ ?side1 ?side2 A7.out).mono ?_);(case side1=>exact m6_);(case side2=>exact m7_);rintro e w18 ⟨rfl,hi,hb,hk⟩;refine ⟨_,rfl,?_⟩;replace BK267:=am (KeepBut.blk hk (g':=gb267) (o:=.cells #[.slice none 0 0] 25 (0,0)) (bk BK267) NB267_270.out (by simp));replace HO273:=am (Kd.R_mono (Kd.R_keep (IsS84.apart (show IsS84 w _ g270 t268 t279 from m6_) (rs HO273) (by decide)) hk (fun _ h=>h.2)) (fun _ h=>h.1));replace BK275:=am (KeepBut.blk hk (g':=gb275) (o:=.cells #[.slice Ao12 t271.length co12] 25 (0,0)) (bk BK275) NB275_270.out (by simp));replace HB:=am hb;replace HI270:=am hi;(try clear hb);(try clear hk);(try clear hi);have:=bcell BK275 0;have:=bfz BK275 0;have:=NB267_270.out;have:=NB270_267.out;have:=bcell BK267 0;have:=bfz BK267 0))
  refine bodyPost_ret (results_ct rfl _ _ gb267 25 #[.slice Ao12 t271.length co12] (0,0) _ rfl (by (with_reducible repeat refine bu ?_);refine blk_put (cs:=#[.slice none 0 0]) ?_ 0 _ rfl;(with_reducible repeat refine bu ?_);exact BK267.out) Tryz.underlying25 rfl (by kernel_rfl)) rfl ?_
  exact ⟨_,fi_,by (with_reducible repeat apply ru);exact Kd.R_mono (Kd.R_far (p:=⟨gb267,0,none⟩) (Kd.R_types HO273.out BK267.out (by decide)) (fun _ hk=>hk.2) (.slice Ao12 t271.length co12)) (fun _ hk=>trivial),m7_⟩
 ·replace c6:=Bool.eq_false_iff.mpr c6
  subst c6
  have H1 : (some (t271,t276)) = some (r1,r2):=by rw [if_neg (show ¬ (false = true) by decide)] at H;exact H
  clear H
  have H:=H1
  clear H1
  simp only [Option.some.injEq,Prod.mk.injEq] at H
  obtain ⟨rfl,rfl⟩:=H
  go_enter Tryz.func12,Tryz.ntmps12
  go_wp2_with (first | ((with_reducible refine gD 2 rfl ?_);refine box_event rfl (N:=2) rfl (cs:=#[.slice none 0 0]) (t:=25) hr_ ?_;intro gb267 hg w22 hbox hb;have BK267:=am hbox;have GW267:=gwE HB hg;have GE267:=gwE HB hg;replace HB:=hbS HB hb;clear hb hbox hg) | ((with_reducible refine gC 40 rfl ?_);refine gL (some 8) Tryz.func40 #[.slice A0 l0.length c0] ?_;(with_reducible refine (spec_l20Open.calls _ _ l0 t268 t269 w _ ?side1 ?side2 ?side3 A2.out).mono ?_);(case side1=>exact m2_);(case side2=>exact HR0.out);(case side3=>exact HC0.out);rintro e w23 ⟨g270,rfl,hi,hb,hb2⟩;refine ⟨_,rfl,?_⟩;replace HB:=am hb;have HI270:=am hi;have NB270_267:=am (IsS84.ne_blk hi (blk_below (g:=gb267) (o:=.cells #[.slice none 0 0] 25 (0,0)) (bk BK267) hb2) (by decide));have NB267_270:=am (Ne.symm (IsS84.ne_blk hi (blk_below (g:=gb267) (o:=.cells #[.slice none 0 0] 25 (0,0)) (bk BK267) hb2) (by decide)));replace BK267:=am (blk_below (g:=gb267) (o:=.cells #[.slice none 0 0] 25 (0,0)) (bk BK267) hb2);(try clear hb);(try clear hb2);(try clear hi)) | ((with_reducible refine gC 41 rfl ?_);refine gL (some 10) Tryz.func41 #[.pointer (some ⟨g270,0,none⟩),.int .i64 12] ?_;(with_reducible refine (spec_l20Table.calls k g270 t268 t269 12 t271 t274 w _ ?side1 ?side2 A3.out).mono ?_);(case side1=>exact m6_);(case side2=>exact m7_);rintro e w24 ⟨v272,rfl,ho0,hi,hb,hk⟩;refine ⟨_,rfl,?_⟩;replace BK267:=am (KeepBut.blk hk (g':=gb267) (o:=.cells #[.slice none 0 0] 25 (0,0)) (bk BK267) NB267_270.out (by simp));have HO273:=am (Kd.R_lower ho0 (below_size m7_));replace HB:=am hb;replace HI270:=am hi;(try clear hb);(try clear hk);(try clear hi);(try clear ho0)) | ((with_reducible refine gD 5 rfl ?_);refine box_event rfl (N:=5) rfl (cs:=#[.slice none 0 0]) (t:=25) hr_ ?_;intro gb275 hg w25 hbox hb;replace HO273:=am (Kd.R_below (rs HO273) hb);have BK275:=am hbox;have GW275:=am ((by rw [hg];exact (below_size m7_) : w.heap.size ≤ gb275));have GE275:=am ((by rw [hg];exact (below_size m7_) : w.heap.size ≤ gb275));replace HB:=am (below_step m7_ hb);have NB267_275:=neL BK267 hg;have NB275_267:=neG BK267 hg;replace BK267:=bkB BK267 hb;have NB270_275:=am ((by rw [hg];exact Nat.ne_of_lt (IsS84.lt (show IsS84 w _ g270 t268 t274 from m6_)) : g270 ≠ gb275));have NB275_270:=am ((by rw [hg];exact Nat.ne_of_gt (IsS84.lt (show IsS84 w _ g270 t268 t274 from m6_)) : gb275 ≠ g270));replace HI270:=am (IsS84.below m6_ hb);clear hb hbox hg;obtain ⟨Ao26,co26,eo26⟩:=Kd.R_slice HO273.out;subst eo26;have:=NB275_267.out;have:=NB267_275.out;have:=NB275_270.out;have:=NB270_275.out;have:=bcell BK275 0;have:=bfz BK275 0) | ((with_reducible refine gC 42 rfl ?_);refine gL (some 12) Tryz.func42 #[.pointer (some ⟨g270,0,none⟩)] ?_;(with_reducible refine (spec_l20Line.calls k g270 t268 t274 t276 t277 w _ ?side1 ?side2 A4.out).mono ?_);(case side1=>exact m6_);(case side2=>exact m7_);rintro e w30 ⟨rfl,hi,hb,hk⟩;refine ⟨_,rfl,?_⟩;replace BK267:=am (KeepBut.blk hk (g':=gb267) (o:=.cells #[.slice none 0 0] 25 (0,0)) (by (with_reducible repeat refine bu ?_);refine blk_far ?_ NB267_275.out _;(with_reducible repeat refine bu ?_);exact BK267.out) NB267_270.out (by simp));replace HO273:=am (Kd.R_mono (Kd.R_keep (IsS84.apart (show IsS84 w _ g270 t268 t274 from m6_) (by (with_reducible repeat apply ru);exact (Kd.R_mono (Kd.R_far (p:=⟨gb275,0,none⟩) (Kd.R_types HO273.out BK275.out (by decide)) (fun _ hk=>hk.2) (.slice Ao26 t271.length co26)) (fun _ h_=>h_.1))) (by decide)) hk (fun _ h=>h.2)) (fun _ h=>h.1));replace BK275:=am (KeepBut.blk hk (g':=gb275) (o:=.cells #[.slice Ao26 t271.length co26] 25 (0,0)) (by (with_reducible repeat refine bu ?_);refine blk_put (cs:=#[.slice none 0 0]) ?_ 0 _ rfl;(with_reducible repeat refine bu ?_);exact BK275.out) NB275_270.out (by simp));replace HB:=am hb;replace HI270:=am hi;(try clear hb);(try clear hk);(try clear hi)) | ((with_reducible refine gC 43 rfl ?_);refine gL (some 14) Tryz.func43 #[.pointer (some ⟨g270,0,none⟩),.int .i64 9] ?_;(with_reducible refine (spec_l20Rd_odd.calls k g270 t268 t277 9 false t279 w _ ?side1 ?side2 A5.out).mono ?_);(case side1=>exact m6_);(case side2=>exact m7_);rintro e w31 ⟨rfl,hi,hb,hk⟩;refine ⟨_,rfl,?_⟩;replace BK267:=am (KeepBut.blk hk (g':=gb267) (o:=.cells #[.slice none 0 0] 25 (0,0)) (bk BK267) NB267_270.out (by simp));replace HO273:=am (Kd.R_mono (Kd.R_keep (IsS84.apart (show IsS84 w _ g270 t268 t277 from m6_) (rs HO273) (by decide)) hk (fun _ h=>h.2)) (fun _ h=>h.1));replace BK275:=am (KeepBut.blk hk (g':=gb275) (o:=.cells #[.slice Ao26 t271.length co26] 25 (0,0)) (bk BK275) NB275_270.out (by simp));replace HB:=am hb;replace HI270:=am hi;(try clear hb);(try clear hk);(try clear hi);have:=bcell BK275 0;have:=bfz BK275 0;have:=NB267_270.out;have:=NB270_267.out;have:=bcell BK267 0;have:=bfz BK267 0))
  refine bodyPost_ret (results_ct rfl _ _ gb267 25 #[.slice Ao26 t271.length co26] (0,0) _ rfl (by (with_reducible repeat refine bu ?_);refine blk_put (cs:=#[.slice none 0 0]) ?_ 0 _ rfl;(with_reducible repeat refine bu ?_);exact BK267.out) Tryz.underlying25 rfl (by kernel_rfl)) rfl ?_
  exact ⟨_,fi_,by (with_reducible repeat apply ru);exact Kd.R_mono (Kd.R_far (p:=⟨gb267,0,none⟩) (Kd.R_types HO273.out BK267.out (by decide)) (fun _ hk=>hk.2) (.slice Ao26 t271.length co26)) (fun _ hk=>trivial),m7_⟩
end
theorem bent_tail (b y : ByteArray) (ys : y.size = 1) (k' : Nat) (hk : k' ≤ b.size) (hb : b.size ≤ 100000) (v4 s4 B : Int) (h5 : At B s4) :
    Ans (fun (_ : Nat) => (if v4 = 0 then (if 0 ≤ (k' : Int) then (if (k' : Int) ≤ (b.size : Int) then (if (b.extract 0 ((k' : Int)).toNat).size + y.size ≤ 9223372036854775807 then (if ((b.extract 0 ((k' : Int)).toNat) ++ y).size + (b.extract ((k' : Int)).toNat b.size).size ≤ 9223372036854775807 then (some (((b.extract 0 ((k' : Int)).toNat) ++ y) ++ (b.extract ((k' : Int)).toNat b.size), s4)) else (none)) else (none)) else (none)) else (none)) else (if v4 = 1 then (if (k' : Int) < (b.size : Int) then (if 0 ≤ (k' : Int) then (if (k' : Int) ≤ (b.size : Int) then (if 0 ≤ (wrap64 ((k' : Int) + 1)) then (if (wrap64 ((k' : Int) + 1)) ≤ (b.size : Int) then (if (b.extract 0 ((k' : Int)).toNat).size + (b.extract ((wrap64 ((k' : Int) + 1)) : Int).toNat b.size).size ≤ 9223372036854775807 then (some ((b.extract 0 ((k' : Int)).toNat) ++ (b.extract ((wrap64 ((k' : Int) + 1)) : Int).toNat b.size), s4)) else (none)) else (none)) else (none)) else (none)) else (none)) else (some (b, s4))) else (if (k' : Int) < (b.size : Int) then (if 0 ≤ (k' : Int) then (if (k' : Int) ≤ (b.size : Int) then (if (b.extract 0 ((k' : Int)).toNat).size + y.size ≤ 9223372036854775807 then (if 0 ≤ (wrap64 ((k' : Int) + 1)) then (if (wrap64 ((k' : Int) + 1)) ≤ (b.size : Int) then (if ((b.extract 0 ((k' : Int)).toNat) ++ y).size + (b.extract ((wrap64 ((k' : Int) + 1)) : Int).toNat b.size).size ≤ 9223372036854775807 then (some (((b.extract 0 ((k' : Int)).toNat) ++ y) ++ (b.extract ((wrap64 ((k' : Int) + 1)) : Int).toNat b.size), s4)) else (none)) else (none)) else (none)) else (none)) else (none)) else (none)) else (some (b, s4)))))) (fun r => At B r.2 ∧ r.1.size ≤ b.size + 1) := by
  have z1 : (b.extract 0 ((k' : Int)).toNat).size = k' := by rw [ByteArray.size_extract]; simp only [Int.toNat_natCast]; omega
  have z2 : (b.extract ((k' : Int)).toNat b.size).size = b.size - k' := by rw [ByteArray.size_extract]; simp only [Int.toNat_natCast]; omega
  have ek : wrap64 ((k' : Int) + 1) = ((k' + 1 : Nat) : Int) := w64 _ (by omega)
  have z3 : (b.extract (((k' + 1 : Nat) : Int)).toNat b.size).size = b.size - (k' + 1) := by rw [ByteArray.size_extract]; simp only [Int.toNat_natCast]; omega
  rw [ek]
  refine Ans.ite (fun c => ?_) (fun c => ?_)
  · refine Ans.pos (by omega) (Ans.pos (by omega) (Ans.pos (by rw [z1, ys]; omega) (Ans.pos (by rw [ByteArray.size_append, z1, z2, ys]; omega) (Ans.pure ⟨h5, ?_⟩))))
    simp only [ByteArray.size_append, z1, z2, ys]; omega
  · refine Ans.ite (fun c1 => ?_) (fun c1 => ?_)
    · refine Ans.ite (fun c2 => ?_) (fun c2 => Ans.pure ⟨h5, by dsimp only; omega⟩)
      refine Ans.pos (by omega) (Ans.pos (by omega) (Ans.pos (by omega) (Ans.pos (by omega) (Ans.pos (by rw [z1, z3]; omega) (Ans.pure ⟨h5, ?_⟩)))))
      simp only [ByteArray.size_append, z1, z3]; omega
    · refine Ans.ite (fun c2 => ?_) (fun c2 => Ans.pure ⟨h5, by dsimp only; omega⟩)
      refine Ans.pos (by omega) (Ans.pos (by omega) (Ans.pos (by rw [z1, ys]; omega) (Ans.pos (by omega) (Ans.pos (by omega) (Ans.pos (by rw [ByteArray.size_append, z1, z3, ys]; omega) (Ans.pure ⟨h5, ?_⟩))))))
      simp only [ByteArray.size_append, z1, z3, ys]; omega
theorem bent_a {l : List Int} (hl : Bys l) {s B : Int} (hs : At B s) (hB : B < 400000) (b : ByteArray) (hb : b.size ≤ 100000) :
    Ans (fun k => spec_l20Bent.f k l s b) (fun r => At (B + 4) r.2 ∧ r.1.size ≤ b.size + 1) := by
  unfold spec_l20Bent.f
  have ew : wrap64 ((b.size : Int) + 1) = (b.size : Int) + 1 := w64 _ (by omega)
  rw [ew]
  refine Ans.bind (pick_a hl hs (by omega) _) ?_
  rintro ⟨k, s1⟩ ⟨h1, p1⟩
  refine Ans.bind (pick_a hl h1 (by omega) 256) ?_
  rintro ⟨v2, s2⟩ ⟨h2, p2⟩
  dsimp only at *
  simp only [Option.bind_some]
  refine Ans.bind (pick_a hl h2 (by omega) 8) ?_
  rintro ⟨v3, s3⟩ ⟨h3, p3⟩
  dsimp only at *
  refine Ans.pos p3.1 (Ans.pos (by simp; omega) ?_)
  refine Ans.bind (pick_a hl h3 (by omega) 3) ?_
  rintro ⟨v4, s4⟩ ⟨h4, p4⟩
  dsimp only at *
  have hk0 : 0 ≤ k ∧ k ≤ (b.size : Int) := by clear p2 p3 p4 h1 h2 h3 h4; omega
  have h5 : At (B + 4) s4 := at_le h4 (by omega)
  clear p1 p2 p3 p4 h1 h2 h3 h4 hs hl ew
  obtain ⟨k', rfl⟩ : ∃ k' : Nat, k = k' := ⟨k.toNat, by omega⟩
  generalize hy : strOfNums [rd [32, 48, 49, 57, 59, 97, 112, v2] v3 % 256] = y
  have ys : y.size = 1 := by rw [← hy, strOfNums_size]; rfl
  clear hy
  exact bent_tail b y ys k' (by omega) hb v4 s4 _ h5
theorem at0 : At 0 0 := ⟨by omega, by omega⟩
theorem lportW_size (a p : Int) : (lportW a p).size ≤ 12 := by
  have hz := etext_size a p
  have h5 : ((⟨#[112, 111, 114, 116, 32]⟩ : ByteArray)).size = 5 := rfl
  unfold lportW
  split
  · rw [ByteArray.size_append]; omega
  · exact Nat.zero_le _
theorem rdOf_size {l : List ByteArray} {m : Nat} (h : ∀ x ∈ l, x.size ≤ m) (i : Int) : (rdOf ByteArray.empty l i).size ≤ m := by
  unfold rdOf
  by_cases hi : i.toNat < l.length
  · have e : l.getD i.toNat ByteArray.empty = l[i.toNat] := by simp [List.getD, hi]
    rw [e]; exact h _ (List.getElem_mem hi)
  · have e : l.getD i.toNat ByteArray.empty = ByteArray.empty := by simp [List.getD, Nat.not_lt.mp hi]
    rw [e]; exact Nat.zero_le _
theorem line_a {l : List Int} (hl : Bys l) {s B : Int} (hs : At B s) (hB : B < 400000) :
    Ans (fun k => spec_l20Line.f k l s) (fun r => At (B + 4) r.2 ∧ r.1.size ≤ 20) := by
  unfold spec_l20Line.f
  refine Ans.bind (pick_a hl hs (by omega) 3) ?_
  rintro ⟨v1, s1⟩ ⟨h1, p1⟩
  dsimp only at *
  refine Ans.ite (fun _ => ?_) (fun _ => Ans.ite (fun _ => ?_) (fun _ => ?_))
  · refine Ans.bind (in_a hl h1 (by omega)) ?_
    rintro ⟨a, p, s2⟩ ⟨h2, _⟩
    dsimp only at *
    refine Ans.bind (specLinPort_a a p) ?_
    rintro _ rfl
    have := lportW_size a p
    exact Ans.pure ⟨at_le h2 (by omega), by dsimp only; omega⟩
  · refine Ans.bsome ?_
    refine Ans.bind (pick_a hl h1 (by omega) 10) ?_
    rintro ⟨v3, s3⟩ ⟨h3, p3⟩
    dsimp only at *
    refine Ans.pos p3.1 (Ans.pos (by simp; omega) (Ans.pure ⟨at_le h3 (by omega), ?_⟩))
    exact rdOf_size (by decide) _
  · refine Ans.bsome ?_
    refine Ans.bind (pick_a hl h1 (by omega) 4) ?_
    rintro ⟨v3, s3⟩ ⟨h3, p3⟩
    dsimp only at *
    refine Ans.pos p3.1 (Ans.pos (by simp; omega) (Ans.pure ⟨at_le h3 (by omega), ?_⟩))
    exact rdOf_size (by decide) _
theorem drawRwrLine_a {l : List Int} (hl : Bys l) : Ans (fun k => spec_DrawRwrLine.f k l) (fun r => r.1.length ≤ 20 ∧ r.2.size ≤ 30) := by
  unfold spec_DrawRwrLine.f
  obtain ⟨l', e0, hl'⟩ := open_f l hl
  rw [e0]
  refine Ans.bsome ?_
  refine Ans.bind (table_a hl' at0 (by omega) 12) ?_
  rintro ⟨t, s1⟩ ⟨h1, ht⟩
  dsimp only at *
  refine Ans.bind (line_a hl' h1 (by omega)) ?_
  rintro ⟨u, s2⟩ ⟨h2, hu⟩
  dsimp only at *
  refine Ans.bind (odd_a hl' h2 (by omega) 9) ?_
  rintro ⟨o, s3⟩ h3
  dsimp only at *
  refine Ans.ite (fun _ => ?_) (fun _ => Ans.pure ⟨ht, by dsimp only; omega⟩)
  refine Ans.bind (bent_a hl' h3 (by omega) u (by omega)) ?_
  rintro ⟨x, s4⟩ ⟨_, hx⟩
  exact Ans.pure ⟨ht, by dsimp only at *; omega⟩
theorem trim_port (t : ByteArray) : trimW ((⟨#[112, 111, 114, 116, 32]⟩ : ByteArray) ++ t) = t := by
  apply ba_ext
  unfold trimW Lib.trimPrefix
  have e : ((⟨#[112, 111, 114, 116, 32]⟩ : ByteArray) ++ t).data.toList = portL ++ t.data.toList := by
    rw [ByteArray.data_append, Array.toList_append]; rfl
  rw [e]
  have hp : Lib.hasPrefix (portL ++ t.data.toList) portL = true := by
    unfold Lib.hasPrefix; rw [List.isPrefixOf_iff_prefix]; exact List.prefix_append _ _
  rw [if_pos hp, List.drop_left]
theorem pre_port (t : ByteArray) : Lib.hasPrefix ((⟨#[112, 111, 114, 116, 32]⟩ : ByteArray) ++ t).data.toList portL = true := by
  have e : ((⟨#[112, 111, 114, 116, 32]⟩ : ByteArray) ++ t).data.toList = portL ++ t.data.toList := by
    rw [ByteArray.data_append, Array.toList_append]; rfl
  rw [e]
  unfold Lib.hasPrefix; rw [List.isPrefixOf_iff_prefix]; exact List.prefix_append _ _
theorem endIn_ok {a p : Int} (h : endIn a p = true) : endOkB a p = true := by
  unfold endIn at h; unfold endOkB; simp only [Bool.and_eq_true] at h
  rw [h.1, h.2]; rfl
theorem says_lport {a p : Int} (h : endOkB a p = true) : saysW (lportW a p) = if endIn a p then some (a, p) else none := by
  unfold saysW lportW
  rw [if_pos h, if_pos (pre_port _), trim_port, readEndW_of h]
theorem says_port {q : Int} (h : 1 ≤ q ∧ q ≤ 999) : saysW (lportW 50 q) = none := by
  have e : endOkB 50 q = true := by unfold endOkB inB; simp [h.1, h.2]
  rw [says_lport e]
  have : endIn 50 q = false := by unfold endIn inB; simp
  rw [this]; rfl
theorem says_none : saysW noneB = none := by
  unfold saysW
  rw [if_neg (by decide)]
theorem lport_linOk (a p : Int) : linOk (lportW a p) = true := by
  have hz := lportW_size a p
  unfold linOk
  simp only [Bool.and_eq_true, decide_eq_true_eq]
  refine ⟨?_, by omega⟩
  unfold bys
  rw [List.all_map, List.all_eq_true]
  intro c hc
  show lb (c.toNat : Int) = true
  unfold lportW at hc
  by_cases hk : endOkB a p = true
  · have hb := endOkB_le hk
    obtain ⟨m, rfl⟩ : ∃ m : Nat, a = m := ⟨a.toNat, by omega⟩
    obtain ⟨n, rfl⟩ : ∃ n : Nat, p = n := ⟨p.toNat, by omega⟩
    rw [if_pos hk] at hc
    unfold etext at hc
    rw [if_pos hk] at hc
    simp only [ByteArray.data_append, Array.toList_append, List.mem_append] at hc
    have dg : ∀ (k : Nat), c ∈ (numB (k : Int)).data.toList → lb (c.toNat : Int) = true := by
      intro k h
      have := (numB_dg (k + 1) k (by omega)).1 c h
      unfold isDg at this
      unfold lb
      have h1 : (48 : Int) ≤ (c.toNat : Int) := by omega
      have h2 : (c.toNat : Int) ≤ 57 := by omega
      simp [h1, h2]
    rcases hc with hc | (hc | hc) | hc
    · have : c = 112 ∨ c = 111 ∨ c = 114 ∨ c = 116 ∨ c = 32 := by simpa using hc
      rcases this with rfl | rfl | rfl | rfl | rfl <;> decide
    · exact dg m hc
    · have : c = 32 := by simpa using hc
      subst this; decide
    · exact dg n hc
  · rw [if_neg hk] at hc
    simp at hc
theorem says_is {s : ByteArray} {a p : Int} (h : saysW s = some (a, p)) : endIn a p = true ∧ s = lportW a p := by
  refine ⟨saysW_in h, ?_⟩
  unfold saysW at h
  cases hp : Lib.hasPrefix s.data.toList portL with
  | false => rw [hp] at h; simp at h
  | true =>
    rw [hp] at h
    simp only [if_true] at h
    cases hr : readEndW (trimW s) with
    | none => rw [hr] at h; cases h
    | some r =>
      obtain ⟨a', p'⟩ := r
      rw [hr] at h
      simp only at h
      obtain ⟨hk, ht⟩ := readEndW_some hr
      cases hi : endIn a' p' with
      | false => rw [hi] at h; simp at h
      | true =>
        rw [hi] at h; simp at h; obtain ⟨rfl, rfl⟩ := h
        unfold lportW
        rw [if_pos hk, ← ht]
        have h5 := (pre_split s).mp hp
        rw [← trim_extract hp]
        apply ba_ext
        rw [ByteArray.data_append, Array.toList_append, Lib.extract_data]
        have hl : s.data.toList.length = s.size := by rw [Array.length_toList]; rfl
        rw [List.take_of_length_le (by rw [List.length_drop]; omega)]
        have h4 := h5.2
        rw [ByteArray.toList_eq, Lib.extract_data] at h4
        simp only [List.drop_zero] at h4
        have e : s.data.toList = s.data.toList.take 5 ++ s.data.toList.drop 5 := (List.take_append_drop 5 _).symm
        rw [e]
        simp only [h4, List.drop_append, List.drop_drop]
        simp
theorem put_facts {l : List S34} {a p : Int} (c : okT l = true) (he : endIn a p = true) :
    okT (putV l a p).1 = true ∧ (∃ t, (putV l a p).1 = l ++ t) ∧ (putV l a p).2 = portV (putV l a p).1 a p ∧
      ((putV l a p).2 = 0 → (putV l a p).1.length = 6) ∧ ((putV l a p).2 ≠ 0 → ∃ i : Nat, i < 6 ∧ (putV l a p).2 = 500 + (i : Int)) := by
  have hl := okT_le c
  refine ⟨put_ok c he, ?_, ?_, ?_, ?_⟩
  · unfold putV
    split
    · exact ⟨[], by simp⟩
    · split
      · exact ⟨[], by simp⟩
      · exact ⟨_, rfl⟩
  · unfold putV
    split
    · rfl
    · rename_i h0
      have h0' : portV l a p = 0 := by simpa using h0
      split
      · exact h0'.symm
      · have hn := fnd_none h0'
        dsimp only
        unfold portV
        rw [fnd_snoc, hn]
        simp
  · unfold putV
    split
    · rename_i h0; intro h; exact absurd h h0
    · split
      · rename_i h6; intro _; exact h6
      · intro h; dsimp only at h; omega
  · unfold putV
    split
    · rename_i h0
      intro _
      have hr := portV_range (l := l) (by omega) a p
      rcases hr with hr | hr
      · exact absurd hr h0
      · refine ⟨(portV l a p - 500).toNat, by omega, ?_⟩
        dsimp only; omega
    · split
      · intro h; exact absurd rfl h
      · intro _; exact ⟨l.length, by omega, rfl⟩
section
attribute [local go_sem] max2_int min2_int max_two min_two max_three min_three max_four min_four
def spec_l3Stream.l0 : Nat → List ByteArray → ByteArray → Int → List (S34) → Option ((List (S34)) × ByteArray)
 | 0,_,_,_,_=>none
 | k + 1,x6,x8,x9,x768000=>if x9 < (x6.length : Int) then (if 0 ≤ x9 then ((spec_l3Line.f k x768000 (rdOf ByteArray.empty x6 x9)).bind fun bt774=>(if x8.size + bt774.2.size ≤ 9223372036854775807 then (if (x8 ++ bt774.2).size + 1 ≤ 9223372036854775807 then (spec_l3Stream.l0 k x6 ((x8 ++ bt774.2) ++ (⟨#[59]⟩ : ByteArray)) (wrap64 (x9 + 1)) bt774.1) else (none)) else (none))) else (none)) else (some (x768000,x8))
def spec_l3Stream.f (k : Nat) (l0_0 : List (S34)) (a1 : ByteArray) : Option ((List (S34)) × ByteArray):=(spec_StrLines.f k a1).bind fun bt769=>(spec_l3Stream.l0 k bt769.1 (⟨#[]⟩ : ByteArray) 0 l0_0)
theorem spec_l3Stream.mono_l : ∀ k,(∀ y0 y1 y2 y3,LeO (spec_l3Stream.l0 k y0 y1 y2 y3) (spec_l3Stream.l0 (k + 1) y0 y1 y2 y3))
 | 0=>fun _ _ _ _ r h=>by simp [spec_l3Stream.l0] at h
 | k + 1=>by
  have ih0:=spec_l3Stream.mono_l k
  ·intro y0 y1 y2 y3
   unfold spec_l3Stream.l0
   repeat' first | (with_reducible first | exact ih0 _ _ _ _ | exact spec_StrLines.mono _ _ | exact spec_l3Line.mono _ _ _ | exact LeO.refl _ | exact LeO.none _ | refine LeO.ite ?_ ?_ | refine LeO.bind ?_ (fun _=>?_)) | exact ih0 _ _ _ _ | exact spec_StrLines.mono _ _ | exact spec_l3Line.mono _ _ _ | exact LeO.none _ | refine LeO.ite ?_ ?_ | refine LeO.bind ?_ (fun _=>?_)
theorem spec_l3Stream.mono : ∀ a0 a1 k,LeO (spec_l3Stream.f k a0 a1) (spec_l3Stream.f (k + 1) a0 a1):=by
 intro a0 a1 k
 have ih0:=spec_l3Stream.mono_l k
 unfold spec_l3Stream.f
 repeat' first | (with_reducible first | exact ih0 _ _ _ _ | exact spec_StrLines.mono _ _ | exact spec_l3Line.mono _ _ _ | exact LeO.refl _ | exact LeO.none _ | refine LeO.ite ?_ ?_ | refine LeO.bind ?_ (fun _=>?_)) | exact ih0 _ _ _ _ | exact spec_StrLines.mono _ _ | exact spec_l3Line.mono _ _ _ | exact LeO.none _ | refine LeO.ite ?_ ?_ | refine LeO.bind ?_ (fun _=>?_)
def spec_l3Stream.T6 : Bool × List (List Nat × List Nat):=(true,[([],[]),([],[]),([],[]),([1,2],[1,2]),([3],[3]),([0,4],[0,4]),([5],[5]),([6],[6]),([6],[6]),([],[]),([9,7,5,0,1,2,3,4,5,6,7,9],[7,9]),([8,10,0,1,2,3,4,5,6,7,8,9,10],[8])])
def spec_l3Stream.B6 : List Nat:=[0,0,0,6,14,31,63,127,127,0,767,2047]
theorem spec_l3Stream.tab6 : rtab .any (opsOf Tryz.f73 6) = spec_l3Stream.T6:=by kernel_rfl
theorem spec_l3Stream.bits6 : waitsOk spec_l3Stream.T6.2 spec_l3Stream.B6 = true:=by kernel_rfl
set_option maxHeartbeats 8000000 in
set_option maxRecDepth 100000 in
theorem spec_l3Stream.calls (k : Nat) (P0_0_ : Nat → Prop) (u9000_ : Value) (l0_0 : List (S34)) (a1 : ByteArray) (r1 : List (S34)) (r2 : ByteArray) (w0 w : World) (hB : Below w0.heap.size w0 w) (ho0_0 : Kd.R k34 34 w w0.heap.size P0_0_ u9000_ l0_0) (h : spec_l3Stream.f k l0_0 a1 = some (r1,r2)) :
  Calls Tryz.prog 73 #[.agg #[u9000_],.string a1] w fun e w'=>∃ v0_ : Value,e = .returned (.tuple #[.agg #[v0_],.string r2]) ∧ Kd.R k34 34 w' w0.heap.size (fun k_=>(P0_0_ k_ ∨ w.heap.size ≤ k_)) v0_ r1 ∧ Below w0.heap.size w0 w' ∧ Kept w w' (fun k_=>P0_0_ k_):=by
 have hu25:=Tryz.underlying25
 have HO0_0:=am (show Kd.R k34 34 w w0.heap.size (fun k_=>(P0_0_ k_ ∨ w.heap.size ≤ k_)) u9000_ l0_0 from Kd.R_mono ho0_0 (fun k_ hk=>(.inl hk)))
 have HK:=am (Kept.refl w (fun k_=>P0_0_ k_))
 have HW0:=am hB.size
 have HB:=am hB
 clear hB
 have H : ((spec_StrLines.f k a1).bind fun bt769=>(spec_l3Stream.l0 k bt769.1 (⟨#[]⟩ : ByteArray) 0 l0_0)) = some (r1,r2):=h
 clear h
 obtain ⟨⟨t769,t770⟩,A3,H⟩:=bse H
 try dsimp only at H
 have H':=am H
 clear H
 obtain ⟨Ao4,co4,eo4⟩:=Kd.R_slice HO0_0.out
 subst eo4
 go_enter Tryz.func73,Tryz.ntmps73
 go_wp2_with (first | ((with_reducible refine gD 2 rfl ?_);refine box_event rfl (N:=2) rfl (cs:=#[.slice Ao4 l0_0.length co4]) (t:=25) hr_ ?_;intro gb767 hg w5 hbox hb;replace HO0_0:=am (Kd.R_below (rs HO0_0) hb);have BK767:=am hbox;have GW767:=am ((by rw [hg];exact (by first | exact HK.out.1 | exact (show Kept w _ (fun k_=>P0_0_ k_) from m15_).1) : w.heap.size ≤ gb767));replace HK:=am (Kept.below (S:=(fun k_=>P0_0_ k_)) m15_ hb);have GE767:=gwE HB hg;replace HB:=hbS HB hb;clear hb hbox hg) | ((with_reducible refine gD 4 rfl ?_);refine box_event rfl (N:=4) rfl (cs:=#[.slice none 0 0]) (t:=25) hr_ ?_;intro gb768 hg w6 hbox hb;replace HO0_0:=am (Kd.R_below (rs HO0_0) hb);have BK768:=am hbox;have GW768:=am ((by rw [hg];exact (by first | exact HK.out.1 | exact (show Kept w _ (fun k_=>P0_0_ k_) from m16_).1) : w.heap.size ≤ gb768));replace HK:=am (Kept.below (S:=(fun k_=>P0_0_ k_)) m16_ hb);have GE768:=gwE HB hg;replace HB:=hbS HB hb;have NB767_768:=neL BK767 hg;have NB768_767:=neG BK767 hg;replace BK767:=bkB BK767 hb;clear hb hbox hg) | ((with_reducible refine gC 39 rfl ?_);refine gL (some 14) Tryz.func39 #[.string a1] ?_;(with_reducible refine (spec_StrLines.calls k a1 t769 t770 _ A3.out).mono ?_);rintro e w7 ⟨v771,rfl,ho0,hb⟩;refine ⟨_,rfl,?_⟩;replace HO0_0:=am (Kd.R_below (rs HO0_0) hb);have HO772:=am (Kd.R_lower (Kd.R_newM (M:=fun k_=>(P0_0_ k_ ∨ w.heap.size ≤ k_)) ho0 (by first | exact HK.out.1 | exact (show Kept w _ (fun k_=>P0_0_ k_) from m16_).1) (fun k_ h_=>.inr h_)) (below_size (bl HB)));replace BK767:=bkB BK767 hb;replace BK768:=bkB BK768 hb;replace HK:=am (Kept.below (S:=(fun k_=>P0_0_ k_)) m16_ hb);replace HB:=hbS HB hb;(try clear hb);(try clear ho0)))
 go_loopg [8,9] k (fun kq v8 v9 w'=>∃ (x8_1 : ByteArray) (x9_1 : Int) (x768000_1 : List (S34)) (u768000 : Value),v8 = .string x8_1 ∧ v9 = .int .i64 x9_1 ∧ Aside0 (spec_l3Stream.l0 kq t769 x8_1 x9_1 x768000_1 = some (r1,r2)) ∧ Aside0 (kq ≤ k) ∧ Aside0 (Kd.R Kd.string 9 w' w0.heap.size (fun k_=>(P0_0_ k_ ∨ w.heap.size ≤ k_)) v771 t769) ∧ Aside0 (Kd.R k34 34 w' w0.heap.size (fun k_=>(P0_0_ k_ ∨ w.heap.size ≤ k_)) u768000 x768000_1) ∧ Aside0 (w'.heap[gb767]? = some (.cells #[u768000] 25 (0,0))) ∧ Aside0 (w'.heap[gb768]? = some (.cells #[(.slice none 0 0)] 25 (0,0))) ∧ Aside0 (Kept w w' (fun k_=>P0_0_ k_)) ∧ Aside0 (Below w0.heap.size w0 w'))
 case atStart=>exact ⟨((⟨#[]⟩ : ByteArray)),(0),(l0_0),(.slice Ao4 l0_0.length co4),rs_,rs_,H',⟨Nat.le_refl _⟩,⟨by (with_reducible repeat apply ru);exact Kd.R_mono HO772.out (fun _ hk=>hk.1)⟩,⟨by (with_reducible repeat apply ru);exact HO0_0.out⟩,⟨bk BK767⟩,⟨bk BK768⟩,⟨m16_⟩,⟨m2_⟩⟩
 case round=>
  clear H'
  try clear p2
  try clear c3
  try clear c7
  obtain ⟨x8_1,x9_1,x768000_1,u768000,rfl,rfl,HA,HK1,HO_6,HO_768000,BK767,BK768,HK,HB⟩:=hrel
  cases gk with
  | zero=>exact absurd HA.out (by simp [spec_l3Stream.l0])
  | succ k1=>
   have H:=HA.out
   clear HA
   simp only [spec_l3Stream.l0] at H
   by_cases c8 : x9_1 < (t769.length : Int)
   ·rw [if_pos c8] at H
    have c8b0 : decide (x9_1 < (t769.length : Int)) = true:=decide_eq_true c8
    clear c8
    by_cases c9 : 0 ≤ x9_1
    ·rw [if_pos c9] at H
     have c9b0 : decide (0 ≤ x9_1) = true:=decide_eq_true c9
     clear c9
     obtain ⟨⟨t774,t777⟩,A10,H⟩:=bse H
     try dsimp only at H
     by_cases c11 : x8_1.size + t777.size ≤ 9223372036854775807
     ·rw [if_pos c11] at H
      have c11b0:=eq_true c11
      have c11b1 : decide (x8_1.size + t777.size ≤ 9223372036854775807) = true:=decide_eq_true c11
      try have c11b2 : (9223372036854775807 < x8_1.size + t777.size) = False:=eq_false (Nat.not_lt.2 c11)
      by_cases c12 : (x8_1 ++ t777).size + 1 ≤ 9223372036854775807
      ·rw [if_pos c12] at H
       have c12b0:=eq_true c12
       have c12b1 : decide ((x8_1 ++ t777).size + 1 ≤ 9223372036854775807) = true:=decide_eq_true c12
       try have c12b2 : (9223372036854775807 < (x8_1 ++ t777).size + 1) = False:=eq_false (Nat.not_lt.2 c12)
       try have c12b3 : (9223372036854775807 < x8_1.size + t777.size + 1) = False:=(by have z_:=c12b2;simp only [ByteArray.size_append] at z_;exact z_)
       have H':=am H
       clear H
       obtain ⟨Ao13,co13,eo13⟩:=Kd.R_slice HO_6.out
       subst eo13
       obtain ⟨Ao14,co14,eo14⟩:=Kd.R_slice HO_768000.out
       subst eo14
       try go_wp2
       replace HO_6:=am (Kd.R_drew HO_6.out)
       replace HO_768000:=am (Kd.R_drew HO_768000.out)
       replace BK767:=am (blk_drew BK767.out)
       replace BK768:=am (blk_drew BK768.out)
       replace HK:=am (Kept.drew HK.out)
       replace HB:=am (below_drew1 HB.out)
       have p773 : 0 ≤ (x9_1 : Int):=of_decide_eq_true da_
       have q773 : x9_1 < (t769.length : Int):=of_decide_eq_true da_
       obtain ⟨ad773,e773,hx773_0⟩:=Kd.at_string (Kd.R_reads' HO_6.out).2.2 x9_1 p773 q773
       cases e773
       replace p773:=eq_true p773
       replace q773:=eq_true q773
       refine start_ (n:=12) (S:=fun w'=>w'.cell? ⟨gb767,0,none⟩ = some (.slice Ao14 x768000_1.length co14) ∧ w'.cell? (ad773.add (x9_1).toNat) = some (.string (rdOf ByteArray.empty t769 x9_1))) (ds:=[]) #[false,false,false,false,false,false,false,false,false,false,false,false] (by kernel_rfl) rfl rfl ⟨bcell BK767 0,hx773_0⟩ (fun hHeld=>?_);refine with_tabW spec_l3Stream.tab6 spec_l3Stream.bits6 (fun HT_ HW_=>?_)
       generalize wr.drew = w15 at HO_6 HO_768000 BK767 BK768 HK HB hx773_0 hHeld ⊢
       refine pu_ 1 (some 25) (bm 12 2) ?_
       refine pu_ 2 (some 26) (bm 12 6) ?_
       refine pu_ 3 (some 27) (bm 12 14) ?_
       refine tk_ 0 (some 24) (bm 12 15) rfl (.inl ⟨rfl,m3_⟩) ?_
       refine tk_ 4 (some 28) (bm 12 31) rfl (.inl ⟨rfl,m3_⟩) ?_
       refine join_ (σ:=Value × Nat) 2 #[true,true,true,true,true,true,true,true,true,true,false,false] (fun s_=>[(29,.tuple #[.agg #[s_.1],.string t777]),(10,.pointer (some ⟨s_.2,0,none⟩)),(23,.tuple #[.agg #[s_.1],.string t777]),(30,.agg #[s_.1]),(31,.string t777)]) (fun s_ w'=>(w'.cell? ⟨gb767,0,none⟩ = some (.slice Ao14 x768000_1.length co14) ∧ w'.cell? (ad773.add (x9_1).toNat) = some (.string (rdOf ByteArray.empty t769 x9_1))) ∧ (Kd.R k34 34 w' w0.heap.size (fun k_=>(P0_0_ k_ ∨ w.heap.size ≤ k_)) s_.1 t774) ∧ (Kd.R Kd.string 9 w' w0.heap.size (fun k_=>(P0_0_ k_ ∨ w.heap.size ≤ k_)) (.slice (some ad773) t769.length co13) t769) ∧ (w'.heap[gb767]? = some (.cells #[.slice Ao14 x768000_1.length co14] 25 (0,0))) ∧ (w'.heap[gb768]? = some (.cells #[.slice none 0 0] 25 (0,0))) ∧ (w'.heap[s_.2]? = some (.cells #[.slice none 0 0] 25 (0,0))) ∧ (w.heap.size ≤ s_.2) ∧ (w0.heap.size ≤ s_.2) ∧ (gb767 ≠ s_.2) ∧ (s_.2 ≠ gb767) ∧ (gb768 ≠ s_.2) ∧ (s_.2 ≠ gb768) ∧ (Kept w w' (fun k_=>P0_0_ k_)) ∧ (Below w0.heap.size w0 w')) ?_ ?_
       rotate_left
       ·intro hCont
        refine two_ (i:=5) (j:=9) (Ni:=some 29) (Nj:=some 10) #[true,true,true,true,true,true,false,false,false,false,false,false] #[true,true,true,true,true,false,false,false,false,true,false,false] rfl rfl rfl rfl (two_of HT_.out (by kernel_rfl)) (by decide) (by decide) (fun K hK=>?_) (fun K hK=>?_)
        ·skip
         refine gR Tryz.func46 #[.agg #[.slice Ao14 x768000_1.length co14],.string (rdOf ByteArray.empty t769 x9_1)] ?_
         with_reducible refine (spec_l3Line.calls k1 (fun k_=>some k_ = (.slice Ao14 x768000_1.length co14 : Value).ownBlock) (.slice Ao14 x768000_1.length co14) x768000_1 (rdOf ByteArray.empty t769 x9_1) t774 t777 w0 _ ?side1 ?side2 A10.out).mono ?_
         (case side1=>exact m2_)
         (case side2=>exact Kd.R_tight rfl HO_768000.out)
         rintro e w16 ⟨v775,rfl,ho0,hb,hkp⟩
         have HS1_:=ckp_ (hHeld.2) hkp (by first | (rw [add_block];exact (fun hs_=>((((Kd.R_apart' HO_6.out (Kd.R_typed HO_768000.out) (by decide))).1 _ rfl).2) hs_)) | (show ¬ _;simp only [add_block];exact (fun hs_=>((((Kd.R_apart' HO_6.out (Kd.R_typed HO_768000.out) (by decide))).1 _ rfl).2) hs_)) | exact (fun hs_=>((((Kd.R_apart' HO_6.out (Kd.R_typed HO_768000.out) (by decide))).1 _ rfl).2) hs_))
         refine ⟨_,rfl,?_⟩
         replace HO_6:=am (Kd.R_mono (ok':=fun k_=>(P0_0_ k_ ∨ w.heap.size ≤ k_)) (Kd.R_keptB ((Kd.R_apart' HO_6.out (Kd.R_typed HO_768000.out) (by decide))) hkp (fun k_ hk_ hs_=>(hk_.2) hs_)) (fun k_ hk_=>hk_.1.1))
         replace BK767:=am (blk_kept (bk BK767) hkp (fun hs_=>(fun e_=>(Kd.R_ne HO_768000.out BK767.out (by decide)) e_) hs_))
         replace BK768:=am (blk_kept (bk BK768) hkp (fun hs_=>(fun e_=>(Kd.R_ne HO_768000.out BK768.out (by decide)) e_) hs_))
         have HO776:=am (Kd.R_mono (ok':=fun k_=>(P0_0_ k_ ∨ w.heap.size ≤ k_)) ho0 (fun k_ hk_=>Or.elim hk_ (fun hs_=>(HO_768000.out.1 k_ (hs_).symm)) (fun hn_=>(.inr (Nat.le_trans (by first | exact HK.out.1 | exact (show Kept w _ (fun k_=>P0_0_ k_) from m16_).1) hn_)))))
         replace HK:=am (Kept.then_ (S:=(fun k_=>P0_0_ k_)) m16_ hkp (fun k_ hs_=>(fun e_=>(HO_768000.out.1 k_ e_.symm)) hs_))
         replace HB:=am hb
         clear HO_768000
         (try clear hb)
         (try clear hkp)
         (try clear ho0)
         refine hK.out _ _ ⟨bcell BK767 0,HS1_⟩ (fun hHeld=>?_)
         clear hK K
         refine nm_ ?_
         refine pu_ 6 (some 23) (bm 12 127) ?_
         refine pu_ 7 (some 30) (bm 12 255) ?_
         refine pu_ 8 (some 31) (bm 12 511) ?_
         refine on_ 9 (some 10) (bm 12 1023) (fun K hK=>?_)
         refine box_step rfl (N:=10) rfl (cs:=#[.slice none 0 0]) (t:=25) hr_ ?_
         intro gb778 hg w17 hbox hb
         have HS1_:=bch hb (hHeld.2)
         replace HO_6:=am (Kd.R_below (rs HO_6) hb)
         replace HO776:=am (Kd.R_below (rs HO776) hb)
         have BK778:=am hbox
         have GW778:=am ((by rw [hg];exact (by first | exact HK.out.1 | exact (show Kept w _ (fun k_=>P0_0_ k_) from m16_).1) : w.heap.size ≤ gb778))
         replace HK:=am (Kept.below (S:=(fun k_=>P0_0_ k_)) m16_ hb)
         have GE778:=gwE HB hg
         replace HB:=hbS HB hb
         have NB767_778:=neL BK767 hg
         have NB778_767:=neG BK767 hg
         replace BK767:=bkB BK767 hb
         have NB768_778:=neL BK768 hg
         have NB778_768:=neG BK768 hg
         replace BK768:=bkB BK768 hb
         clear hb hbox hg
         refine hK.out _ _ ⟨bcell BK767 0,HS1_⟩ (fun hHeld=>?_)
         clear hK K
         refine nm_ ?_
         exact norm_ (by simp only [putAll,Act.put,List.setIfInBounds_toArray,List.set_cons_zero,List.set_cons_succ]) (hCont (v775,gb778) _ ⟨hHeld,(rs HO776),(rs HO_6),(bk BK767),(bk BK768),(bk BK778),GW778.out,GE778.out,NB767_778.out,NB778_767.out,NB768_778.out,NB778_768.out,m16_,(bl HB)⟩)
        ·skip
         refine box_step rfl (N:=10) rfl (cs:=#[.slice none 0 0]) (t:=25) hr_ ?_
         intro gb778 hg w16 hbox hb
         have HS1_:=bch hb (hHeld.2)
         replace HO_6:=am (Kd.R_below (rs HO_6) hb)
         replace HO_768000:=am (Kd.R_below (rs HO_768000) hb)
         have BK778:=am hbox
         have GW778:=am ((by rw [hg];exact (by first | exact HK.out.1 | exact (show Kept w _ (fun k_=>P0_0_ k_) from m16_).1) : w.heap.size ≤ gb778))
         replace HK:=am (Kept.below (S:=(fun k_=>P0_0_ k_)) m16_ hb)
         have GE778:=gwE HB hg
         replace HB:=hbS HB hb
         have NB767_778:=neL BK767 hg
         have NB778_767:=neG BK767 hg
         replace BK767:=bkB BK767 hb
         have NB768_778:=neL BK768 hg
         have NB778_768:=neG BK768 hg
         replace BK768:=bkB BK768 hb
         clear hb hbox hg
         refine hK.out _ _ ⟨bcell BK767 0,HS1_⟩ (fun hHeld=>?_)
         clear hK K
         refine nm_ ?_
         refine on_ 5 (some 29) (bm 12 575) (fun K hK=>?_)
         refine gR Tryz.func46 #[.agg #[.slice Ao14 x768000_1.length co14],.string (rdOf ByteArray.empty t769 x9_1)] ?_
         with_reducible refine (spec_l3Line.calls k1 (fun k_=>some k_ = (.slice Ao14 x768000_1.length co14 : Value).ownBlock) (.slice Ao14 x768000_1.length co14) x768000_1 (rdOf ByteArray.empty t769 x9_1) t774 t777 w0 _ ?side1 ?side2 A10.out).mono ?_
         (case side1=>exact m2_)
         (case side2=>exact Kd.R_tight rfl HO_768000.out)
         rintro e w17 ⟨v775,rfl,ho0,hb,hkp⟩
         have HS1_:=ckp_ (hHeld.2) hkp (by first | (rw [add_block];exact (fun hs_=>((((Kd.R_apart' HO_6.out (Kd.R_typed HO_768000.out) (by decide))).1 _ rfl).2) hs_)) | (show ¬ _;simp only [add_block];exact (fun hs_=>((((Kd.R_apart' HO_6.out (Kd.R_typed HO_768000.out) (by decide))).1 _ rfl).2) hs_)) | exact (fun hs_=>((((Kd.R_apart' HO_6.out (Kd.R_typed HO_768000.out) (by decide))).1 _ rfl).2) hs_))
         refine ⟨_,rfl,?_⟩
         replace HO_6:=am (Kd.R_mono (ok':=fun k_=>(P0_0_ k_ ∨ w.heap.size ≤ k_)) (Kd.R_keptB ((Kd.R_apart' HO_6.out (Kd.R_typed HO_768000.out) (by decide))) hkp (fun k_ hk_ hs_=>(hk_.2) hs_)) (fun k_ hk_=>hk_.1.1))
         replace BK767:=am (blk_kept (bk BK767) hkp (fun hs_=>(fun e_=>(Kd.R_ne HO_768000.out BK767.out (by decide)) e_) hs_))
         replace BK768:=am (blk_kept (bk BK768) hkp (fun hs_=>(fun e_=>(Kd.R_ne HO_768000.out BK768.out (by decide)) e_) hs_))
         replace BK778:=am (blk_kept (bk BK778) hkp (fun hs_=>(fun e_=>(Kd.R_ne HO_768000.out BK778.out (by decide)) e_) hs_))
         have HO776:=am (Kd.R_mono (ok':=fun k_=>(P0_0_ k_ ∨ w.heap.size ≤ k_)) ho0 (fun k_ hk_=>Or.elim hk_ (fun hs_=>(HO_768000.out.1 k_ (hs_).symm)) (fun hn_=>(.inr (Nat.le_trans (by first | exact HK.out.1 | exact (show Kept w _ (fun k_=>P0_0_ k_) from m16_).1) hn_)))))
         replace HK:=am (Kept.then_ (S:=(fun k_=>P0_0_ k_)) m16_ hkp (fun k_ hs_=>(fun e_=>(HO_768000.out.1 k_ e_.symm)) hs_))
         replace HB:=am hb
         clear HO_768000
         (try clear hb)
         (try clear hkp)
         (try clear ho0)
         refine hK.out _ _ ⟨bcell BK767 0,HS1_⟩ (fun hHeld=>?_)
         clear hK K
         refine nm_ ?_
         refine pu_ 6 (some 23) (bm 12 639) ?_
         refine pu_ 7 (some 30) (bm 12 767) ?_
         refine pu_ 8 (some 31) (bm 12 1023) ?_
         exact norm_ (by simp only [putAll,Act.put,List.setIfInBounds_toArray,List.set_cons_zero,List.set_cons_succ]) (hCont (v775,gb778) _ ⟨hHeld,(rs HO776),(rs HO_6),(bk BK767),(bk BK768),(bk BK778),GW778.out,GE778.out,NB767_778.out,NB778_767.out,NB768_778.out,NB778_768.out,m16_,(bl HB)⟩)
       rintro ⟨v775,gb778⟩ w18 ⟨hS_,h0_,h1_,h2_,h3_,h4_,h5_,h6_,h7_,h8_,h9_,h10_,h11_,h12_⟩
       have n0_ : Aside0 (Kd.R k34 34 w18 w0.heap.size (fun k_=>(P0_0_ k_ ∨ w.heap.size ≤ k_)) v775 t774):=⟨h0_⟩
       have n1_ : Aside0 (Kd.R Kd.string 9 w18 w0.heap.size (fun k_=>(P0_0_ k_ ∨ w.heap.size ≤ k_)) (.slice (some ad773) t769.length co13) t769):=⟨h1_⟩
       have n2_ : Aside0 (w18.heap[gb767]? = some (.cells #[.slice Ao14 x768000_1.length co14] 25 (0,0))):=⟨h2_⟩
       have n3_ : Aside0 (w18.heap[gb768]? = some (.cells #[.slice none 0 0] 25 (0,0))):=⟨h3_⟩
       have n4_ : Aside0 (w18.heap[gb778]? = some (.cells #[.slice none 0 0] 25 (0,0))):=⟨h4_⟩
       have n5_ : Aside0 (w.heap.size ≤ gb778):=⟨h5_⟩
       have n6_ : Aside0 (w0.heap.size ≤ gb778):=⟨h6_⟩
       have n7_ : Aside0 (gb767 ≠ gb778):=⟨h7_⟩
       have n8_ : Aside0 (gb778 ≠ gb767):=⟨h8_⟩
       have n9_ : Aside0 (gb768 ≠ gb778):=⟨h9_⟩
       have n10_ : Aside0 (gb778 ≠ gb768):=⟨h10_⟩
       have n11_ : Aside0 (Kept w w18 (fun k_=>P0_0_ k_)):=⟨h11_⟩
       have n12_ : Aside0 (Below w0.heap.size w0 w18):=⟨h12_⟩
       clear HO_6
       clear HO_768000
       clear BK767
       clear BK768
       clear HK
       clear HB
       clear h0_ h1_ h2_ h3_ h4_ h5_ h6_ h7_ h8_ h9_ h10_ h11_ h12_
       have HO776:=n0_
       have HO_6:=n1_
       have BK767:=n2_
       have BK768:=n3_
       have BK778:=n4_
       have GW778:=n5_
       have GE778:=n6_
       have NB767_778:=n7_
       have NB778_767:=n8_
       have NB768_778:=n9_
       have NB778_768:=n10_
       have HK:=n11_
       have HB:=n12_
       clear n0_ n1_ n2_ n3_ n4_ n5_ n6_ n7_ n8_ n9_ n10_ n11_ n12_
       have hHeld : w18.cell? ⟨gb767,0,none⟩ = some (.slice Ao14 x768000_1.length co14) ∧ w18.cell? (ad773.add (x9_1).toNat) = some (.string (rdOf ByteArray.empty t769 x9_1)):=hS_
       obtain ⟨Ao19,co19,eo19⟩:=Kd.R_slice HO776.out
       (first | subst eo19 | (injection eo19 with f1_ f2_ f3_;have f4_:=f1_.symm;have f5_:=f3_.symm;clear f1_ f2_ f3_;subst f4_;subst f5_))
       refine norm_ (a':=?_) ?_ ?_
       rotate_left
       ·simp only [putAll,Act.put,List.setIfInBounds_toArray,List.set_cons_zero,List.set_cons_succ]
        rfl
       refine on_ 10 none (bm 12 2047) (fun K hK=>?_)
       have : w18.cell? ⟨gb778,0,none⟩ = some (.slice none 0 0):=bcell BK778 0
       have:=bfz BK778 0
       have:=NB767_778.out
       have:=NB768_778.out
       have:=NB778_767.out
       have:=NB778_768.out
       refine skip_ (w1:=?_) (by rfl) rfl ?_ ?_
       rotate_left
       ·go_simp
        rfl
       refine hK.out _ _ ⟨((cell_far (p:=⟨gb778,_,none⟩) NB767_778.out _).trans (hHeld.1)),((cell_far (p:=⟨gb778,_,none⟩) (by first | exact Kd.own_blk (Kd.R_ne HO_6.out BK778.out (by decide)) | (rw [add_block];exact Kd.own_blk (Kd.R_ne HO_6.out BK778.out (by decide))) | (show (Addr.add _ _).block ≠ _;rw [add_block];exact Kd.own_blk (Kd.R_ne HO_6.out BK778.out (by decide))) | (dsimp only;exact Kd.own_blk (Kd.R_ne HO_6.out BK778.out (by decide)))) _).trans (hHeld.2))⟩ (fun hHeld=>?_)
       clear hK K
       refine pu_ 11 (some 11) (bm 12 4095) ?_
       refine done_ (done_of HT_.out (by kernel_rfl)) ?_
       have:=NB778_767.out
       have:=NB767_778.out
       have:=NB778_768.out
       have:=NB768_778.out
       have:=bcell BK778 0
       have:=bfz BK778 0
       have:=NB767_768.out
       have:=NB768_767.out
       have:=bcell BK767 0
       have:=bfz BK767 0
       try go_wp2
       go_roundg k1
       case measure=>have:=HK1.out;omega
       case rel=>exact ⟨((x8_1 ++ t777) ++ (⟨#[59]⟩ : ByteArray)),(wrap64 (x9_1 + 1)),(t774),(.slice Ao19 t774.length co19),rs_,rs_,H',⟨by have:=HK1.out;omega⟩,⟨by (with_reducible repeat apply ru);exact Kd.R_mono (Kd.R_far (p:=⟨gb767,0,none⟩) (Kd.R_far (p:=⟨gb778,0,none⟩) (Kd.R_types (Kd.R_types HO_6.out BK778.out (by decide)) BK767.out (by decide)) (fun _ hk=>hk.1.2) (.slice Ao19 t774.length co19)) (fun _ hk=>hk.2) (.slice Ao19 t774.length co19)) (fun _ hk=>hk.1.1)⟩,⟨by (with_reducible repeat apply ru);exact Kd.R_mono (Kd.R_far (p:=⟨gb767,0,none⟩) (Kd.R_far (p:=⟨gb778,0,none⟩) (Kd.R_types (Kd.R_types HO776.out BK778.out (by decide)) BK767.out (by decide)) (fun _ hk=>hk.1.2) (.slice Ao19 t774.length co19)) (fun _ hk=>hk.2) (.slice Ao19 t774.length co19)) (fun _ hk=>hk.1.1)⟩,⟨by (with_reducible repeat refine bu ?_);refine blk_put (cs:=#[.slice Ao14 x768000_1.length co14]) ?_ 0 _ rfl;(with_reducible repeat refine bu ?_);refine blk_far ?_ NB767_778.out _;(with_reducible repeat refine bu ?_);exact BK767.out⟩,bf_ BK768,⟨m16_⟩,⟨m2_⟩⟩
      ·rw [if_neg c12] at H
       exact absurd H (by simp)
     ·rw [if_neg c11] at H
      exact absurd H (by simp)
    ·rw [if_neg c9] at H
     exact absurd H (by simp)
   ·rw [if_neg c8] at H
    have c8b0 : decide (x9_1 < (t769.length : Int)) = false:=decide_eq_false c8
    clear c8
    simp only [Option.some.injEq,Prod.mk.injEq] at H
    obtain ⟨rfl,rfl⟩:=H
    obtain ⟨Ao26,co26,eo26⟩:=Kd.R_slice HO_6.out
    subst eo26
    have:=NB767_768.out
    have:=NB768_767.out
    have:=bcell BK767 0
    have:=bfz BK767 0
    obtain ⟨Ao29,co29,eo29⟩:=Kd.R_slice HO_768000.out
    subst eo29
    have:=bcell BK768 0
    have:=bfz BK768 0
    go_wp2
    refine bodyPost_ret (results_ct rfl _ _ gb768 25 #[.slice Ao29 x768000_1.length co29] (0,0) _ rfl (by (with_reducible repeat refine bu ?_);refine blk_put (cs:=#[.slice none 0 0]) ?_ 0 _ rfl;(with_reducible repeat refine bu ?_);exact BK768.out) Tryz.underlying25 rfl (by kernel_rfl)) rfl ?_
    exact ⟨_,fi_,by (with_reducible repeat apply ru);exact Kd.R_mono (Kd.R_far (p:=⟨gb768,0,none⟩) (Kd.R_types HO_768000.out BK768.out (by decide)) (fun _ hk=>hk.2) (.slice Ao29 x768000_1.length co29)) (fun _ hk=>hk.1),m2_,m16_⟩
def spec_RwrStream.j0 : Nat → ByteArray → Bool → List (S34) → Option ((List (S34)) × ByteArray)
 | 0,_,_,_=>none
 | k + 1,x1,x13,x780000=>if x13 = true then (some (([] : List (S34)),(⟨#[]⟩ : ByteArray))) else ((spec_l3Copy.f x780000).bind fun t783=>((spec_l3Stream.f k t783 x1).bind fun bt786=>(some (bt786.1,bt786.2))))
def spec_RwrStream.f (k : Nat) (l0_0 : List (S34)) (a1 : ByteArray) : Option ((List (S34)) × ByteArray):=(spec_MapOk.f k l0_0).bind fun t781=>(if t781 = true then ((spec_StrOk.f k a1).bind fun t782=>(spec_RwrStream.j0 k a1 (!t782) l0_0)) else (spec_RwrStream.j0 k a1 true l0_0))
theorem spec_RwrStream.mono_l : ∀ k,(∀ y0 y1 y2,LeO (spec_RwrStream.j0 k y0 y1 y2) (spec_RwrStream.j0 (k + 1) y0 y1 y2))
 | 0=>fun _ _ _ r h=>by simp [spec_RwrStream.j0] at h
 | k + 1=>by
  have ih0:=spec_RwrStream.mono_l k
  ·intro y0 y1 y2
   unfold spec_RwrStream.j0
   repeat' first | (with_reducible first | exact ih0 _ _ _ | exact spec_MapOk.mono _ _ | exact spec_StrOk.mono _ _ | exact spec_l3Stream.mono _ _ _ | exact LeO.refl _ | exact LeO.none _ | refine LeO.ite ?_ ?_ | refine LeO.bind ?_ (fun _=>?_)) | exact ih0 _ _ _ | exact spec_MapOk.mono _ _ | exact spec_StrOk.mono _ _ | exact spec_l3Stream.mono _ _ _ | exact LeO.none _ | refine LeO.ite ?_ ?_ | refine LeO.bind ?_ (fun _=>?_)
theorem spec_RwrStream.mono : ∀ a0 a1 k,LeO (spec_RwrStream.f k a0 a1) (spec_RwrStream.f (k + 1) a0 a1):=by
 intro a0 a1 k
 have ih0:=spec_RwrStream.mono_l k
 unfold spec_RwrStream.f
 repeat' first | (with_reducible first | exact ih0 _ _ _ | exact spec_MapOk.mono _ _ | exact spec_StrOk.mono _ _ | exact spec_l3Stream.mono _ _ _ | exact LeO.refl _ | exact LeO.none _ | refine LeO.ite ?_ ?_ | refine LeO.bind ?_ (fun _=>?_)) | exact ih0 _ _ _ | exact spec_MapOk.mono _ _ | exact spec_StrOk.mono _ _ | exact spec_l3Stream.mono _ _ _ | exact LeO.none _ | refine LeO.ite ?_ ?_ | refine LeO.bind ?_ (fun _=>?_)
set_option maxHeartbeats 8000000 in
set_option maxRecDepth 100000 in
theorem spec_RwrStream.calls (k : Nat) (A0_0 : Option Addr) (c0_0 : Nat) (l0_0 : List (S34)) (a1 : ByteArray) (r1 : List (S34)) (r2 : ByteArray) (w : World) (hr0_0 : Kd.C k34 w A0_0 l0_0.length l0_0) (hc0_0 : l0_0.length ≤ c0_0) (h : spec_RwrStream.f k l0_0 a1 = some (r1,r2)) :
  Calls Tryz.prog 37 #[.agg #[.slice A0_0 l0_0.length c0_0],.string a1] w fun e w'=>∃ v0_ : Value,e = .returned (.tuple #[.agg #[v0_],.string r2]) ∧ Kd.R k34 34 w' w.heap.size (fun _=>True) v0_ r1 ∧ Below w.heap.size w w':=by
 have hu25:=Tryz.underlying25
 have HR0_0:=am hr0_0
 have HC0_0:=am hc0_0
 clear hr0_0 hc0_0
 have HB:=am (Below.refl w.heap.size w)
 have H : ((spec_MapOk.f k l0_0).bind fun t781=>(if t781 = true then ((spec_StrOk.f k a1).bind fun t782=>(spec_RwrStream.j0 k a1 (!t782) l0_0)) else (spec_RwrStream.j0 k a1 true l0_0))) = some (r1,r2):=h
 clear h
 have HC3:=am H
 clear H
 go_enter Tryz.func37,Tryz.ntmps37
 go_upto_region 1 with (first | ((with_reducible refine gD 2 rfl ?_);refine box_event rfl (N:=2) rfl (cs:=#[.slice A0_0 l0_0.length c0_0]) (t:=25) hr_ ?_;intro gb779 hg w4 hbox hb;have BK779:=am hbox;have GW779:=gwE HB hg;have GE779:=gwE HB hg;replace HB:=hbS HB hb;clear hb hbox hg) | ((with_reducible refine gD 4 rfl ?_);refine box_event rfl (N:=4) rfl (cs:=#[.slice none 0 0]) (t:=25) hr_ ?_;intro gb780 hg w5 hbox hb;have BK780:=am hbox;have GW780:=gwE HB hg;have GE780:=gwE HB hg;replace HB:=hbS HB hb;have NB779_780:=neL BK779 hg;have NB780_779:=neG BK779 hg;replace BK779:=bkB BK779 hb;clear hb hbox hg))
 (try simp only [Act.put,List.setIfInBounds_toArray,List.set_cons_zero,List.set_cons_succ])
 go_cut [13] (fun v13 wc=>∃ (kq : Nat) (x13_2 : Bool),v13 = .bool x13_2 ∧ Aside0 (spec_RwrStream.j0 kq a1 x13_2 l0_0 = some (r1,r2)) ∧ Aside0 (kq ≤ k) ∧ Aside0 (wc.heap[gb779]? = some (.cells #[(.slice A0_0 l0_0.length c0_0)] 25 (0,0))) ∧ Aside0 (wc.heap[gb780]? = some (.cells #[(.slice none 0 0)] 25 (0,0))) ∧ Aside0 (Below w.heap.size w wc))
 case first=>
  have H:=HC3.out
  clear HC3
  obtain ⟨t781,A6,H⟩:=bse H
  try dsimp only at H
  by_cases c7 : t781 = true
  ·subst c7
   have H1 : ((spec_StrOk.f k a1).bind fun t782=>(spec_RwrStream.j0 k a1 (!t782) l0_0)) = some (r1,r2):=by rw [if_pos rfl] at H;exact H
   clear H
   have H:=H1
   clear H1
   obtain ⟨t782,A8,H⟩:=bse H
   try dsimp only at H
   have H':=am H
   clear H
   have:=NB779_780.out
   have:=NB780_779.out
   have hcz10_0:=bcell BK779 0
   have hfz10_0:=blk_frozen BK779.out 0
   go_wp2_with (first | ((with_reducible refine gC 16 rfl ?_);refine gL (some 7) Tryz.func16 #[.agg #[.slice A0_0 l0_0.length c0_0]] ?_;(with_reducible refine (spec_MapOk.calls k _ _ l0_0 true _ ?side1 ?side2 A6.out).mono ?_);(case side1=>exact m4_);(case side2=>exact HC0_0.out);rintro e w11 ⟨rfl,hb⟩;refine ⟨_,rfl,?_⟩;replace BK779:=bkB BK779 hb;replace BK780:=bkB BK780 hb;replace HB:=hbS HB hb;(try clear hb)) | (go_at_call 33;(with_reducible refine (spec_StrOk.calls k a1 t782 _ A8.out).mono ?_);rintro e w12 ⟨rfl,hb⟩;replace BK779:=bkB BK779 hb;replace BK780:=bkB BK780 hb;replace HB:=hbS HB hb;(try clear hb)))
   go_meet
   case rel=>exact ⟨_,(!t782),rs_,H',⟨by first | omega | exact Nat.le_refl _⟩,⟨bk BK779⟩,⟨bk BK780⟩,⟨m2_⟩⟩
  ·replace c7:=Bool.eq_false_iff.mpr c7
   subst c7
   have H1 : (spec_RwrStream.j0 k a1 true l0_0) = some (r1,r2):=by rw [if_neg (show ¬ (false = true) by decide)] at H;exact H
   clear H
   have H:=H1
   clear H1
   have H':=am H
   clear H
   have:=NB779_780.out
   have:=NB780_779.out
   have hcz14_0:=bcell BK779 0
   have hfz14_0:=blk_frozen BK779.out 0
   go_wp2_with (first | ((with_reducible refine gC 16 rfl ?_);refine gL (some 7) Tryz.func16 #[.agg #[.slice A0_0 l0_0.length c0_0]] ?_;(with_reducible refine (spec_MapOk.calls k _ _ l0_0 false _ ?side1 ?side2 A6.out).mono ?_);(case side1=>exact m4_);(case side2=>exact HC0_0.out);rintro e w15 ⟨rfl,hb⟩;refine ⟨_,rfl,?_⟩;replace BK779:=bkB BK779 hb;replace BK780:=bkB BK780 hb;replace HB:=hbS HB hb;(try clear hb)))
   go_meet
   case rel=>exact ⟨_,(true),rs_,H',⟨by first | omega | exact Nat.le_refl _⟩,⟨bk BK779⟩,⟨bk BK780⟩,⟨m2_⟩⟩
 case rest=>
  clear HC3
  try clear c1
  try clear p2
  try clear c3
  try clear c7
  try clear c9
  try clear c13
  try clear hcz10_0
  try clear hcz14_0
  try clear hfz10_0
  try clear hfz14_0
  obtain ⟨kq,x13_2,rfl,HA,HJ2,BK779,BK780,HB⟩:=hcut
  cases kq with
  | zero=>exact absurd HA.out (by simp [spec_RwrStream.j0])
  | succ kj2=>
   have H:=HA.out
   clear HA
   simp only [spec_RwrStream.j0] at H
   by_cases c16 : x13_2 = true
   ·subst c16
    have H1 : (some (([] : List (S34)),(⟨#[]⟩ : ByteArray))) = some (r1,r2):=by rw [if_pos rfl] at H;exact H
    clear H
    have H:=H1
    clear H1
    simp only [Option.some.injEq,Prod.mk.injEq] at H
    obtain ⟨rfl,rfl⟩:=H
    have:=NB780_779.out
    have:=NB779_780.out
    have:=bcell BK780 0
    have:=bfz BK780 0
    go_wp2
    refine bodyPost_ret (results_ct rfl _ _ gb780 25 #[.slice none 0 0] (0,0) _ rfl (by (with_reducible repeat refine bu ?_);refine blk_put (cs:=#[.slice none 0 0]) ?_ 0 _ rfl;(with_reducible repeat refine bu ?_);exact BK780.out) Tryz.underlying25 rfl (by kernel_rfl)) rfl ?_
    exact ⟨_,fi_,by first | exact Kd.R_nil _ _ _ _ _ | exact Kd.N_nil _ _ _ _ _ | exact Kd.V_nil _ _ _ _ _ | exact Kd.Q_nil _ _ _ _ _ | exact Kd.S_nil _ _ _ _ _,m2_⟩
   ·replace c16:=Bool.eq_false_iff.mpr c16
    subst c16
    have H1 : ((spec_l3Copy.f l0_0).bind fun t783=>((spec_l3Stream.f kj2 t783 a1).bind fun bt786=>(some (bt786.1,bt786.2)))) = some (r1,r2):=by rw [if_neg (show ¬ (false = true) by decide)] at H;exact H
    clear H
    have H:=H1
    clear H1
    obtain ⟨t783,A19,H⟩:=bse H
    try dsimp only at H
    obtain ⟨⟨t786,t789⟩,A20,H⟩:=bse H
    try dsimp only at H
    simp only [Option.some.injEq,Prod.mk.injEq] at H
    obtain ⟨rfl,rfl⟩:=H
    have:=NB779_780.out
    have:=NB780_779.out
    have:=bcell BK779 0
    have:=bfz BK779 0
    go_wp2_with (first | ((with_reducible refine gC 47 rfl ?_);refine gL (some 16) Tryz.func47 #[.agg #[.slice A0_0 l0_0.length c0_0]] ?_;(with_reducible refine (spec_l3Copy.calls _ _ l0_0 t783 _ ?side1 ?side2 A19.out).mono ?_);(case side1=>exact m4_);(case side2=>exact HC0_0.out);rintro e w23 ⟨v784,rfl,ho0,hb⟩;refine ⟨_,rfl,?_⟩;have HO785:=am (Kd.R_lower ho0 (below_size (bl HB)));replace BK779:=bkB BK779 hb;replace BK780:=bkB BK780 hb;replace HB:=hbS HB hb;(try clear hb);(try clear ho0);obtain ⟨Ao24,co24,eo24⟩:=Kd.R_slice HO785.out;subst eo24) | ((with_reducible refine gC 73 rfl ?_);refine gL (some 18) Tryz.func73 #[.agg #[.slice Ao24 t783.length co24],.string a1] ?_;(with_reducible refine (spec_l3Stream.calls kj2 (fun k_=>some k_ = (.slice Ao24 t783.length co24 : Value).ownBlock) (.slice Ao24 t783.length co24) t783 a1 t786 t789 w _ ?side1 ?side2 A20.out).mono ?_);(case side1=>exact m2_);(case side2=>exact Kd.R_tight rfl HO785.out);rintro e w25 ⟨v787,rfl,ho0,hb,hkp⟩;refine ⟨_,rfl,?_⟩;replace BK779:=am (blk_kept (bk BK779) hkp (fun hs_=>(fun e_=>(Kd.R_ne HO785.out BK779.out (by decide)) e_) hs_));replace BK780:=am (blk_kept (bk BK780) hkp (fun hs_=>(fun e_=>(Kd.R_ne HO785.out BK780.out (by decide)) e_) hs_));have HO788:=am (Kd.R_mono (ok':=fun k_=>True) ho0 (fun k_ hk_=>trivial));replace HB:=am hb;clear HO785;(try clear hb);(try clear hkp);(try clear ho0);obtain ⟨Ao26,co26,eo26⟩:=Kd.R_slice HO788.out;subst eo26;have:=bcell BK780 0;have:=bfz BK780 0))
    refine bodyPost_ret (results_ct rfl _ _ gb780 25 #[.slice Ao26 t786.length co26] (0,0) _ rfl (by (with_reducible repeat refine bu ?_);refine blk_put (cs:=#[.slice none 0 0]) ?_ 0 _ rfl;(with_reducible repeat refine bu ?_);exact BK780.out) Tryz.underlying25 rfl (by kernel_rfl)) rfl ?_
    exact ⟨_,fi_,by (with_reducible repeat apply ru);exact Kd.R_mono (Kd.R_far (p:=⟨gb780,0,none⟩) (Kd.R_types HO788.out BK780.out (by decide)) (fun _ hk=>hk.2) (.slice Ao26 t786.length co26)) (fun _ hk=>trivial),m2_⟩
end
theorem ext_step (s : ByteArray) (j i : Nat) (hj : j ≤ i) (h : i < s.size) : s.extract j (i + 1) = s.extract j i ++ ⟨#[s.data.toList[i]'(by rw [len_size]; exact h)]⟩ := by
  apply ba_ext
  have hl : i < s.data.toList.length := by rw [len_size]; exact h
  rw [ByteArray.data_append, Array.toList_append, Lib.extract_data, Lib.extract_data]
  have hd : i - j < (s.data.toList.drop j).length := by rw [List.length_drop]; omega
  rw [show i + 1 - j = (i - j) + 1 by omega, List.take_add_one, List.getElem?_eq_getElem hd, List.getElem_drop]
  simp only [Option.toList_some]
  congr 3
  omega
theorem ext_nil (s : ByteArray) (i : Nat) : s.extract i i = ⟨#[]⟩ := by
  apply ba_ext
  rw [Lib.extract_data]
  simp
theorem specStrLines_a (s : ByteArray) (hs : s.size ≤ 1048576) : Ans (fun k => spec_StrLines.f k s) (fun r => r = (linesB s, restB s)) := by
  have L : ∀ (m i : Nat), s.size - i = m → i ≤ s.size → ∀ (j : Nat) (x4 : List ByteArray), j ≤ i → x4.length ≤ i → x4 ++ lineL (s.extract j i) (s.data.toList.drop i) = linesB s → restL (s.extract j i) (s.data.toList.drop i) = restB s →
      Ans (fun k => spec_StrLines.l0 k s x4 (j : Int) (i : Int)) (fun r => r = (linesB s, restB s)) := by
    intro m
    induction m with
    | zero =>
      intro i hm hi j x4 hj h4 h1 h2
      refine Ans.succ ?_
      unfold spec_StrLines.l0
      refine Ans.neg (by omega) (Ans.pos (by omega) (Ans.pos (by omega) (Ans.pure ?_)))
      have hii : i = s.size := by omega
      subst hii
      rw [List.drop_eq_nil_of_le (by rw [len_size]; omega)] at h1 h2
      rw [lineL, List.append_nil] at h1
      rw [restL] at h2
      rw [h1, Int.toNat_natCast, h2]
    | succ m ih =>
      intro i hm hi j x4 hj h4 h1 h2
      have hlt : i < s.size := by omega
      have hl : i < s.data.toList.length := by rw [len_size]; exact hlt
      have hw : wrap64 ((i : Int) + 1) = ((i + 1 : Nat) : Int) := w64 _ (by omega)
      have e : s.data.toList.drop i = s.data.toList[i] :: s.data.toList.drop (i + 1) := List.drop_eq_getElem_cons hl
      refine Ans.succ ?_
      unfold spec_StrLines.l0
      refine Ans.pos (by omega) (Ans.pos (by omega) ?_)
      rw [bt_get s i hlt, hw]
      rw [e] at h1 h2
      by_cases hc : s.data.toList[i] = 59
      · refine Ans.pos (by rw [hc]; rfl) (Ans.pos (by omega) (Ans.pos (by omega) (Ans.pos (by omega) (Ans.pos (by omega) ?_))))
        simp only [Int.toNat_natCast]
        rw [lineL, if_pos hc] at h1
        rw [restL, if_pos hc] at h2
        refine ih (i + 1) (by omega) (by omega) (i + 1) _ (Nat.le_refl _) (by simp; omega) ?_ ?_
        · rw [ext_nil]; simpa using h1
        · rw [ext_nil]; exact h2
      · refine Ans.neg (fun h => hc (UInt8.toNat_inj.mp (by have : ((59 : UInt8).toNat : Int) = 59 := rfl; omega))) ?_
        rw [lineL, if_neg hc] at h1
        rw [restL, if_neg hc] at h2
        refine ih (i + 1) (by omega) (by omega) j x4 (by omega) (by omega) ?_ ?_
        · rw [ext_step s j i hj hlt]; exact h1
        · rw [ext_step s j i hj hlt]; exact h2
  unfold spec_StrLines.f
  exact L s.size 0 (by omega) (Nat.zero_le _) 0 [] (Nat.le_refl _) (Nat.zero_le _) (by rw [ext_nil]; rfl) (by rw [ext_nil]; rfl)
theorem lineL_size : ∀ (l : List UInt8) (w : ByteArray), (lineL w l).length ≤ l.length ∧ (∀ x ∈ lineL w l, x.size ≤ w.size + l.length) ∧ (restL w l).size ≤ w.size + l.length
  | [], w => ⟨Nat.le_refl _, fun x hx => by simp [lineL] at hx, by simp [restL]⟩
  | c :: l, w => by
    have h1 : (⟨#[c]⟩ : ByteArray).size = 1 := rfl
    have h0 : (⟨#[]⟩ : ByteArray).size = 0 := rfl
    unfold lineL restL
    by_cases h : c = 59
    · rw [if_pos h, if_pos h]
      obtain ⟨a, b, d⟩ := lineL_size l ⟨#[]⟩
      refine ⟨by simp; omega, ?_, by simp; omega⟩
      intro x hx
      rcases List.mem_cons.mp hx with rfl | hx
      · omega
      · have := b x hx; simp; omega
    · rw [if_neg h, if_neg h]
      obtain ⟨a, b, d⟩ := lineL_size l (w ++ ⟨#[c]⟩)
      rw [ByteArray.size_append, h1] at b d
      refine ⟨by simp; omega, ?_, by simp; omega⟩
      intro x hx
      have := b x hx; simp; omega
theorem linesB_size (s : ByteArray) : (linesB s).length ≤ s.size ∧ (∀ x ∈ linesB s, x.size ≤ s.size) ∧ (restB s).size ≤ s.size := by
  have := lineL_size s.data.toList ⟨#[]⟩
  have h0 : (⟨#[]⟩ : ByteArray).size = 0 := rfl
  rw [len_size, h0] at this
  simpa [linesB, restB] using this
def strOkW (s : ByteArray) : Bool := decide (s.size ≤ 120) && ((linesB s).all linOk && linOk (restB s))
theorem rdOf_get {l : List ByteArray} {i : Nat} (h : i < l.length) : rdOf ByteArray.empty l (i : Int) = l[i] := by
  unfold rdOf
  simp [List.getD, h]
theorem specStrOk_a (s : ByteArray) (hs : s.size ≤ 1048576) : Ans (fun k => spec_StrOk.f k s) (fun r => r = strOkW s) := by
  unfold spec_StrOk.f strOkW
  refine Ans.ite (fun h => Ans.pure ?_) (fun h => ?_)
  · have : ¬ s.size ≤ 120 := by omega
    simp [this]
  · have h120 : s.size ≤ 120 := by omega
    obtain ⟨z1, z2, z3⟩ := linesB_size s
    refine Ans.bind (specStrLines_a s hs) ?_
    rintro _ rfl
    dsimp only
    have L : ∀ (m i : Nat), (linesB s).length - i = m → i ≤ (linesB s).length → Ans (fun k => spec_StrOk.l0 k (linesB s) (restB s) (i : Int)) (fun r => r = (((linesB s).drop i).all linOk && linOk (restB s))) := by
      intro m
      induction m with
      | zero =>
        intro i hm hi
        refine Ans.succ ?_
        unfold spec_StrOk.l0
        refine Ans.neg (by omega) (Ans.bind (specLinOk_a _) ?_)
        rintro _ rfl
        rw [List.drop_eq_nil_of_le (by omega)]
        exact Ans.pure (by simp)
      | succ m ih =>
        intro i hm hi
        have hlt : i < (linesB s).length := by omega
        have hw : wrap64 ((i : Int) + 1) = ((i + 1 : Nat) : Int) := w64 _ (by omega)
        refine Ans.succ ?_
        unfold spec_StrOk.l0
        refine Ans.pos (by omega) (Ans.pos (by omega) ?_)
        rw [rdOf_get hlt, hw]
        refine Ans.bind (specLinOk_a _) ?_
        rintro _ rfl
        have e : (linesB s).drop i = (linesB s)[i] :: (linesB s).drop (i + 1) := List.drop_eq_getElem_cons hlt
        rw [e, List.all_cons]
        cases hq : linOk (linesB s)[i] with
        | true => exact Ans.pos rfl ((ih (i + 1) (by omega) (by omega)).mono (by rintro v rfl; simp))
        | false => exact Ans.neg (by simp) (Ans.pure (by simp))
    refine (L _ 0 rfl (Nat.zero_le _)).mono ?_
    rintro v rfl
    simp [h120]
def strW : List S34 → List ByteArray → ByteArray → List S34 × ByteArray
  | l, [], o => (l, o)
  | l, x :: r, o => strW (lineW l x).1 r ((o ++ (lineW l x).2) ++ (⟨#[59]⟩ : ByteArray))
theorem lineW_ok {l : List S34} {s : ByteArray} (c : okT l = true) (cs : linOk s = true) : okT (lineW l s).1 = true ∧ (lineW l s).2.size ≤ 16 ∧ linOk (lineW l s).2 = true := by
  unfold lineW
  cases hr : saysW s with
  | none => exact ⟨c, linOk_size cs, cs⟩
  | some r =>
    obtain ⟨a, p⟩ := r
    have h1 := put_ok c (saysW_in hr)
    have h2 := lportW_size 50 (putV l a p).2
    dsimp only
    split
    · exact ⟨h1, by show noneB.size ≤ 16; decide, by show linOk noneB = true; decide⟩
    · exact ⟨h1, by show (lportW 50 (putV l a p).2).size ≤ 16; omega, lport_linOk _ _⟩
theorem specStream_a {l : List S34} {s : ByteArray} (c : okT l = true) (cs : strOkW s = true) : Ans (fun k => spec_l3Stream.f k l s) (fun r => r = strW l (linesB s) ⟨#[]⟩) := by
  unfold strOkW at cs
  simp only [Bool.and_eq_true, decide_eq_true_eq] at cs
  obtain ⟨h120, hall, _⟩ := cs
  obtain ⟨z1, z2, z3⟩ := linesB_size s
  unfold spec_l3Stream.f
  refine Ans.bind (specStrLines_a s (by omega)) ?_
  rintro _ rfl
  dsimp only
  have L : ∀ (m i : Nat), (linesB s).length - i = m → i ≤ (linesB s).length → ∀ (o : ByteArray) (l : List S34), okT l = true → o.size ≤ 17 * i →
      Ans (fun k => spec_l3Stream.l0 k (linesB s) o (i : Int) l) (fun r => r = strW l ((linesB s).drop i) o) := by
    intro m
    induction m with
    | zero =>
      intro i hm hi o l hl ho
      refine Ans.succ ?_
      unfold spec_l3Stream.l0
      rw [List.drop_eq_nil_of_le (by omega)]
      exact Ans.neg (by omega) (Ans.pure rfl)
    | succ m ih =>
      intro i hm hi o l hl ho
      have hlt : i < (linesB s).length := by omega
      have hw : wrap64 ((i : Int) + 1) = ((i + 1 : Nat) : Int) := w64 _ (by omega)
      have hx : linOk (linesB s)[i] = true := List.all_eq_true.mp hall _ (List.getElem_mem hlt)
      obtain ⟨g1, g2, g3⟩ := lineW_ok hl hx
      have h6 := okT_le hl
      refine Ans.succ ?_
      unfold spec_l3Stream.l0
      refine Ans.pos (by omega) (Ans.pos (by omega) ?_)
      rw [rdOf_get hlt, hw]
      refine Ans.bind (specLine_a (l := l) (by omega) (by have := linOk_size hx; omega)) ?_
      rintro _ rfl
      have e : (linesB s).drop i = (linesB s)[i] :: (linesB s).drop (i + 1) := List.drop_eq_getElem_cons hlt
      rw [e]
      refine Ans.pos (by omega) (Ans.pos (by rw [ByteArray.size_append]; omega) ?_)
      refine ih (i + 1) (by omega) (by omega) _ _ g1 ?_
      have h1 : (⟨#[59]⟩ : ByteArray).size = 1 := rfl
      simp only [ByteArray.size_append, h1]
      omega
  exact L _ 0 rfl (Nat.zero_le _) _ _ c (Nat.le_refl _)
def rwrStreamW (l : List S34) (s : ByteArray) : List S34 × ByteArray := if okT l && strOkW s then strW l (linesB s) ⟨#[]⟩ else ([], ⟨#[]⟩)
theorem specRwrStream_a (l : List S34) (hl : l.length ≤ 2000000) (s : ByteArray) (hs : s.size ≤ 1048576) : Ans (fun k => spec_RwrStream.f k l s) (fun r => r = rwrStreamW l s) := by
  unfold spec_RwrStream.f rwrStreamW
  refine Ans.bind (specMapOk_a l hl) ?_
  rintro _ rfl
  have J0 : Ans (fun k => spec_RwrStream.j0 k s true l) (fun r => r = ([], ⟨#[]⟩)) := by
    refine Ans.succ ?_
    unfold spec_RwrStream.j0
    exact Ans.pos rfl (Ans.pure rfl)
  cases c : okT l with
  | false => exact Ans.neg (by simp) (by simpa using J0)
  | true =>
    refine Ans.pos rfl (Ans.bind (specStrOk_a s hs) ?_)
    rintro _ rfl
    cases c2 : strOkW s with
    | false => simpa using J0
    | true =>
      refine Ans.succ ?_
      unfold spec_RwrStream.j0
      refine Ans.neg (by simp) ?_
      have hl6 := okT_le c
      have hc : spec_l3Copy.f l = some l := by
        unfold spec_l3Copy.f
        rw [Option.bind_some, if_pos (by simp; omega)]
        rfl
      rw [hc]
      refine Ans.bsome (Ans.bind (specStream_a c c2) ?_)
      rintro v rfl
      exact Ans.pure (by simp)
theorem strW_facts : ∀ (xs : List ByteArray) (l : List S34) (o : ByteArray), okT l = true → xs.all linOk = true → okT (strW l xs o).1 = true ∧ (strW l xs o).2.size ≤ o.size + 17 * xs.length
  | [], l, o, c, _ => ⟨c, by simp [strW]⟩
  | x :: r, l, o, c, h => by
    simp only [List.all_cons, Bool.and_eq_true] at h
    obtain ⟨g1, g2, g3⟩ := lineW_ok c h.1
    obtain ⟨q1, q2⟩ := strW_facts r (lineW l x).1 ((o ++ (lineW l x).2) ++ (⟨#[59]⟩ : ByteArray)) g1 h.2
    have h1 : (⟨#[59]⟩ : ByteArray).size = 1 := rfl
    simp only [ByteArray.size_append, h1] at q2
    exact ⟨q1, by unfold strW; simp; omega⟩
theorem rwrStream_facts (l : List S34) (s : ByteArray) : (rwrStreamW l s).1.length ≤ 6 ∧ (rwrStreamW l s).2.size ≤ 2040 := by
  unfold rwrStreamW
  cases c : okT l && strOkW s with
  | false => exact ⟨Nat.zero_le _, Nat.zero_le _⟩
  | true =>
    simp only [Bool.and_eq_true] at c
    have c2 := c.2
    unfold strOkW at c2
    simp only [Bool.and_eq_true, decide_eq_true_eq] at c2
    obtain ⟨q1, q2⟩ := strW_facts (linesB s) l ⟨#[]⟩ c.1 c2.2.1
    have z := linesB_size s
    have h0 : (⟨#[]⟩ : ByteArray).size = 0 := rfl
    simp only [if_true]
    exact ⟨okT_le q1, by omega⟩
theorem stream_a {l : List Int} (hl : Bys l) {s B : Int} (hs : At B s) (hB : B < 300000) : Ans (fun k => spec_l20Stream.f k l s) (fun r => At (B + 60) r.2 ∧ r.1.size ≤ 200) := by
  have h1 : (⟨#[59]⟩ : ByteArray).size = 1 := rfl
  have L : ∀ (m : Nat) (x : ByteArray) (q s B : Int), At B s → B + 4 * (m : Int) < 390000 → x.size ≤ 120 → q ≤ m → m ≤ 9 → Ans (fun k => spec_l20Stream.l0 k x q l s) (fun r => At (B + 4 * m + 6) r.2 ∧ r.1.size ≤ 200) := by
    intro m
    have E : ∀ (x : ByteArray) (s B : Int), At B s → B < 399000 → x.size ≤ 120 → Ans (fun k => (spec_l20Rd_pick.f k l s 3).bind fun bt660 => (if bt660.1 = 0 then ((spec_l20Line.f k l bt660.2).bind fun bt662 => (if (wrap64 ((x.size : Int) + (bt662.1.size : Int))) ≤ 120 then (if x.size + bt662.1.size ≤ 9223372036854775807 then (some (x ++ bt662.1, bt662.2)) else (none)) else (some (x, bt662.2)))) else (some (x, bt660.2)))) (fun r => At (B + 6) r.2 ∧ r.1.size ≤ 200) := by
      intro x s B hs hB hx
      refine Ans.bind (pick_a hl hs (by omega) 3) ?_
      rintro ⟨v, s1⟩ ⟨h1, _⟩
      dsimp only at *
      refine Ans.ite (fun _ => ?_) (fun _ => Ans.pure ⟨at_le h1 (by omega), by dsimp only; omega⟩)
      refine Ans.bind (line_a hl h1 (by omega)) ?_
      rintro ⟨u, s2⟩ ⟨h2, hu⟩
      dsimp only at *
      refine Ans.ite (fun _ => Ans.pos (by omega) (Ans.pure ⟨at_le h2 (by omega), by rw [ByteArray.size_append]; omega⟩)) (fun _ => Ans.pure ⟨at_le h2 (by omega), by dsimp only; omega⟩)
    induction m with
    | zero =>
      intro x q s B hs hB hx hq _
      refine Ans.succ ?_
      unfold spec_l20Stream.l0
      refine Ans.neg (by omega) ((E x s B hs (by omega) hx).mono ?_)
      rintro r ⟨a, b⟩
      exact ⟨at_le a (by omega), b⟩
    | succ m ih =>
      intro x q s B hs hB hx hq hm
      refine Ans.succ ?_
      unfold spec_l20Stream.l0
      refine Ans.ite (fun c => ?_) (fun c => ?_)
      · refine Ans.bind (line_a hl hs (by omega)) ?_
        rintro ⟨u, s1⟩ ⟨g1, hu⟩
        dsimp only at *
        have e : wrap64 (q - 1) = q - 1 := w64 _ (by omega)
        rw [e]
        refine Ans.pos (by omega) (Ans.pos (by rw [ByteArray.size_append]; omega) ?_)
        refine Ans.ite (fun c2 => ?_) (fun c2 => ?_)
        · refine (ih _ _ s1 _ g1 (by omega) (by omega) (by omega) (by omega)).mono ?_
          rintro r ⟨a, b⟩
          exact ⟨at_le a (by push_cast; omega), b⟩
        · refine (ih _ _ s1 _ g1 (by omega) hx (by omega) (by omega)).mono ?_
          rintro r ⟨a, b⟩
          exact ⟨at_le a (by push_cast; omega), b⟩
      · refine (E x s B hs (by omega) hx).mono ?_
        rintro r ⟨a, b⟩
        exact ⟨at_le a (by omega), b⟩
  unfold spec_l20Stream.f
  refine Ans.bind (pick_a hl hs (by omega) 9) ?_
  rintro ⟨v1, s1⟩ ⟨h1', p1⟩
  dsimp only at *
  refine (L 9 ⟨#[]⟩ v1 s1 _ h1' (by omega) (Nat.zero_le _) (by omega) (by omega)).mono ?_
  rintro r ⟨a, b⟩
  exact ⟨at_le a (by omega), b⟩
theorem streamOr_a {l : List Int} (hl : Bys l) {s B : Int} (hs : At B s) (hB : B < 300000) (n : Int) : Ans (fun k => spec_l20StreamOr.f k l s n) (fun r => At (B + 80) r.2 ∧ r.1.size ≤ 400) := by
  have L : ∀ (m : Nat) (x : ByteArray) (s B : Int), At B s → x.size ≤ 400 → 121 ≤ x.size + 5 * m → Ans (fun k => spec_l20StreamOr.l0 k x l s) (fun r => At B r.2 ∧ r.1.size ≤ 400) := by
    intro m
    induction m with
    | zero =>
      intro x s B hs hx hm
      refine Ans.succ ?_
      unfold spec_l20StreamOr.l0
      exact Ans.neg (by omega) (Ans.pure ⟨hs, hx⟩)
    | succ m ih =>
      intro x s B hs hx hm
      refine Ans.succ ?_
      unfold spec_l20StreamOr.l0
      have h5 : (⟨#[108, 105, 115, 116, 59]⟩ : ByteArray).size = 5 := rfl
      refine Ans.ite (fun c => Ans.pos (by omega) (ih _ s B hs (by rw [ByteArray.size_append, h5]; omega) (by rw [ByteArray.size_append, h5]; omega))) (fun c => Ans.pure ⟨hs, hx⟩)
  unfold spec_l20StreamOr.f
  refine Ans.bind (stream_a hl hs (by omega)) ?_
  rintro ⟨u, s1⟩ ⟨h1, hu⟩
  dsimp only at *
  refine Ans.bind (odd_a hl h1 (by omega) n) ?_
  rintro ⟨o, s2⟩ h2
  dsimp only at *
  refine Ans.ite (fun _ => ?_) (fun _ => Ans.pure ⟨at_le h2 (by omega), by dsimp only; omega⟩)
  refine Ans.bind (pick_a hl h2 (by omega) 3) ?_
  rintro ⟨v3, s3⟩ ⟨h3, p3⟩
  dsimp only at *
  refine Ans.ite (fun _ => ?_) (fun _ => Ans.ite (fun _ => ?_) (fun _ => ?_))
  · refine Ans.bind (bent_a hl h3 (by omega) u (by omega)) ?_
    rintro ⟨x, s4⟩ ⟨h4, hx⟩
    exact Ans.pure ⟨at_le h4 (by omega), by dsimp only at *; omega⟩
  · have h18 : (⟨#[97, 98, 99, 100, 101, 102, 103, 104, 105, 106, 32, 107, 108, 109, 110, 111, 112, 59]⟩ : ByteArray).size = 18 := rfl
    exact Ans.pos (by omega) (Ans.pure ⟨at_le h3 (by omega), by rw [ByteArray.size_append, h18]; omega⟩)
  · refine (L 30 u s3 _ h3 (by omega) (by omega)).mono ?_
    rintro r ⟨a, b⟩
    exact ⟨at_le a (by omega), b⟩
theorem drawRwrStream_a {l : List Int} (hl : Bys l) : Ans (fun k => spec_DrawRwrStream.f k l) (fun r => r.1.length ≤ 20 ∧ r.2.size ≤ 400) := by
  unfold spec_DrawRwrStream.f
  obtain ⟨l', e0, hl'⟩ := open_f l hl
  rw [e0]
  refine Ans.bsome (Ans.bind (table_a hl' at0 (by omega) 14) ?_)
  rintro ⟨t, s1⟩ ⟨h1, ht⟩
  dsimp only at *
  refine Ans.bind (streamOr_a hl' h1 (by omega) 9) ?_
  rintro ⟨u, s2⟩ ⟨h2, hu⟩
  exact Ans.pure ⟨ht, hu⟩
theorem implStrLines_f {s : ByteArray} (hs : s.size ≤ 4000000000) : impl_StrLines.f s = some (linesB s, restB s) := by
  unfold impl_StrLines.f; rw [if_pos hs]
theorem implStrOk_a (s : ByteArray) (hs : s.size ≤ 1048576) : Ans (fun k => impl_StrOk.f k s) (fun r => r = strOkW s) := by
  unfold impl_StrOk.f
  rw [implStrLines_f (by omega)]
  obtain ⟨z1, z2, z3⟩ := linesB_size s
  refine Ans.bsome (Ans.pos (by dsimp only; omega) (Ans.bsome ?_))
  dsimp only
  have hlen : (linesB s ++ [restB s]).length ≤ 1048577 := by simp; omega
  have hsz : ∀ x ∈ linesB s ++ [restB s], x.size ≤ 1048576 := by
    intro x hx
    rcases List.mem_append.mp hx with h | h
    · have := z2 x h; omega
    · have : x = restB s := by simpa using h
      subst this; omega
  have e0 : strOkW s = ((linesB s ++ [restB s]).all linOk && decide (s.size ≤ 120)) := by
    unfold strOkW
    rw [List.all_append]
    cases decide (s.size ≤ 120) <;> simp
  rw [e0]
  generalize linesB s ++ [restB s] = y at hlen hsz ⊢
  have L : ∀ (m i : Nat), y.length - i = m → i ≤ y.length → Ans (fun k => impl_StrOk.l0 k s y (y.length : Int) (i : Int)) (fun r => r = ((y.drop i).all linOk && decide (s.size ≤ 120))) := by
    intro m
    induction m with
    | zero =>
      intro i hm hi
      refine Ans.succ ?_
      unfold impl_StrOk.l0
      refine Ans.neg (by omega) (Ans.pure ?_)
      rw [List.drop_eq_nil_of_le (by omega)]
      simp
      omega
    | succ m ih =>
      intro i hm hi
      have hlt : i < y.length := by omega
      have hw : wrap64 ((i : Int) + 1) = ((i + 1 : Nat) : Int) := w64 _ (by omega)
      refine Ans.succ ?_
      unfold impl_StrOk.l0
      refine Ans.pos (by omega) (Ans.pos (by omega) (Ans.pos (by omega) ?_))
      rw [rdOf_get hlt, hw]
      have hx := hsz _ (List.getElem_mem hlt)
      have el : impl_LinOk.f y[i] = some (linOk y[i]) := by unfold impl_LinOk.f; rw [if_pos (by omega)]
      rw [el]
      refine Ans.bsome ?_
      have e : y.drop i = y[i] :: y.drop (i + 1) := List.drop_eq_getElem_cons hlt
      rw [e, List.all_cons]
      cases hq : linOk y[i] with
      | true => exact Ans.pos rfl ((ih (i + 1) (by omega) (by omega)).mono (by rintro v rfl; simp))
      | false => exact Ans.neg (by simp) (Ans.pure (by simp))
  exact (L _ 0 rfl (Nat.zero_le _)).mono (by rintro v rfl; simp)
theorem strOkW_parts {s : ByteArray} (h : strOkW s = true) : s.size ≤ 120 ∧ (linesB s).all linOk = true ∧ linOk (restB s) = true := by
  unfold strOkW at h
  simpa only [Bool.and_eq_true, decide_eq_true_eq] using h
theorem fold_strW : ∀ (xs : List ByteArray) (l : List S34) (o : ByteArray), okT l = true → xs.all linOk = true → o.size + 17 * xs.length ≤ 100000000 → xs.foldlM outStep (l, o) = some (strW l xs o)
  | [], l, o, _, _, _ => rfl
  | x :: r, l, o, c, h, hz => by
    simp only [List.all_cons, Bool.and_eq_true] at h
    obtain ⟨g1, g2, g3⟩ := lineW_ok c h.1
    have hx := linOk_size h.1
    simp only [List.length_cons] at hz
    have h1 : (⟨#[59]⟩ : ByteArray).size = 1 := rfl
    have e : outStep (l, o) x = some ((lineW l x).1, (o ++ (lineW l x).2) ++ (⟨#[59]⟩ : ByteArray)) := by
      unfold outStep
      rw [implGoesOut_f c (by omega), Option.bind_some, if_pos (by dsimp only; omega)]
      dsimp only
      rw [show o ++ ((lineW l x).2 ++ (⟨#[59]⟩ : ByteArray)) = (o ++ (lineW l x).2) ++ (⟨#[59]⟩ : ByteArray) from bax (by simp)]
    rw [List.foldlM_cons, e]
    exact fold_strW r _ _ g1 h.2 (by simp only [ByteArray.size_append, h1]; omega)
theorem implStream_f {l : List S34} {s : ByteArray} (c : okT l = true) (cs : strOkW s = true) : impl_MapTab_streamOut.f l s = some (strW l (linesB s) ⟨#[]⟩) := by
  obtain ⟨h120, hall, _⟩ := strOkW_parts cs
  have hl := okT_le c
  have z := linesB_size s
  have e : impl_MapTab_copied.f l = some l := by
    unfold impl_MapTab_copied.f impl_EndPoint_106.f impl_EndPoint_105.f
    rw [if_pos (by omega)]; rfl
  unfold impl_MapTab_streamOut.f
  rw [if_pos (by omega), e, Option.bind_some]
  exact fold_strW _ _ _ c hall (by have : (⟨#[]⟩ : ByteArray).size = 0 := rfl; omega)
theorem implRwrStream_a (l : List S34) (hl : l.length ≤ 2000000) (s : ByteArray) (hs : s.size ≤ 1048576) : Ans (fun k => impl_RwrStream.f k l s) (fun r => r = rwrStreamW l s) := by
  unfold impl_RwrStream.f rwrStreamW
  refine Ans.bind (implMapOk_a l hl) ?_
  rintro _ rfl
  cases c : okT l with
  | false => exact Ans.neg (by simp) (Ans.pure (by simp))
  | true =>
    refine Ans.pos rfl (Ans.bind (implStrOk_a s hs) ?_)
    rintro _ rfl
    cases c2 : strOkW s with
    | false => exact Ans.neg (by simp) (Ans.pure (by simp))
    | true =>
      refine Ans.pos rfl ?_
      rw [implStream_f c c2]
      exact Ans.bsome (Ans.pure (by simp))
def farsL : List S34 → List ByteArray → List ByteArray
  | _, [] => []
  | l, x :: r => (lineW l x).2 :: farsL (lineW l x).1 r
def tabL : List S34 → List ByteArray → List S34
  | l, [] => l
  | l, x :: r => tabL (lineW l x).1 r
def joinS : List ByteArray → ByteArray
  | [] => ⟨#[]⟩
  | y :: r => (y ++ (⟨#[59]⟩ : ByteArray)) ++ joinS r
theorem strW_eq : ∀ (xs : List ByteArray) (l : List S34) (o : ByteArray), strW l xs o = (tabL l xs, o ++ joinS (farsL l xs))
  | [], l, o => by show (l, o) = (l, o ++ (⟨#[]⟩ : ByteArray)); congr 1; exact bax (by simp)
  | x :: r, l, o => by
    show strW (lineW l x).1 r ((o ++ (lineW l x).2) ++ (⟨#[59]⟩ : ByteArray)) = _
    rw [strW_eq r]
    show (_, _) = (_, _)
    congr 1
    exact bax (by simp [joinS, farsL])
theorem strW_nil (l : List S34) (xs : List ByteArray) : strW l xs (⟨#[]⟩ : ByteArray) = (tabL l xs, joinS (farsL l xs)) := by
  rw [strW_eq]
  have e : (⟨#[]⟩ : ByteArray) ++ joinS (farsL l xs) = joinS (farsL l xs) := bax (by simp)
  rw [e]
theorem rwrStream_ok {l : List S34} {s : ByteArray} (c : okT l = true) (cs : strOkW s = true) : rwrStreamW l s = (tabL l (linesB s), joinS (farsL l (linesB s))) := by
  unfold rwrStreamW; rw [c, cs]; simp only [Bool.and_self, if_true]; exact strW_nil _ _
theorem farsL_length : ∀ (xs : List ByteArray) (l : List S34), (farsL l xs).length = xs.length
  | [], _ => rfl
  | x :: r, l => by simp [farsL, farsL_length r]
theorem farsL_append : ∀ (xs ys : List ByteArray) (l : List S34), farsL l (xs ++ ys) = farsL l xs ++ farsL (tabL l xs) ys
  | [], _, _ => rfl
  | x :: r, ys, l => by simp [farsL, tabL, farsL_append r]
theorem tabL_append : ∀ (xs ys : List ByteArray) (l : List S34), tabL l (xs ++ ys) = tabL (tabL l xs) ys
  | [], _, _ => rfl
  | x :: r, ys, l => by simp [tabL, tabL_append r]
theorem joinS_append : ∀ (xs ys : List ByteArray), joinS (xs ++ ys) = joinS xs ++ joinS ys
  | [], ys => bax (by simp [joinS])
  | x :: r, ys => by
    show (x ++ (⟨#[59]⟩ : ByteArray)) ++ joinS (r ++ ys) = ((x ++ (⟨#[59]⟩ : ByteArray)) ++ joinS r) ++ joinS ys
    rw [joinS_append r]; exact bax (by simp)
theorem linOk_no {x : ByteArray} (h : linOk x = true) : ∀ c ∈ x.data.toList, c ≠ 59 := by
  intro c hc e
  unfold linOk bys at h
  simp only [Bool.and_eq_true, List.all_map, List.all_eq_true] at h
  have := h.1 c hc
  subst e
  revert this; decide
theorem lineL_at : ∀ (x y : List UInt8) (w : ByteArray), (∀ c ∈ x, c ≠ 59) → lineL w (x ++ 59 :: y) = (w ++ ⟨x.toArray⟩) :: lineL ⟨#[]⟩ y
  | [], y, w, _ => by
    simp only [List.nil_append, lineL, if_true]; congr 1; exact bax (by simp)
  | c :: x, y, w, h => by
    rw [List.cons_append, lineL, if_neg (h c (by simp)), lineL_at x y _ (fun d hd => h d (by simp [hd]))]
    congr 1; exact bax (by simp)
theorem lines_cons (y t : ByteArray) (h : ∀ c ∈ y.data.toList, c ≠ 59) : linesB ((y ++ (⟨#[59]⟩ : ByteArray)) ++ t) = y :: linesB t ∧ restB ((y ++ (⟨#[59]⟩ : ByteArray)) ++ t) = restB t := by
  have e : ((y ++ (⟨#[59]⟩ : ByteArray)) ++ t).data.toList = y.data.toList ++ 59 :: t.data.toList := by simp
  unfold linesB restB
  rw [e, lineL_at _ _ _ h, restL_at]
  have e2 : (⟨#[]⟩ : ByteArray) ++ ⟨y.data.toList.toArray⟩ = y := bax (by simp)
  rw [e2]
  exact ⟨rfl, rfl⟩
theorem lines_join : ∀ (ys : List ByteArray), (∀ y ∈ ys, ∀ c ∈ y.data.toList, c ≠ 59) → linesB (joinS ys) = ys ∧ restB (joinS ys) = ⟨#[]⟩
  | [], _ => ⟨rfl, rfl⟩
  | y :: r, h => by
    obtain ⟨a, b⟩ := lines_cons y (joinS r) (h y (by simp))
    obtain ⟨a2, b2⟩ := lines_join r (fun z hz => h z (by simp [hz]))
    exact ⟨by show linesB ((y ++ (⟨#[59]⟩ : ByteArray)) ++ joinS r) = _; rw [a, a2], by show restB ((y ++ (⟨#[59]⟩ : ByteArray)) ++ joinS r) = _; rw [b, b2]⟩
theorem lineL_append : ∀ (x y : List UInt8) (w : ByteArray), lineL w (x ++ y) = lineL w x ++ lineL (restL w x) y ∧ restL w (x ++ y) = restL (restL w x) y
  | [], y, w => ⟨rfl, rfl⟩
  | c :: x, y, w => by
    simp only [List.cons_append, lineL, restL]
    by_cases h : c = 59
    · rw [if_pos h, if_pos h, if_pos h, if_pos h]
      obtain ⟨a, b⟩ := lineL_append x y ⟨#[]⟩
      exact ⟨by rw [a]; rfl, b⟩
    · rw [if_neg h, if_neg h, if_neg h, if_neg h]
      exact lineL_append x y _
theorem lines_append {a : ByteArray} (b : ByteArray) (h : restB a = ⟨#[]⟩) : linesB (a ++ b) = linesB a ++ linesB b ∧ restB (a ++ b) = restB b := by
  have e : (a ++ b).data.toList = a.data.toList ++ b.data.toList := by simp
  obtain ⟨x, y⟩ := lineL_append a.data.toList b.data.toList ⟨#[]⟩
  unfold restB at h
  rw [h] at x y
  unfold linesB restB
  rw [e]
  exact ⟨x, y⟩
theorem lines_take (s : ByteArray) (k : Nat) : ∃ t, linesB s = linesB (s.extract 0 k) ++ t := by
  have e : s.data.toList = (s.extract 0 k).data.toList ++ s.data.toList.drop k := by
    rw [Lib.extract_data]; simp
  have h := (lineL_append (s.extract 0 k).data.toList (s.data.toList.drop k) ⟨#[]⟩).1
  rw [← e] at h
  exact ⟨_, h⟩
section
attribute [local go_sem] max2_int min2_int max_two min_two max_three min_three max_four min_four
def impl_LinBox.f (a0 : ByteArray) : Option (Int × Bool):=(impl_said.f a0).bind fun bt603=>(if bt603.2.2 = true then (if bt603.1 = 50 then (some (bt603.2.1,true)) else (some (0,false))) else (some (0,false)))
set_option maxHeartbeats 8000000 in
set_option maxRecDepth 100000 in
theorem impl_LinBox.calls (a0 : ByteArray) (r1 : Int) (r2 : Bool) (w : World) (h : impl_LinBox.f a0 = some (r1,r2)) (hE : EnvE w) :
  Calls Tryz.prog 38 #[.string a0] w fun e w'=>e = .returned (.tuple #[.int .i64 r1,.bool r2]) ∧ Below w.heap.size w w':=by
 have hu34:=Tryz.underlying34
 have HB:=am (Below.refl w.heap.size w)
 have H : ((impl_said.f a0).bind fun bt603=>(if bt603.2.2 = true then (if bt603.1 = 50 then (some (bt603.2.1,true)) else (some (0,false))) else (some (0,false)))) = some (r1,r2):=h
 clear h
 obtain ⟨⟨t603,t604,t605⟩,A2,H⟩:=bse H
 try dsimp only at H
 by_cases c3 : t605 = true
 ·subst c3
  have H1 : (if t603 = 50 then (some (t604,true)) else (some (0,false))) = some (r1,r2):=by rw [if_pos rfl] at H;exact H
  clear H
  have H:=H1
  clear H1
  by_cases c4 : t603 = 50
  ·rw [if_pos c4] at H
   have c4b0 : (t603 == 50) = true:=beq_iff_eq.mpr c4
   have c4b1 : (t603 != 50) = false:=bne_eq_false_iff_eq.mpr c4
   clear c4
   simp only [Option.some.injEq,Prod.mk.injEq] at H
   obtain ⟨rfl,rfl⟩:=H
   go_enter Tryz.func38,Tryz.ntmps38
   go_wp2_with (first | ((with_reducible refine gC 51 rfl ?_);refine gL (some 8) Tryz.func51 #[.string a0] ?_;(with_reducible refine (impl_said.calls a0 t603 t604 true _ A2.out (EnvE.below hE (bl HB))).mono ?_);rintro e w5 ⟨rfl,hb⟩;refine ⟨_,rfl,?_⟩;replace HB:=hbS HB hb;(try clear hb)) | ((with_reducible refine gD 4 rfl ?_);refine box_event rfl (N:=4) rfl (cs:=#[.int .i64 0,.int .i64 0]) (t:=34) hr_ ?_;intro gb606 hg w6 hbox hb;have BK606:=am hbox;have GW606:=gwE HB hg;have GE606:=gwE HB hg;replace HB:=hbS HB hb;clear hb hbox hg;have:=bcell BK606 0;have:=bcell BK606 1;have:=bfz BK606 0;have:=bfz BK606 1))
   go_ret2
   exact ⟨fi_,m2_⟩
  ·rw [if_neg c4] at H
   have c4b0 : (t603 == 50) = false:=beq_eq_false_iff_ne.mpr c4
   have c4b1 : (t603 != 50) = true:=bne_iff_ne.mpr c4
   simp only [Option.some.injEq,Prod.mk.injEq] at H
   obtain ⟨rfl,rfl⟩:=H
   go_enter Tryz.func38,Tryz.ntmps38
   go_wp2_with (first | ((with_reducible refine gC 51 rfl ?_);refine gL (some 8) Tryz.func51 #[.string a0] ?_;(with_reducible refine (impl_said.calls a0 t603 t604 true _ A2.out (EnvE.below hE (bl HB))).mono ?_);rintro e w8 ⟨rfl,hb⟩;refine ⟨_,rfl,?_⟩;replace HB:=hbS HB hb;(try clear hb)) | ((with_reducible refine gD 4 rfl ?_);refine box_event rfl (N:=4) rfl (cs:=#[.int .i64 0,.int .i64 0]) (t:=34) hr_ ?_;intro gb606 hg w9 hbox hb;have BK606:=am hbox;have GW606:=gwE HB hg;have GE606:=gwE HB hg;replace HB:=hbS HB hb;clear hb hbox hg;have:=bcell BK606 0;have:=bcell BK606 1;have:=bfz BK606 0;have:=bfz BK606 1))
   go_ret2
   exact ⟨fi_,m2_⟩
 ·replace c3:=Bool.eq_false_iff.mpr c3
  subst c3
  have H1 : (some (0,false)) = some (r1,r2):=by rw [if_neg (show ¬ (false = true) by decide)] at H;exact H
  clear H
  have H:=H1
  clear H1
  simp only [Option.some.injEq,Prod.mk.injEq] at H
  obtain ⟨rfl,rfl⟩:=H
  go_enter Tryz.func38,Tryz.ntmps38
  go_wp2_with (first | ((with_reducible refine gC 51 rfl ?_);refine gL (some 8) Tryz.func51 #[.string a0] ?_;(with_reducible refine (impl_said.calls a0 t603 t604 false _ A2.out (EnvE.below hE (bl HB))).mono ?_);rintro e w11 ⟨rfl,hb⟩;refine ⟨_,rfl,?_⟩;replace HB:=hbS HB hb;(try clear hb)) | ((with_reducible refine gD 4 rfl ?_);refine box_event rfl (N:=4) rfl (cs:=#[.int .i64 0,.int .i64 0]) (t:=34) hr_ ?_;intro gb606 hg w12 hbox hb;have BK606:=am hbox;have GW606:=gwE HB hg;have GE606:=gwE HB hg;replace HB:=hbS HB hb;clear hb hbox hg;have:=bcell BK606 0;have:=bcell BK606 1;have:=bfz BK606 0;have:=bfz BK606 1))
  go_ret2
  exact ⟨fi_,m2_⟩
def impl_MapTab_goesIn.f (l0_0 : List (S34)) (a1 : ByteArray) : Option (ByteArray):=(impl_LinBox.f a1).bind fun bt608=>(if bt608.2 = true then ((impl_MapEnd.f l0_0 bt608.1).bind fun bt610=>(if bt610.2.2 = true then ((impl_LinPort.f bt610.1 bt610.2.1).bind fun t614=>(some t614)) else (some a1))) else (some a1))
set_option maxHeartbeats 8000000 in
set_option maxRecDepth 100000 in
theorem impl_MapTab_goesIn.calls (A0_0 : Option Addr) (c0_0 : Nat) (l0_0 : List (S34)) (a1 : ByteArray) (r : ByteArray) (w : World) (hr0_0 : Kd.C k34 w A0_0 l0_0.length l0_0) (hc0_0 : l0_0.length ≤ c0_0) (h : impl_MapTab_goesIn.f l0_0 a1 = some r) (hE : EnvE w) :
  Calls Tryz.prog 66 #[.agg #[.slice A0_0 l0_0.length c0_0],.string a1] w fun e w'=>e = .returned (.string r) ∧ Below w.heap.size w w':=by
 have hu25:=Tryz.underlying25
 have hu34:=Tryz.underlying34
 have HR0_0:=am hr0_0
 have HC0_0:=am hc0_0
 clear hr0_0 hc0_0
 have HB:=am (Below.refl w.heap.size w)
 have H : ((impl_LinBox.f a1).bind fun bt608=>(if bt608.2 = true then ((impl_MapEnd.f l0_0 bt608.1).bind fun bt610=>(if bt610.2.2 = true then ((impl_LinPort.f bt610.1 bt610.2.1).bind fun t614=>(some t614)) else (some a1))) else (some a1))) = some r:=h
 clear h
 obtain ⟨⟨t608,t609⟩,A3,H⟩:=bse H
 try dsimp only at H
 by_cases c4 : t609 = true
 ·subst c4
  have H1 : ((impl_MapEnd.f l0_0 t608).bind fun bt610=>(if bt610.2.2 = true then ((impl_LinPort.f bt610.1 bt610.2.1).bind fun t614=>(some t614)) else (some a1))) = some r:=by rw [if_pos rfl] at H;exact H
  clear H
  have H:=H1
  clear H1
  obtain ⟨⟨t610,t611,t612⟩,A5,H⟩:=bse H
  try dsimp only at H
  by_cases c6 : t612 = true
  ·subst c6
   have H1 : ((impl_LinPort.f t610 t611).bind fun t614=>(some t614)) = some r:=by rw [if_pos rfl] at H;exact H
   clear H
   have H:=H1
   clear H1
   obtain ⟨t614,A7,H⟩:=bse H
   try dsimp only at H
   obtain rfl:=Option.some.inj H
   go_enter Tryz.func66,Tryz.ntmps66
   go_wp2_with (first | ((with_reducible refine gD 2 rfl ?_);refine box_event rfl (N:=2) rfl (cs:=#[.slice A0_0 l0_0.length c0_0]) (t:=25) hr_ ?_;intro gb607 hg w8 hbox hb;have BK607:=am hbox;have GW607:=gwE HB hg;have GE607:=gwE HB hg;replace HB:=hbS HB hb;clear hb hbox hg) | ((with_reducible refine gC 38 rfl ?_);refine gL (some 11) Tryz.func38 #[.string a1] ?_;(with_reducible refine (impl_LinBox.calls a1 t608 true _ A3.out (EnvE.below hE (bl HB))).mono ?_);rintro e w9 ⟨rfl,hb⟩;refine ⟨_,rfl,?_⟩;replace BK607:=bkB BK607 hb;replace HB:=hbS HB hb;(try clear hb);have:=bcell BK607 0;have:=bfz BK607 0) | ((with_reducible refine gC 94 rfl ?_);refine gL (some 18) Tryz.func94 #[.agg #[.slice A0_0 l0_0.length c0_0],.int .i64 t608] ?_;(with_reducible refine (impl_MapEnd.calls _ _ l0_0 t608 t610 t611 true _ ?side1 ?side2 A5.out).mono ?_);(case side1=>exact m4_);(case side2=>exact HC0_0.out);rintro e w11 ⟨rfl,hb⟩;refine ⟨_,rfl,?_⟩;replace BK607:=bkB BK607 hb;replace HB:=hbS HB hb;(try clear hb)) | ((with_reducible refine gD 7 rfl ?_);refine box_event rfl (N:=7) rfl (cs:=#[.int .i64 0,.int .i64 0]) (t:=34) hr_ ?_;intro gb613 hg w12 hbox hb;have BK613:=am hbox;have GW613:=gwE HB hg;have GE613:=gwE HB hg;replace HB:=hbS HB hb;have NB607_613:=neL BK607 hg;have NB613_607:=neG BK607 hg;replace BK607:=bkB BK607 hb;clear hb hbox hg;have:=NB613_607.out;have:=NB607_613.out;have:=bcell BK613 0;have:=bcell BK613 1;have:=bfz BK613 0;have:=bfz BK613 1) | ((with_reducible refine gC 24 rfl ?_);refine gL (some 23) Tryz.func24 #[.agg #[.int .i64 t610,.int .i64 t611]] ?_;(with_reducible refine (impl_LinPort.calls t610 t611 t614 _ A7.out (EnvT.below hE.e.t (bl HB))).mono ?_);rintro e w15 ⟨rfl,hb⟩;refine ⟨_,rfl,?_⟩;replace BK607:=am (blk_below (g:=gb607) (o:=.cells #[.slice A0_0 l0_0.length c0_0] 25 (0,0)) (by (with_reducible repeat refine bu ?_);refine blk_far ?_ NB607_613.out _;(with_reducible repeat refine bu ?_);refine blk_far ?_ NB607_613.out _;(with_reducible repeat refine bu ?_);exact BK607.out) hb);replace BK613:=am (blk_below (g:=gb613) (o:=.cells #[.int .i64 t610,.int .i64 t611] 34 (0,0)) (by (with_reducible repeat refine bu ?_);refine blk_put (cs:=#[.int .i64 t610,.int .i64 0]) ?_ 1 _ rfl;(with_reducible repeat refine bu ?_);refine blk_put (cs:=#[.int .i64 0,.int .i64 0]) ?_ 0 _ rfl;(with_reducible repeat refine bu ?_);exact BK613.out) hb);replace HB:=hbS HB hb;(try clear hb)))
   go_ret
   exact ⟨fi_,m2_⟩
  ·replace c6:=Bool.eq_false_iff.mpr c6
   subst c6
   have H1 : (some a1) = some r:=by rw [if_neg (show ¬ (false = true) by decide)] at H;exact H
   clear H
   have H:=H1
   clear H1
   obtain rfl:=Option.some.inj H
   go_enter Tryz.func66,Tryz.ntmps66
   go_wp2_with (first | ((with_reducible refine gD 2 rfl ?_);refine box_event rfl (N:=2) rfl (cs:=#[.slice A0_0 l0_0.length c0_0]) (t:=25) hr_ ?_;intro gb607 hg w16 hbox hb;have BK607:=am hbox;have GW607:=gwE HB hg;have GE607:=gwE HB hg;replace HB:=hbS HB hb;clear hb hbox hg) | ((with_reducible refine gC 38 rfl ?_);refine gL (some 11) Tryz.func38 #[.string a1] ?_;(with_reducible refine (impl_LinBox.calls a1 t608 true _ A3.out (EnvE.below hE (bl HB))).mono ?_);rintro e w17 ⟨rfl,hb⟩;refine ⟨_,rfl,?_⟩;replace BK607:=bkB BK607 hb;replace HB:=hbS HB hb;(try clear hb);have:=bcell BK607 0;have:=bfz BK607 0) | ((with_reducible refine gC 94 rfl ?_);refine gL (some 18) Tryz.func94 #[.agg #[.slice A0_0 l0_0.length c0_0],.int .i64 t608] ?_;(with_reducible refine (impl_MapEnd.calls _ _ l0_0 t608 t610 t611 false _ ?side1 ?side2 A5.out).mono ?_);(case side1=>exact m4_);(case side2=>exact HC0_0.out);rintro e w19 ⟨rfl,hb⟩;refine ⟨_,rfl,?_⟩;replace BK607:=bkB BK607 hb;replace HB:=hbS HB hb;(try clear hb)) | ((with_reducible refine gD 7 rfl ?_);refine box_event rfl (N:=7) rfl (cs:=#[.int .i64 0,.int .i64 0]) (t:=34) hr_ ?_;intro gb613 hg w20 hbox hb;have BK613:=am hbox;have GW613:=gwE HB hg;have GE613:=gwE HB hg;replace HB:=hbS HB hb;have NB607_613:=neL BK607 hg;have NB613_607:=neG BK607 hg;replace BK607:=bkB BK607 hb;clear hb hbox hg;have:=NB613_607.out;have:=NB607_613.out;have:=bcell BK613 0;have:=bcell BK613 1;have:=bfz BK613 0;have:=bfz BK613 1))
   go_ret
   exact ⟨fi_,m2_⟩
 ·replace c4:=Bool.eq_false_iff.mpr c4
  subst c4
  have H1 : (some a1) = some r:=by rw [if_neg (show ¬ (false = true) by decide)] at H;exact H
  clear H
  have H:=H1
  clear H1
  obtain rfl:=Option.some.inj H
  go_enter Tryz.func66,Tryz.ntmps66
  go_wp2_with (first | ((with_reducible refine gD 2 rfl ?_);refine box_event rfl (N:=2) rfl (cs:=#[.slice A0_0 l0_0.length c0_0]) (t:=25) hr_ ?_;intro gb607 hg w23 hbox hb;have BK607:=am hbox;have GW607:=gwE HB hg;have GE607:=gwE HB hg;replace HB:=hbS HB hb;clear hb hbox hg) | ((with_reducible refine gC 38 rfl ?_);refine gL (some 11) Tryz.func38 #[.string a1] ?_;(with_reducible refine (impl_LinBox.calls a1 t608 false _ A3.out (EnvE.below hE (bl HB))).mono ?_);rintro e w24 ⟨rfl,hb⟩;refine ⟨_,rfl,?_⟩;replace BK607:=bkB BK607 hb;replace HB:=hbS HB hb;(try clear hb)))
  go_ret
  exact ⟨fi_,m2_⟩
def impl_BakLine.f (k : Nat) (l0_0 : List (S34)) (a1 : ByteArray) : Option (ByteArray):=(impl_MapOk.f k l0_0).bind fun t616=>(if t616 = true then ((impl_LinOk.f a1).bind fun t617=>(if t617 = true then ((impl_MapTab_goesIn.f l0_0 a1).bind fun t618=>(some t618)) else (some (⟨#[]⟩ : ByteArray)))) else (some (⟨#[]⟩ : ByteArray)))
theorem impl_BakLine.mono : ∀ a0 a1 k,LeO (impl_BakLine.f k a0 a1) (impl_BakLine.f (k + 1) a0 a1):=by
 intro a0 a1 k
 unfold impl_BakLine.f
 repeat' first | (with_reducible first | exact impl_MapOk.mono _ _ | exact LeO.refl _ | exact LeO.none _ | refine LeO.ite ?_ ?_ | refine LeO.bind ?_ (fun _=>?_)) | exact impl_MapOk.mono _ _ | exact LeO.none _ | refine LeO.ite ?_ ?_ | refine LeO.bind ?_ (fun _=>?_)
set_option maxHeartbeats 8000000 in
set_option maxRecDepth 100000 in
theorem impl_BakLine.calls (k : Nat) (A0_0 : Option Addr) (c0_0 : Nat) (l0_0 : List (S34)) (a1 : ByteArray) (r : ByteArray) (w : World) (hr0_0 : Kd.C k34 w A0_0 l0_0.length l0_0) (hc0_0 : l0_0.length ≤ c0_0) (h : impl_BakLine.f k l0_0 a1 = some r) (hE : EnvE w) :
  Calls Tryz.prog 31 #[.agg #[.slice A0_0 l0_0.length c0_0],.string a1] w fun e w'=>e = .returned (.string r) ∧ Below w.heap.size w w':=by
 have hu25:=Tryz.underlying25
 have HR0_0:=am hr0_0
 have HC0_0:=am hc0_0
 clear hr0_0 hc0_0
 have HB:=am (Below.refl w.heap.size w)
 have H : ((impl_MapOk.f k l0_0).bind fun t616=>(if t616 = true then ((impl_LinOk.f a1).bind fun t617=>(if t617 = true then ((impl_MapTab_goesIn.f l0_0 a1).bind fun t618=>(some t618)) else (some (⟨#[]⟩ : ByteArray)))) else (some (⟨#[]⟩ : ByteArray)))) = some r:=h
 clear h
 obtain ⟨t616,A3,H⟩:=bse H
 try dsimp only at H
 by_cases c4 : t616 = true
 ·subst c4
  have H1 : ((impl_LinOk.f a1).bind fun t617=>(if t617 = true then ((impl_MapTab_goesIn.f l0_0 a1).bind fun t618=>(some t618)) else (some (⟨#[]⟩ : ByteArray)))) = some r:=by rw [if_pos rfl] at H;exact H
  clear H
  have H:=H1
  clear H1
  obtain ⟨t617,A5,H⟩:=bse H
  try dsimp only at H
  by_cases c6 : t617 = true
  ·subst c6
   have H1 : ((impl_MapTab_goesIn.f l0_0 a1).bind fun t618=>(some t618)) = some r:=by rw [if_pos rfl] at H;exact H
   clear H
   have H:=H1
   clear H1
   obtain ⟨t618,A7,H⟩:=bse H
   try dsimp only at H
   obtain rfl:=Option.some.inj H
   go_enter Tryz.func31,Tryz.ntmps31
   go_wp2_with (first | ((with_reducible refine gD 2 rfl ?_);refine box_event rfl (N:=2) rfl (cs:=#[.slice A0_0 l0_0.length c0_0]) (t:=25) hr_ ?_;intro gb615 hg w8 hbox hb;have BK615:=am hbox;have GW615:=gwE HB hg;have GE615:=gwE HB hg;replace HB:=hbS HB hb;clear hb hbox hg;have:=bcell BK615 0;have:=bfz BK615 0) | ((with_reducible refine gC 20 rfl ?_);refine gL (some 6) Tryz.func20 #[.agg #[.slice A0_0 l0_0.length c0_0]] ?_;(with_reducible refine (impl_MapOk.calls k _ _ l0_0 true _ ?side1 ?side2 A3.out).mono ?_);(case side1=>exact m4_);(case side2=>exact HC0_0.out);rintro e w10 ⟨rfl,hb⟩;refine ⟨_,rfl,?_⟩;replace BK615:=bkB BK615 hb;replace HB:=hbS HB hb;(try clear hb)) | (go_at_call 22;(with_reducible refine (impl_LinOk.calls a1 true _ A5.out).mono ?_);rintro e w11 ⟨rfl,hb⟩;replace BK615:=bkB BK615 hb;replace HB:=hbS HB hb;(try clear hb);have:=bcell BK615 0;have:=bfz BK615 0) | ((with_reducible refine gC 66 rfl ?_);refine gL (some 15) Tryz.func66 #[.agg #[.slice A0_0 l0_0.length c0_0],.string a1] ?_;(with_reducible refine (impl_MapTab_goesIn.calls _ _ l0_0 a1 t618 _ ?side1 ?side2 A7.out (EnvE.below hE (bl HB))).mono ?_);(case side1=>exact m4_);(case side2=>exact HC0_0.out);rintro e w13 ⟨rfl,hb⟩;refine ⟨_,rfl,?_⟩;replace BK615:=bkB BK615 hb;replace HB:=hbS HB hb;(try clear hb)))
   go_ret
   exact ⟨fi_,m2_⟩
  ·replace c6:=Bool.eq_false_iff.mpr c6
   subst c6
   have H1 : (some (⟨#[]⟩ : ByteArray)) = some r:=by rw [if_neg (show ¬ (false = true) by decide)] at H;exact H
   clear H
   have H:=H1
   clear H1
   obtain rfl:=Option.some.inj H
   go_enter Tryz.func31,Tryz.ntmps31
   go_wp2_with (first | ((with_reducible refine gD 2 rfl ?_);refine box_event rfl (N:=2) rfl (cs:=#[.slice A0_0 l0_0.length c0_0]) (t:=25) hr_ ?_;intro gb615 hg w14 hbox hb;have BK615:=am hbox;have GW615:=gwE HB hg;have GE615:=gwE HB hg;replace HB:=hbS HB hb;clear hb hbox hg;have:=bcell BK615 0;have:=bfz BK615 0) | ((with_reducible refine gC 20 rfl ?_);refine gL (some 6) Tryz.func20 #[.agg #[.slice A0_0 l0_0.length c0_0]] ?_;(with_reducible refine (impl_MapOk.calls k _ _ l0_0 true _ ?side1 ?side2 A3.out).mono ?_);(case side1=>exact m4_);(case side2=>exact HC0_0.out);rintro e w16 ⟨rfl,hb⟩;refine ⟨_,rfl,?_⟩;replace BK615:=bkB BK615 hb;replace HB:=hbS HB hb;(try clear hb)) | (go_at_call 22;(with_reducible refine (impl_LinOk.calls a1 false _ A5.out).mono ?_);rintro e w17 ⟨rfl,hb⟩;replace BK615:=bkB BK615 hb;replace HB:=hbS HB hb;(try clear hb)))
   go_ret
   exact ⟨fi_,m2_⟩
 ·replace c4:=Bool.eq_false_iff.mpr c4
  subst c4
  have H1 : (some (⟨#[]⟩ : ByteArray)) = some r:=by rw [if_neg (show ¬ (false = true) by decide)] at H;exact H
  clear H
  have H:=H1
  clear H1
  obtain rfl:=Option.some.inj H
  go_enter Tryz.func31,Tryz.ntmps31
  go_wp2_with (first | ((with_reducible refine gD 2 rfl ?_);refine box_event rfl (N:=2) rfl (cs:=#[.slice A0_0 l0_0.length c0_0]) (t:=25) hr_ ?_;intro gb615 hg w18 hbox hb;have BK615:=am hbox;have GW615:=gwE HB hg;have GE615:=gwE HB hg;replace HB:=hbS HB hb;clear hb hbox hg;have:=bcell BK615 0;have:=bfz BK615 0) | ((with_reducible refine gC 20 rfl ?_);refine gL (some 6) Tryz.func20 #[.agg #[.slice A0_0 l0_0.length c0_0]] ?_;(with_reducible refine (impl_MapOk.calls k _ _ l0_0 false _ ?side1 ?side2 A3.out).mono ?_);(case side1=>exact m4_);(case side2=>exact HC0_0.out);rintro e w20 ⟨rfl,hb⟩;refine ⟨_,rfl,?_⟩;replace BK615:=bkB BK615 hb;replace HB:=hbS HB hb;(try clear hb)))
  go_ret
  exact ⟨fi_,m2_⟩
def spec_DrawLinOk.f (k : Nat) (l0 : List Int) : Option (ByteArray):=(spec_l20Open.f l0).bind fun bt573=>((spec_l20Line.f k bt573.1 bt573.2).bind fun bt576=>((spec_l20Rd_pick.f k bt573.1 bt576.2 4).bind fun bt578=>(if bt578.1 = 0 then ((some (([(⟨#[97,98,99,100,101,102,103,104,105,106,32,107,108,109,110,111,112]⟩ : ByteArray),(⟨#[65]⟩ : ByteArray),(⟨#[97,59,98]⟩ : ByteArray),(⟨#[10]⟩ : ByteArray),(⟨#[97,98,99,100,101,102,103,104,105,106,32,107,108,109,110,111]⟩ : ByteArray)] : List ByteArray) : List ByteArray)).bind fun y580=>((spec_l20Rd_pick.f k bt573.1 bt578.2 5).bind fun bt583=>(if 0 ≤ bt583.1 then (if bt583.1 < (y580.length : Int) then (some (rdOf ByteArray.empty y580 bt583.1)) else (none)) else (none)))) else (if bt578.1 = 1 then ((spec_l20Bent.f k bt573.1 bt578.2 bt576.1).bind fun bt586=>(some bt586.1)) else (some bt576.1)))))
theorem spec_DrawLinOk.mono : ∀ a0 k,LeO (spec_DrawLinOk.f k a0) (spec_DrawLinOk.f (k + 1) a0):=by
 intro a0 k
 unfold spec_DrawLinOk.f
 repeat' first | (with_reducible first | exact spec_l20Bent.mono _ _ _ _ | exact spec_l20Line.mono _ _ _ | exact spec_l20Rd_pick.mono _ _ _ _ | exact LeO.refl _ | exact LeO.none _ | refine LeO.ite ?_ ?_ | refine LeO.bind ?_ (fun _=>?_)) | exact spec_l20Bent.mono _ _ _ _ | exact spec_l20Line.mono _ _ _ | exact spec_l20Rd_pick.mono _ _ _ _ | exact LeO.none _ | refine LeO.ite ?_ ?_ | refine LeO.bind ?_ (fun _=>?_)
set_option maxHeartbeats 8000000 in
set_option maxRecDepth 100000 in
theorem spec_DrawLinOk.calls (k : Nat) (A0 : Option Addr) (c0 : Nat) (l0 : List Int) (r : ByteArray) (w : World) (hr0 : Kd.C (Kd.int .u8) w A0 l0.length l0) (hc0 : l0.length ≤ c0) (h : spec_DrawLinOk.f k l0 = some r) :
  Calls Tryz.prog 65 #[.slice A0 l0.length c0] w fun e w'=>e = .returned (.string r) ∧ Below w.heap.size w w':=by
 have HR0:=am hr0
 have HC0:=am hc0
 clear hr0 hc0
 have HB:=am (Below.refl w.heap.size w)
 have H : ((spec_l20Open.f l0).bind fun bt573=>((spec_l20Line.f k bt573.1 bt573.2).bind fun bt576=>((spec_l20Rd_pick.f k bt573.1 bt576.2 4).bind fun bt578=>(if bt578.1 = 0 then ((some (([(⟨#[97,98,99,100,101,102,103,104,105,106,32,107,108,109,110,111,112]⟩ : ByteArray),(⟨#[65]⟩ : ByteArray),(⟨#[97,59,98]⟩ : ByteArray),(⟨#[10]⟩ : ByteArray),(⟨#[97,98,99,100,101,102,103,104,105,106,32,107,108,109,110,111]⟩ : ByteArray)] : List ByteArray) : List ByteArray)).bind fun y580=>((spec_l20Rd_pick.f k bt573.1 bt578.2 5).bind fun bt583=>(if 0 ≤ bt583.1 then (if bt583.1 < (y580.length : Int) then (some (rdOf ByteArray.empty y580 bt583.1)) else (none)) else (none)))) else (if bt578.1 = 1 then ((spec_l20Bent.f k bt573.1 bt578.2 bt576.1).bind fun bt586=>(some bt586.1)) else (some bt576.1)))))) = some r:=h
 clear h
 obtain ⟨⟨t573,t574⟩,A2,H⟩:=bse H
 try dsimp only at H
 obtain ⟨⟨t576,t577⟩,A3,H⟩:=bse H
 try dsimp only at H
 obtain ⟨⟨t578,t579⟩,A4,H⟩:=bse H
 try dsimp only at H
 by_cases c5 : t578 = 0
 ·rw [if_pos c5] at H
  have c5b0 : (t578 == 0) = true:=beq_iff_eq.mpr c5
  have c5b1 : (t578 != 0) = false:=bne_eq_false_iff_eq.mpr c5
  clear c5
  obtain ⟨y580,hy580⟩ : ∃ y_ : List ByteArray,y_ = (([(⟨#[97,98,99,100,101,102,103,104,105,106,32,107,108,109,110,111,112]⟩ : ByteArray),(⟨#[65]⟩ : ByteArray),(⟨#[97,59,98]⟩ : ByteArray),(⟨#[10]⟩ : ByteArray),(⟨#[97,98,99,100,101,102,103,104,105,106,32,107,108,109,110,111]⟩ : ByteArray)] : List ByteArray)):=⟨_,rfl⟩
  replace H : ((spec_l20Rd_pick.f k t573 t579 5).bind fun bt583=>(if 0 ≤ bt583.1 then (if bt583.1 < (y580.length : Int) then (some (rdOf ByteArray.empty y580 bt583.1)) else (none)) else (none))) = some r:=by first | (rw [hy580];with_reducible exact H) | (have H2_:=(Option.bind_some _ _).symm.trans H;rw [hy580];with_reducible exact H2_) | (have H2_:=(Option.bind_some _ _).symm.trans H;with_reducible exact H2_) | with_reducible exact H | (rw [hy580];exact H) | exact H
  have Ny580:=am hy580
  clear hy580
  obtain ⟨⟨t583,t584⟩,A6,H⟩:=bse H
  try dsimp only at H
  by_cases c7 : 0 ≤ t583
  ·rw [if_pos c7] at H
   have c7b0 : decide (0 ≤ t583) = true:=decide_eq_true c7
   clear c7
   by_cases c8 : t583 < (y580.length : Int)
   ·rw [if_pos c8] at H
    have c8b0 : decide (t583 < (y580.length : Int)) = true:=decide_eq_true c8
    clear c8
    obtain rfl:=Option.some.inj H
    go_enter Tryz.func65,Tryz.ntmps65
    go_wp2_with (first | ((with_reducible refine gC 40 rfl ?_);refine gL (some 6) Tryz.func40 #[.slice A0 l0.length c0] ?_;(with_reducible refine (spec_l20Open.calls _ _ l0 t573 t574 w _ ?side1 ?side2 ?side3 A2.out).mono ?_);(case side1=>exact m0_);(case side2=>exact HR0.out);(case side3=>exact HC0.out);rintro e w9 ⟨g575,rfl,hi,hb,hb2⟩;refine ⟨_,rfl,?_⟩;replace HB:=am hb;have HI575:=am hi;(try clear hb);(try clear hb2);(try clear hi)) | ((with_reducible refine gC 42 rfl ?_);refine gL (some 8) Tryz.func42 #[.pointer (some ⟨g575,0,none⟩)] ?_;(with_reducible refine (spec_l20Line.calls k g575 t573 t574 t576 t577 w _ ?side1 ?side2 A3.out).mono ?_);(case side1=>exact m30_);(case side2=>exact m31_);rintro e w10 ⟨rfl,hi,hb,hk⟩;refine ⟨_,rfl,?_⟩;replace HB:=am hb;replace HI575:=am hi;(try clear hb);(try clear hk);(try clear hi)) | ((with_reducible refine gC 63 rfl ?_);refine gL (some 10) Tryz.func63 #[.pointer (some ⟨g575,0,none⟩),.int .i64 4] ?_;(with_reducible refine (spec_l20Rd_pick.calls k g575 t573 t577 4 t578 t579 w _ ?side1 ?side2 A4.out).mono ?_);(case side1=>exact m30_);(case side2=>exact m31_);rintro e w11 ⟨rfl,hi,hb,hk⟩;refine ⟨_,rfl,?_⟩;replace HB:=am hb;replace HI575:=am hi;(try clear hb);(try clear hk);(try clear hi)) | ((with_reducible refine gD 13 rfl ?_);refine Kd.R_lit Kd.string _ 9 rfl (N:=13) rfl (xs:=([(⟨#[97,98,99,100,101,102,103,104,105,106,32,107,108,109,110,111,112]⟩ : ByteArray),(⟨#[65]⟩ : ByteArray),(⟨#[97,59,98]⟩ : ByteArray),(⟨#[10]⟩ : ByteArray),(⟨#[97,98,99,100,101,102,103,104,105,106,32,107,108,109,110,111]⟩ : ByteArray)] : List ByteArray)) (inner:=[.string (⟨#[97,98,99,100,101,102,103,104,105,106,32,107,108,109,110,111,112]⟩ : ByteArray),.string (⟨#[65]⟩ : ByteArray),.string (⟨#[97,59,98]⟩ : ByteArray),.string (⟨#[10]⟩ : ByteArray),.string (⟨#[97,98,99,100,101,102,103,104,105,106,32,107,108,109,110,111]⟩ : ByteArray)]) (ok:=fun _=>True) (okp:=fun _=>True) hr_ ?hp (fun _ hk=>hk) trivial (Below.refl _ _) (Nat.le_refl _) (by simp) ?_;(case hp=>exact (Reps.one (show Kd.M Kd.string _ _ _ (⟨#[97,98,99,100,101,102,103,104,105,106,32,107,108,109,110,111,112]⟩ : ByteArray) [.string (⟨#[97,98,99,100,101,102,103,104,105,106,32,107,108,109,110,111,112]⟩ : ByteArray)] from rfl) (Reps.one (show Kd.M Kd.string _ _ _ (⟨#[65]⟩ : ByteArray) [.string (⟨#[65]⟩ : ByteArray)] from rfl) (Reps.one (show Kd.M Kd.string _ _ _ (⟨#[97,59,98]⟩ : ByteArray) [.string (⟨#[97,59,98]⟩ : ByteArray)] from rfl) (Reps.one (show Kd.M Kd.string _ _ _ (⟨#[10]⟩ : ByteArray) [.string (⟨#[10]⟩ : ByteArray)] from rfl) (Reps.one (show Kd.M Kd.string _ _ _ (⟨#[97,98,99,100,101,102,103,104,105,106,32,107,108,109,110,111]⟩ : ByteArray) [.string (⟨#[97,98,99,100,101,102,103,104,105,106,32,107,108,109,110,111]⟩ : ByteArray)] from rfl) (Reps.none _ _)))))));intro v581 w12 ho13 hb hg_ hnew_;clear hg_ hnew_;(first | rw [← Ny580.out] at ho13 | (simp only [Int.reduceToNat] at ho13;rw [← Ny580.out] at ho13));have HO582:=am (Kd.R_lower ho13 (below_size m31_));replace HB:=am (below_step m31_ hb);replace HI575:=am (IsS84.below m30_ hb);clear hb ho13) | ((with_reducible refine gC 63 rfl ?_);refine gL (some 15) Tryz.func63 #[.pointer (some ⟨g575,0,none⟩),.int .i64 5] ?_;(with_reducible refine (spec_l20Rd_pick.calls k g575 t573 t579 5 t583 t584 w _ ?side1 ?side2 A6.out).mono ?_);(case side1=>exact m30_);(case side2=>exact m31_);rintro e w14 ⟨rfl,hi,hb,hk⟩;refine ⟨_,rfl,?_⟩;replace HO582:=am (Kd.R_mono (Kd.R_keep (IsS84.apart (show IsS84 w _ g575 t573 t579 from m30_) (rs HO582) (by decide)) hk (fun _ h=>h.2)) (fun _ h=>h.1));replace HB:=am hb;replace HI575:=am hi;(try clear hb);(try clear hk);(try clear hi);obtain ⟨Ao15,co15,eo15⟩:=Kd.R_slice HO582.out;subst eo15;have p585 : 0 ≤ (t583 : Int):=of_decide_eq_true da_;have q585 : t583 < (y580.length : Int):=of_decide_eq_true da_;obtain ⟨ad585,e585,hx585_0⟩:=Kd.at_string (Kd.R_reads' HO582.out).2.2 t583 p585 q585;cases e585;replace p585:=eq_true p585;replace q585:=eq_true q585))
    go_ret
    exact ⟨fi_,m31_⟩
   ·rw [if_neg c8] at H
    exact absurd H (by simp)
  ·rw [if_neg c7] at H
   exact absurd H (by simp)
 ·rw [if_neg c5] at H
  have c5b0 : (t578 == 0) = false:=beq_eq_false_iff_ne.mpr c5
  have c5b1 : (t578 != 0) = true:=bne_iff_ne.mpr c5
  by_cases c16 : t578 = 1
  ·rw [if_pos c16] at H
   have c16b0 : (t578 == 1) = true:=beq_iff_eq.mpr c16
   have c16b1 : (t578 != 1) = false:=bne_eq_false_iff_eq.mpr c16
   clear c16
   obtain ⟨⟨t586,t587⟩,A17,H⟩:=bse H
   try dsimp only at H
   obtain rfl:=Option.some.inj H
   go_enter Tryz.func65,Tryz.ntmps65
   go_wp2_with (first | ((with_reducible refine gC 40 rfl ?_);refine gL (some 6) Tryz.func40 #[.slice A0 l0.length c0] ?_;(with_reducible refine (spec_l20Open.calls _ _ l0 t573 t574 w _ ?side1 ?side2 ?side3 A2.out).mono ?_);(case side1=>exact m0_);(case side2=>exact HR0.out);(case side3=>exact HC0.out);rintro e w18 ⟨g575,rfl,hi,hb,hb2⟩;refine ⟨_,rfl,?_⟩;replace HB:=am hb;have HI575:=am hi;(try clear hb);(try clear hb2);(try clear hi)) | ((with_reducible refine gC 42 rfl ?_);refine gL (some 8) Tryz.func42 #[.pointer (some ⟨g575,0,none⟩)] ?_;(with_reducible refine (spec_l20Line.calls k g575 t573 t574 t576 t577 w _ ?side1 ?side2 A3.out).mono ?_);(case side1=>exact m30_);(case side2=>exact m31_);rintro e w19 ⟨rfl,hi,hb,hk⟩;refine ⟨_,rfl,?_⟩;replace HB:=am hb;replace HI575:=am hi;(try clear hb);(try clear hk);(try clear hi)) | ((with_reducible refine gC 63 rfl ?_);refine gL (some 10) Tryz.func63 #[.pointer (some ⟨g575,0,none⟩),.int .i64 4] ?_;(with_reducible refine (spec_l20Rd_pick.calls k g575 t573 t577 4 t578 t579 w _ ?side1 ?side2 A4.out).mono ?_);(case side1=>exact m30_);(case side2=>exact m31_);rintro e w20 ⟨rfl,hi,hb,hk⟩;refine ⟨_,rfl,?_⟩;replace HB:=am hb;replace HI575:=am hi;(try clear hb);(try clear hk);(try clear hi)) | ((with_reducible refine gC 44 rfl ?_);refine gL (some 22) Tryz.func44 #[.pointer (some ⟨g575,0,none⟩),.string t576] ?_;(with_reducible refine (spec_l20Bent.calls k g575 t573 t579 t576 t586 t587 w _ ?side1 ?side2 A17.out).mono ?_);(case side1=>exact m30_);(case side2=>exact m31_);rintro e w21 ⟨rfl,hi,hb,hk⟩;refine ⟨_,rfl,?_⟩;replace HB:=am hb;replace HI575:=am hi;(try clear hb);(try clear hk);(try clear hi)))
   go_ret
   exact ⟨fi_,m31_⟩
  ·rw [if_neg c16] at H
   have c16b0 : (t578 == 1) = false:=beq_eq_false_iff_ne.mpr c16
   have c16b1 : (t578 != 1) = true:=bne_iff_ne.mpr c16
   obtain rfl:=Option.some.inj H
   go_enter Tryz.func65,Tryz.ntmps65
   go_wp2_with (first | ((with_reducible refine gC 40 rfl ?_);refine gL (some 6) Tryz.func40 #[.slice A0 l0.length c0] ?_;(with_reducible refine (spec_l20Open.calls _ _ l0 t573 t574 w _ ?side1 ?side2 ?side3 A2.out).mono ?_);(case side1=>exact m0_);(case side2=>exact HR0.out);(case side3=>exact HC0.out);rintro e w22 ⟨g575,rfl,hi,hb,hb2⟩;refine ⟨_,rfl,?_⟩;replace HB:=am hb;have HI575:=am hi;(try clear hb);(try clear hb2);(try clear hi)) | ((with_reducible refine gC 42 rfl ?_);refine gL (some 8) Tryz.func42 #[.pointer (some ⟨g575,0,none⟩)] ?_;(with_reducible refine (spec_l20Line.calls k g575 t573 t574 t576 t577 w _ ?side1 ?side2 A3.out).mono ?_);(case side1=>exact m30_);(case side2=>exact m31_);rintro e w23 ⟨rfl,hi,hb,hk⟩;refine ⟨_,rfl,?_⟩;replace HB:=am hb;replace HI575:=am hi;(try clear hb);(try clear hk);(try clear hi)) | ((with_reducible refine gC 63 rfl ?_);refine gL (some 10) Tryz.func63 #[.pointer (some ⟨g575,0,none⟩),.int .i64 4] ?_;(with_reducible refine (spec_l20Rd_pick.calls k g575 t573 t577 4 t578 t579 w _ ?side1 ?side2 A4.out).mono ?_);(case side1=>exact m30_);(case side2=>exact m31_);rintro e w24 ⟨rfl,hi,hb,hk⟩;refine ⟨_,rfl,?_⟩;replace HB:=am hb;replace HI575:=am hi;(try clear hb);(try clear hk);(try clear hi)))
   go_ret
   exact ⟨fi_,m31_⟩
def spec_DrawBakLine.f (k : Nat) (l0 : List Int) : Option ((List (S34)) × ByteArray):=(spec_l20Open.f l0).bind fun bt589=>((spec_l20Table.f k bt589.1 bt589.2 12).bind fun bt592=>((spec_l20Rd_pick.f k bt589.1 bt592.2 3).bind fun bt597=>(if bt597.1 > 0 then ((spec_l20Rd_pick.f k bt589.1 bt597.2 8).bind fun bt599=>((spec_LinPort.f k 50 (wrap64 (500 + bt599.1))).bind fun t601=>(some (bt592.1,t601)))) else ((spec_DrawLinOk.f k l0).bind fun t602=>(some (bt592.1,t602))))))
theorem spec_DrawBakLine.mono : ∀ a0 k,LeO (spec_DrawBakLine.f k a0) (spec_DrawBakLine.f (k + 1) a0):=by
 intro a0 k
 unfold spec_DrawBakLine.f
 repeat' first | (with_reducible first | exact spec_DrawLinOk.mono _ _ | exact spec_LinPort.mono _ _ _ | exact spec_l20Rd_pick.mono _ _ _ _ | exact spec_l20Table.mono _ _ _ _ | exact LeO.refl _ | exact LeO.none _ | refine LeO.ite ?_ ?_ | refine LeO.bind ?_ (fun _=>?_)) | exact spec_DrawLinOk.mono _ _ | exact spec_LinPort.mono _ _ _ | exact spec_l20Rd_pick.mono _ _ _ _ | exact spec_l20Table.mono _ _ _ _ | exact LeO.none _ | refine LeO.ite ?_ ?_ | refine LeO.bind ?_ (fun _=>?_)
def spec_DrawBakLine.T4 : Bool × List (List Nat × List Nat):=(true,[([],[]),([],[]),([1],[1]),([2],[2]),([3],[3]),([4,2],[4]),([0,5,0],[0]),([5,6,0,1,2,3,4,5,6],[5])])
def spec_DrawBakLine.B4 : List Nat:=[0,0,2,6,14,30,63,127]
theorem spec_DrawBakLine.tab4 : rtab .any (opsOf Tryz.f30 4) = spec_DrawBakLine.T4:=by kernel_rfl
theorem spec_DrawBakLine.bits4 : waitsOk spec_DrawBakLine.T4.2 spec_DrawBakLine.B4 = true:=by kernel_rfl
set_option maxHeartbeats 8000000 in
set_option maxRecDepth 100000 in
theorem spec_DrawBakLine.calls (k : Nat) (A0 : Option Addr) (c0 : Nat) (l0 : List Int) (r1 : List (S34)) (r2 : ByteArray) (w : World) (hr0 : Kd.C (Kd.int .u8) w A0 l0.length l0) (hc0 : l0.length ≤ c0) (h : spec_DrawBakLine.f k l0 = some (r1,r2)) :
  Calls Tryz.prog 30 #[.slice A0 l0.length c0] w fun e w'=>∃ v0_ : Value,e = .returned (.tuple #[.agg #[v0_],.string r2]) ∧ Kd.R k34 34 w' w.heap.size (fun _=>True) v0_ r1 ∧ Below w.heap.size w w':=by
 have hu25:=Tryz.underlying25
 have hu34:=Tryz.underlying34
 have HR0:=am hr0
 have HC0:=am hc0
 clear hr0 hc0
 have HB:=am (Below.refl w.heap.size w)
 have H : ((spec_l20Open.f l0).bind fun bt589=>((spec_l20Table.f k bt589.1 bt589.2 12).bind fun bt592=>((spec_l20Rd_pick.f k bt589.1 bt592.2 3).bind fun bt597=>(if bt597.1 > 0 then ((spec_l20Rd_pick.f k bt589.1 bt597.2 8).bind fun bt599=>((spec_LinPort.f k 50 (wrap64 (500 + bt599.1))).bind fun t601=>(some (bt592.1,t601)))) else ((spec_DrawLinOk.f k l0).bind fun t602=>(some (bt592.1,t602))))))) = some (r1,r2):=h
 clear h
 obtain ⟨⟨t589,t590⟩,A2,H⟩:=bse H
 try dsimp only at H
 obtain ⟨⟨t592,t595⟩,A3,H⟩:=bse H
 try dsimp only at H
 obtain ⟨⟨t597,t598⟩,A4,H⟩:=bse H
 try dsimp only at H
 by_cases c5 : t597 > 0
 ·rw [if_pos c5] at H
  have c5b0 : decide (0 < t597) = true:=decide_eq_true c5
  clear c5
  obtain ⟨⟨t599,t600⟩,A6,H⟩:=bse H
  try dsimp only at H
  obtain ⟨t601,A7,H⟩:=bse H
  try dsimp only at H
  simp only [Option.some.injEq,Prod.mk.injEq] at H
  obtain ⟨rfl,rfl⟩:=H
  go_enter Tryz.func30,Tryz.ntmps30
  try go_wp2_with (first | ((with_reducible refine gD 2 rfl ?_);refine box_event rfl (N:=2) rfl (cs:=#[.slice none 0 0]) (t:=25) hr_ ?_;intro gb588 hg w8 hbox hb;have BK588:=am hbox;have GW588:=gwE HB hg;have GE588:=gwE HB hg;replace HB:=hbS HB hb;clear hb hbox hg) | ((with_reducible refine gC 40 rfl ?_);refine gL (some 7) Tryz.func40 #[.slice A0 l0.length c0] ?_;(with_reducible refine (spec_l20Open.calls _ _ l0 t589 t590 w _ ?side1 ?side2 ?side3 A2.out).mono ?_);(case side1=>exact m2_);(case side2=>exact HR0.out);(case side3=>exact HC0.out);rintro e w9 ⟨g591,rfl,hi,hb,hb2⟩;refine ⟨_,rfl,?_⟩;replace HB:=am hb;have HI591:=am hi;have NB591_588:=am (IsS84.ne_blk hi (blk_below (g:=gb588) (o:=.cells #[.slice none 0 0] 25 (0,0)) (bk BK588) hb2) (by decide));have NB588_591:=am (Ne.symm (IsS84.ne_blk hi (blk_below (g:=gb588) (o:=.cells #[.slice none 0 0] 25 (0,0)) (bk BK588) hb2) (by decide)));replace BK588:=am (blk_below (g:=gb588) (o:=.cells #[.slice none 0 0] 25 (0,0)) (bk BK588) hb2);(try clear hb);(try clear hb2);(try clear hi)) | ((with_reducible refine gC 41 rfl ?_);refine gL (some 9) Tryz.func41 #[.pointer (some ⟨g591,0,none⟩),.int .i64 12] ?_;(with_reducible refine (spec_l20Table.calls k g591 t589 t590 12 t592 t595 w _ ?side1 ?side2 A3.out).mono ?_);(case side1=>exact m17_);(case side2=>exact m18_);rintro e w10 ⟨v593,rfl,ho0,hi,hb,hk⟩;refine ⟨_,rfl,?_⟩;replace BK588:=am (KeepBut.blk hk (g':=gb588) (o:=.cells #[.slice none 0 0] 25 (0,0)) (bk BK588) NB588_591.out (by simp));have HO594:=am (Kd.R_lower ho0 (below_size m18_));replace HB:=am hb;replace HI591:=am hi;(try clear hb);(try clear hk);(try clear hi);(try clear ho0)) | ((with_reducible refine gD 5 rfl ?_);refine box_event rfl (N:=5) rfl (cs:=#[.slice none 0 0]) (t:=25) hr_ ?_;intro gb596 hg w11 hbox hb;replace HO594:=am (Kd.R_below (rs HO594) hb);have BK596:=am hbox;have GW596:=am ((by rw [hg];exact (below_size m18_) : w.heap.size ≤ gb596));have GE596:=am ((by rw [hg];exact (below_size m18_) : w.heap.size ≤ gb596));replace HB:=am (below_step m18_ hb);have NB588_596:=neL BK588 hg;have NB596_588:=neG BK588 hg;replace BK588:=bkB BK588 hb;have NB591_596:=am ((by rw [hg];exact Nat.ne_of_lt (IsS84.lt (show IsS84 w _ g591 t589 t595 from m17_)) : g591 ≠ gb596));have NB596_591:=am ((by rw [hg];exact Nat.ne_of_gt (IsS84.lt (show IsS84 w _ g591 t589 t595 from m17_)) : gb596 ≠ g591));replace HI591:=am (IsS84.below m17_ hb);clear hb hbox hg;obtain ⟨Ao12,co12,eo12⟩:=Kd.R_slice HO594.out;subst eo12;have:=NB596_588.out;have:=NB588_596.out;have:=NB596_591.out;have:=NB591_596.out;have:=bcell BK596 0;have:=bfz BK596 0) | ((with_reducible refine gC 63 rfl ?_);refine gL (some 11) Tryz.func63 #[.pointer (some ⟨g591,0,none⟩),.int .i64 3] ?_;(with_reducible refine (spec_l20Rd_pick.calls k g591 t589 t595 3 t597 t598 w _ ?side1 ?side2 A4.out).mono ?_);(case side1=>exact m17_);(case side2=>exact m18_);rintro e w16 ⟨rfl,hi,hb,hk⟩;refine ⟨_,rfl,?_⟩;replace BK588:=am (KeepBut.blk hk (g':=gb588) (o:=.cells #[.slice none 0 0] 25 (0,0)) (by (with_reducible repeat refine bu ?_);refine blk_far ?_ NB588_596.out _;(with_reducible repeat refine bu ?_);exact BK588.out) NB588_591.out (by simp));replace HO594:=am (Kd.R_mono (Kd.R_keep (IsS84.apart (show IsS84 w _ g591 t589 t595 from m17_) (by (with_reducible repeat apply ru);exact (Kd.R_mono (Kd.R_far (p:=⟨gb596,0,none⟩) (Kd.R_types HO594.out BK596.out (by decide)) (fun _ hk=>hk.2) (.slice Ao12 t592.length co12)) (fun _ h_=>h_.1))) (by decide)) hk (fun _ h=>h.2)) (fun _ h=>h.1));replace BK596:=am (KeepBut.blk hk (g':=gb596) (o:=.cells #[.slice Ao12 t592.length co12] 25 (0,0)) (by (with_reducible repeat refine bu ?_);refine blk_put (cs:=#[.slice none 0 0]) ?_ 0 _ rfl;(with_reducible repeat refine bu ?_);exact BK596.out) NB596_591.out (by simp));replace HB:=am hb;replace HI591:=am hi;(try clear hb);(try clear hk);(try clear hi)))
  replace HO594:=am (Kd.R_drew HO594.out)
  replace BK588:=am (blk_drew BK588.out)
  replace BK596:=am (blk_drew BK596.out)
  replace HI591:=am (IsS84.drew HI591.out)
  replace HB:=am (below_drew1 HB.out)
  refine start_ (n:=8) (S:=fun w'=>w'.cell? ⟨gb596,0,none⟩ = some (.slice Ao12 t592.length co12)) (ds:=[]) #[false,false,false,false,false,false,false,false] (by kernel_rfl) rfl rfl (bcell BK596 0) (fun hHeld=>?_);refine with_tabW spec_DrawBakLine.tab4 spec_DrawBakLine.bits4 (fun HT_ HW_=>?_)
  generalize w16.drew = w17 at HO594 BK588 BK596 HI591 HB hHeld ⊢
  refine pu_ 1 (some 14) (bm 8 2) ?_
  refine take_ (i:=0) (N:=some 13) (v:=?_) (a':=?_) #[true,true,false,false,false,false,false,false] rfl rfl (take_ofW HT_.out HW_.out (by kernel_rfl)) (fun _ _ _ h=>h) (Or.inl ⟨by rfl,?_⟩) hHeld ?_ ?_
  rotate_left
  ·intro w' s0
   go_simp
   with_reducible rfl
  rotate_left
  ·simp only [Act.put,List.setIfInBounds_toArray,List.set_cons_zero,List.set_cons_succ,i64_w,i32_w]
   rfl
  refine on_ 2 (some 15) (bm 8 7) (fun K hK=>?_)
  refine gR Tryz.func63 #[.pointer (some ⟨g591,0,none⟩),.int .i64 8] ?_
  with_reducible refine (spec_l20Rd_pick.calls k g591 t589 t598 8 t599 t600 w _ ?side1 ?side2 A6.out).mono ?_
  (case side1=>exact m17_)
  (case side2=>exact m18_)
  rintro e w18 ⟨rfl,hi,hb,hk⟩
  refine ⟨_,rfl,?_⟩
  replace BK588:=am (KeepBut.blk hk (g':=gb588) (o:=.cells #[.slice none 0 0] 25 (0,0)) (bk BK588) NB588_591.out (by simp))
  replace HO594:=am (Kd.R_mono (Kd.R_keep (IsS84.apart (show IsS84 w _ g591 t589 t598 from m17_) (rs HO594) (by decide)) hk (fun _ h=>h.2)) (fun _ h=>h.1))
  replace BK596:=am (KeepBut.blk hk (g':=gb596) (o:=.cells #[.slice Ao12 t592.length co12] 25 (0,0)) (bk BK596) NB596_591.out (by simp))
  replace HB:=am hb
  replace HI591:=am hi
  (try clear hb)
  (try clear hb2)
  (try clear hk)
  (try clear hi)
  refine hK.out _ _ (bcell BK596 0) (fun hHeld=>?_)
  clear hK K
  refine nm_ ?_
  refine pu_ 3 (some 16) (bm 8 15) ?_
  refine pu_ 4 (some 17) (bm 8 31) ?_
  refine on_ 5 (some 18) (bm 8 63) (fun K hK=>?_)
  refine gR Tryz.func64 #[.agg #[.int .i64 50,.int .i64 (wrap64 (500 + t599))]] ?_
  with_reducible refine (spec_LinPort.calls k 50 (wrap64 (500 + t599)) t601 _ A7.out).mono ?_
  rintro e w19 ⟨rfl,hb⟩
  refine ⟨_,rfl,?_⟩
  replace HO594:=am (Kd.R_below (rs HO594) hb)
  replace BK588:=bkB BK588 hb
  replace BK596:=bkB BK596 hb
  replace HB:=am (below_step m18_ hb)
  replace HI591:=am (IsS84.below m17_ hb)
  (try clear hb)
  (try clear hb2)
  (try clear hk)
  (try clear hi)
  refine hK.out _ _ (bcell BK596 0) (fun hHeld=>?_)
  clear hK K
  refine nm_ ?_
  refine on_ 6 none (bm 8 127) (fun K hK=>?_)
  have : w19.cell? ⟨gb588,0,none⟩ = some (.slice none 0 0):=bcell BK588 0
  have:=bfz BK588 0
  have:=NB596_588.out
  have:=NB588_596.out
  refine skip_ (w1:=?_) (by rfl) rfl ?_ ?_
  rotate_left
  ·go_simp
   rfl
  refine hK.out _ _ (((cell_far (p:=⟨gb588,_,none⟩) NB596_588.out _).trans (hHeld))) (fun hHeld=>?_)
  clear hK K
  refine pu_ 7 (some 3) (bm 8 255) ?_
  refine done_ (done_of HT_.out (by kernel_rfl)) ?_
  try go_wp2
  refine bodyPost_ret (results_ct rfl _ _ gb588 25 #[.slice Ao12 t592.length co12] (0,0) _ rfl (by (with_reducible repeat refine bu ?_);refine blk_put (cs:=#[.slice none 0 0]) ?_ 0 _ rfl;(with_reducible repeat refine bu ?_);exact BK588.out) Tryz.underlying25 rfl (by kernel_rfl)) rfl ?_
  exact ⟨_,fi_,by (with_reducible repeat apply ru);exact Kd.R_mono (Kd.R_far (p:=⟨gb588,0,none⟩) (Kd.R_types HO594.out BK588.out (by decide)) (fun _ hk=>hk.2) (.slice Ao12 t592.length co12)) (fun _ hk=>trivial),m18_⟩
 ·rw [if_neg c5] at H
  have c5b0 : decide (0 < t597) = false:=decide_eq_false c5
  clear c5
  obtain ⟨t602,A21,H⟩:=bse H
  try dsimp only at H
  simp only [Option.some.injEq,Prod.mk.injEq] at H
  obtain ⟨rfl,rfl⟩:=H
  go_enter Tryz.func30,Tryz.ntmps30
  try go_wp2_with (first | ((with_reducible refine gD 2 rfl ?_);refine box_event rfl (N:=2) rfl (cs:=#[.slice none 0 0]) (t:=25) hr_ ?_;intro gb588 hg w22 hbox hb;have BK588:=am hbox;have GW588:=gwE HB hg;have GE588:=gwE HB hg;replace HB:=hbS HB hb;clear hb hbox hg) | ((with_reducible refine gC 40 rfl ?_);refine gL (some 7) Tryz.func40 #[.slice A0 l0.length c0] ?_;(with_reducible refine (spec_l20Open.calls _ _ l0 t589 t590 w _ ?side1 ?side2 ?side3 A2.out).mono ?_);(case side1=>exact m2_);(case side2=>exact HR0.out);(case side3=>exact HC0.out);rintro e w23 ⟨g591,rfl,hi,hb,hb2⟩;refine ⟨_,rfl,?_⟩;replace HB:=am hb;have HI591:=am hi;have NB591_588:=am (IsS84.ne_blk hi (blk_below (g:=gb588) (o:=.cells #[.slice none 0 0] 25 (0,0)) (bk BK588) hb2) (by decide));have NB588_591:=am (Ne.symm (IsS84.ne_blk hi (blk_below (g:=gb588) (o:=.cells #[.slice none 0 0] 25 (0,0)) (bk BK588) hb2) (by decide)));replace BK588:=am (blk_below (g:=gb588) (o:=.cells #[.slice none 0 0] 25 (0,0)) (bk BK588) hb2);(try clear hb);(try clear hb2);(try clear hi)) | ((with_reducible refine gC 41 rfl ?_);refine gL (some 9) Tryz.func41 #[.pointer (some ⟨g591,0,none⟩),.int .i64 12] ?_;(with_reducible refine (spec_l20Table.calls k g591 t589 t590 12 t592 t595 w _ ?side1 ?side2 A3.out).mono ?_);(case side1=>exact m17_);(case side2=>exact m18_);rintro e w24 ⟨v593,rfl,ho0,hi,hb,hk⟩;refine ⟨_,rfl,?_⟩;replace BK588:=am (KeepBut.blk hk (g':=gb588) (o:=.cells #[.slice none 0 0] 25 (0,0)) (bk BK588) NB588_591.out (by simp));have HO594:=am (Kd.R_lower ho0 (below_size m18_));replace HB:=am hb;replace HI591:=am hi;(try clear hb);(try clear hk);(try clear hi);(try clear ho0)) | ((with_reducible refine gD 5 rfl ?_);refine box_event rfl (N:=5) rfl (cs:=#[.slice none 0 0]) (t:=25) hr_ ?_;intro gb596 hg w25 hbox hb;replace HO594:=am (Kd.R_below (rs HO594) hb);have BK596:=am hbox;have GW596:=am ((by rw [hg];exact (below_size m18_) : w.heap.size ≤ gb596));have GE596:=am ((by rw [hg];exact (below_size m18_) : w.heap.size ≤ gb596));replace HB:=am (below_step m18_ hb);have NB588_596:=neL BK588 hg;have NB596_588:=neG BK588 hg;replace BK588:=bkB BK588 hb;have NB591_596:=am ((by rw [hg];exact Nat.ne_of_lt (IsS84.lt (show IsS84 w _ g591 t589 t595 from m17_)) : g591 ≠ gb596));have NB596_591:=am ((by rw [hg];exact Nat.ne_of_gt (IsS84.lt (show IsS84 w _ g591 t589 t595 from m17_)) : gb596 ≠ g591));replace HI591:=am (IsS84.below m17_ hb);clear hb hbox hg;obtain ⟨Ao26,co26,eo26⟩:=Kd.R_slice HO594.out;subst eo26;have:=NB596_588.out;have:=NB588_596.out;have:=NB596_591.out;have:=NB591_596.out;have:=bcell BK596 0;have:=bfz BK596 0) | ((with_reducible refine gC 63 rfl ?_);refine gL (some 11) Tryz.func63 #[.pointer (some ⟨g591,0,none⟩),.int .i64 3] ?_;(with_reducible refine (spec_l20Rd_pick.calls k g591 t589 t595 3 t597 t598 w _ ?side1 ?side2 A4.out).mono ?_);(case side1=>exact m17_);(case side2=>exact m18_);rintro e w30 ⟨rfl,hi,hb,hk⟩;refine ⟨_,rfl,?_⟩;replace BK588:=am (KeepBut.blk hk (g':=gb588) (o:=.cells #[.slice none 0 0] 25 (0,0)) (by (with_reducible repeat refine bu ?_);refine blk_far ?_ NB588_596.out _;(with_reducible repeat refine bu ?_);exact BK588.out) NB588_591.out (by simp));replace HO594:=am (Kd.R_mono (Kd.R_keep (IsS84.apart (show IsS84 w _ g591 t589 t595 from m17_) (by (with_reducible repeat apply ru);exact (Kd.R_mono (Kd.R_far (p:=⟨gb596,0,none⟩) (Kd.R_types HO594.out BK596.out (by decide)) (fun _ hk=>hk.2) (.slice Ao26 t592.length co26)) (fun _ h_=>h_.1))) (by decide)) hk (fun _ h=>h.2)) (fun _ h=>h.1));replace BK596:=am (KeepBut.blk hk (g':=gb596) (o:=.cells #[.slice Ao26 t592.length co26] 25 (0,0)) (by (with_reducible repeat refine bu ?_);refine blk_put (cs:=#[.slice none 0 0]) ?_ 0 _ rfl;(with_reducible repeat refine bu ?_);exact BK596.out) NB596_591.out (by simp));replace HB:=am hb;replace HI591:=am hi;(try clear hb);(try clear hk);(try clear hi)))
  replace HO594:=am (Kd.R_drew HO594.out)
  replace BK588:=am (blk_drew BK588.out)
  replace BK596:=am (blk_drew BK596.out)
  replace HI591:=am (IsS84.drew HI591.out)
  replace HB:=am (below_drew1 HB.out)
  refine start_ (n:=5) (S:=fun w'=>w'.cell? ⟨gb596,0,none⟩ = some (.slice Ao26 t592.length co26)) (ds:=[]) #[false,false,false,false,false] (by kernel_rfl) rfl rfl (bcell BK596 0) (fun hHeld=>?_)
  generalize w30.drew = w31 at HO594 BK588 BK596 HI591 HB hHeld ⊢
  refine pu_ 1 (some 20) (bm 5 2) ?_
  refine take_ (i:=0) (N:=some 19) (v:=?_) (a':=?_) #[true,true,false,false,false] rfl rfl (by kernel_rfl) (fun _ _ _ h=>h) (Or.inl ⟨by rfl,?_⟩) hHeld ?_ ?_
  rotate_left
  ·intro w' s0
   go_simp
   with_reducible rfl
  rotate_left
  ·simp only [Act.put,List.setIfInBounds_toArray,List.set_cons_zero,List.set_cons_succ,i64_w,i32_w]
   rfl
  refine one_ (i:=2) (N:=some 21) #[true,true,true,false,false] rfl rfl (by kernel_rfl) (by decide) (fun K hK=>?_)
  refine gR Tryz.func65 #[.slice A0 l0.length c0] ?_
  with_reducible refine (spec_DrawLinOk.calls k _ _ l0 t602 _ ?side1 ?side2 A21.out).mono ?_
  (case side1=>exact m1_)
  (case side2=>exact HC0.out)
  rintro e w32 ⟨rfl,hb⟩
  refine ⟨_,rfl,?_⟩
  replace HO594:=am (Kd.R_below (rs HO594) hb)
  replace BK588:=bkB BK588 hb
  replace BK596:=bkB BK596 hb
  replace HB:=am (below_step m18_ hb)
  replace HI591:=am (IsS84.below m17_ hb)
  (try clear hb)
  (try clear hb2)
  (try clear hk)
  (try clear hi)
  refine hK.out _ _ (bcell BK596 0) (fun hHeld=>?_)
  clear hK K
  refine nm_ ?_
  refine one_ (i:=3) (N:=none) #[true,true,true,true,false] rfl rfl (by kernel_rfl) (by decide) (fun K hK=>?_)
  have : w32.cell? ⟨gb588,0,none⟩ = some (.slice none 0 0):=bcell BK588 0
  have:=bfz BK588 0
  have:=NB596_588.out
  have:=NB588_596.out
  refine skip_ (w1:=?_) (by rfl) rfl ?_ ?_
  rotate_left
  ·go_simp
   rfl
  refine hK.out _ _ (((cell_far (p:=⟨gb588,_,none⟩) NB596_588.out _).trans (hHeld))) (fun hHeld=>?_)
  clear hK K
  refine pu_ 4 (some 3) (bm 5 31) ?_
  refine done_ (by kernel_rfl) ?_
  try go_wp2
  refine bodyPost_ret (results_ct rfl _ _ gb588 25 #[.slice Ao26 t592.length co26] (0,0) _ rfl (by (with_reducible repeat refine bu ?_);refine blk_put (cs:=#[.slice none 0 0]) ?_ 0 _ rfl;(with_reducible repeat refine bu ?_);exact BK588.out) Tryz.underlying25 rfl (by kernel_rfl)) rfl ?_
  exact ⟨_,fi_,by (with_reducible repeat apply ru);exact Kd.R_mono (Kd.R_far (p:=⟨gb588,0,none⟩) (Kd.R_types HO594.out BK588.out (by decide)) (fun _ hk=>hk.2) (.slice Ao26 t592.length co26)) (fun _ hk=>trivial),m18_⟩
end
theorem portV_back {l : List S34} {a b p : Int} (hp : p ≠ 0) (h : portV l a b = p) : endV l p = some ⟨a, b⟩ := by
  subst h
  obtain ⟨i, hi, hv⟩ := fnd_some hp
  obtain ⟨h1, h2⟩ := fnd_lt hi
  unfold endV
  rw [hv, if_pos (by omega), show ((500 + (i : Int)) - 500).toNat = i by omega, List.getElem?_eq_getElem h1]
  have := h2 h1
  cases hx : l[i]
  rw [hx] at this
  simp at this
  simp [this.1, this.2]
theorem endV_port {l : List S34} {p : Int} {x : S34} (c : okT l = true) (h : endV l p = some x) : portV l x.f0 x.f1 = p ∧ x ∈ l ∧ 500 ≤ p ∧ p ≤ 505 := by
  have hl := okT_le c
  unfold endV at h
  by_cases h5 : 500 ≤ p
  · rw [if_pos h5] at h
    obtain ⟨hi, hx⟩ := List.getElem?_eq_some_iff.mp h
    generalize hj : (p - 500).toNat = j at *
    have hp : p = 500 + (j : Int) := by omega
    refine ⟨?_, hx ▸ List.getElem_mem hi, h5, by omega⟩
    have hg : goodFrom l 0 = true := by unfold okT at c; simp only [Bool.and_eq_true] at c; exact c.2
    unfold goodFrom at hg
    have := List.all_eq_true.mp hg j (by simp [List.mem_range']; omega)
    rw [rd29_get hi, hx] at this
    simp only [Bool.and_eq_true, Bool.not_eq_true'] at this
    have hn : fnd (l.take j) x.f0 x.f1 = none := by
      cases hf : fnd (l.take j) x.f0 x.f1 with
      | none => rfl
      | some i => rw [hf] at this; simp at this
    have hd : l = l.take j ++ (x :: l.drop (j + 1)) := by
      rw [← hx, ← List.drop_eq_getElem_cons hi, List.take_append_drop]
    unfold portV
    have hf : fnd l x.f0 x.f1 = some j := by
      rw [hd, fnd_app, hn, fnd_cons, if_pos ⟨rfl, rfl⟩]
      simp
      omega
    rw [hf, hp]
  · rw [if_neg h5] at h; cases h
theorem said_lport {a p : Int} (h : endOkB a p = true) : saidW (lportW a p) = (a, p, true) := by
  unfold saidW lportW
  rw [if_pos h, trim_port, readEndW_of h]
  dsimp only
  rw [pre_port]
theorem said_is {s : ByteArray} {a p : Int} (h : saidW s = (a, p, true)) : endOkB a p = true ∧ s = lportW a p := by
  unfold saidW at h
  cases hr : readEndW (trimW s) with
  | none => rw [hr] at h; simp at h
  | some r =>
    obtain ⟨a', p'⟩ := r
    rw [hr] at h
    simp only [Prod.mk.injEq] at h
    obtain ⟨rfl, rfl, hp⟩ := h
    obtain ⟨hk, ht⟩ := readEndW_some hr
    refine ⟨hk, ?_⟩
    unfold lportW
    rw [if_pos hk, ← ht]
    have h5 := (pre_split s).mp hp
    rw [← trim_extract hp]
    apply ba_ext
    rw [ByteArray.data_append, Array.toList_append, Lib.extract_data]
    have hl : s.data.toList.length = s.size := by rw [Array.length_toList]; rfl
    rw [List.take_of_length_le (by rw [List.length_drop]; omega)]
    have h4 := h5.2
    rw [ByteArray.toList_eq, Lib.extract_data] at h4
    simp only [List.drop_zero] at h4
    have e : s.data.toList = s.data.toList.take 5 ++ s.data.toList.drop 5 := (List.take_append_drop 5 _).symm
    rw [e]
    simp only [h4, List.drop_append, List.drop_drop]
    simp
def lboxW (s : ByteArray) : Int × Bool := if (saidW s).2.2 = true then (if (saidW s).1 = 50 then ((saidW s).2.1, true) else (0, false)) else (0, false)
theorem implLinBox_f {s : ByteArray} (hs : s.size ≤ 1048576) : impl_LinBox.f s = some (lboxW s) := by
  unfold impl_LinBox.f impl_said.f lboxW
  rw [if_pos (by omega), Option.bind_some]
  split
  · split <;> rfl
  · rfl
def bakW (l : List S34) (s : ByteArray) : ByteArray := if (lboxW s).2 = true then (match endV l (lboxW s).1 with | some x => lportW x.f0 x.f1 | none => s) else s
theorem implGoesIn_f {l : List S34} (c : okT l = true) {s : ByteArray} (hs : s.size ≤ 1048576) : impl_MapTab_goesIn.f l s = some (bakW l s) := by
  have hl := okT_le c
  unfold impl_MapTab_goesIn.f bakW
  rw [implLinBox_f hs, Option.bind_some]
  by_cases hb : (lboxW s).2 = true
  · rw [if_pos hb, if_pos hb]
    have hp : 1 ≤ (lboxW s).1 ∧ (lboxW s).1 ≤ 999 := by
      unfold lboxW at hb ⊢
      by_cases h1 : (saidW s).2.2 = true
      · rw [if_pos h1] at hb ⊢
        by_cases h2 : (saidW s).1 = 50
        · rw [if_pos h2]
          have := endOkB_le (said_is (s := s) (a := (saidW s).1) (p := (saidW s).2.1) (by rw [← h1])).1
          exact this.2
        · rw [if_neg h2] at hb; cases hb
      · rw [if_neg h1] at hb; cases hb
    have hw : wfB (lboxW s).1 = true := by
      unfold wfB Lit.wf
      simp [IntKind.min, IntKind.max, IntKind.signed, IntKind.bits]
      omega
    unfold impl_MapEnd.f
    rw [if_pos ⟨by omega, all_wf (okT_all c), hw⟩, Option.bind_some]
    cases he : endV l (lboxW s).1 with
    | none => simp
    | some x => simp [implLinPort_f]
  · rw [if_neg hb, if_neg hb]
def bakLineW (l : List S34) (s : ByteArray) : ByteArray := if okT l && linOk s then bakW l s else ⟨#[]⟩
theorem implBakLine_a (l : List S34) (hl : l.length ≤ 2000000) (s : ByteArray) (hs : s.size ≤ 1048576) : Ans (fun k => impl_BakLine.f k l s) (fun r => r = bakLineW l s) := by
  unfold impl_BakLine.f bakLineW
  refine Ans.bind (implMapOk_a l hl) ?_
  rintro _ rfl
  cases c : okT l with
  | false => exact Ans.neg (by simp) (Ans.pure (by simp))
  | true =>
    refine Ans.pos rfl ?_
    have e : impl_LinOk.f s = some (linOk s) := by unfold impl_LinOk.f; rw [if_pos (by omega)]
    rw [e]
    refine Ans.bsome ?_
    cases c2 : linOk s with
    | false => exact Ans.neg (by simp) (Ans.pure (by simp))
    | true =>
      rw [implGoesIn_f c hs]
      exact Ans.pos rfl (Ans.bsome (Ans.pure (by simp)))
theorem bak_rwr {l : List S34} {s : ByteArray} {a p : Int} (c : okT l = true) (hr : saysW s = some (a, p)) (hq : (putV l a p).2 ≠ 0) : bakW (lineW l s).1 (lineW l s).2 = s := by
  obtain ⟨hin, hs⟩ := says_is hr
  obtain ⟨f1, f2, f3, f4, f5⟩ := put_facts c hin
  have ex : lineW l s = ((putV l a p).1, lportW 50 (putV l a p).2) := by unfold lineW; rw [hr]; dsimp only; rw [if_neg hq]
  rw [ex]
  obtain ⟨i, hi, hv⟩ := f5 hq
  have hk : endOkB 50 (putV l a p).2 = true := by rw [hv]; unfold endOkB inB; simp; omega
  unfold bakW lboxW
  rw [said_lport hk]
  simp only [if_true]
  rw [portV_back hq f3.symm]
  exact hs.symm
theorem rwr_bak {l : List S34} {s : ByteArray} (c : okT l = true) (hne : bakW l s ≠ s) : linOk (bakW l s) = true ∧ lineW l (bakW l s) = (l, s) := by
  unfold bakW at hne ⊢
  by_cases hb : (lboxW s).2 = true
  · rw [if_pos hb] at hne ⊢
    cases he : endV l (lboxW s).1 with
    | none => rw [he] at hne; exact absurd rfl hne
    | some x =>
      obtain ⟨h1, h2, h3, h4⟩ := endV_port c he
      have hin := okT_all c x h2
      refine ⟨lport_linOk _ _, ?_⟩
      have e2 : putV l x.f0 x.f1 = (l, (lboxW s).1) := by unfold putV; rw [if_pos (by rw [h1]; omega), h1]
      have e1 : saysW (lportW x.f0 x.f1) = some (x.f0, x.f1) := by rw [says_lport (endIn_ok hin), if_pos hin]
      dsimp only
      unfold lineW
      rw [e1]
      dsimp only
      rw [e2, if_neg (by dsimp only; omega)]
      dsimp only
      have e3 : s = lportW 50 (lboxW s).1 := by
        unfold lboxW at hb ⊢
        by_cases g1 : (saidW s).2.2 = true
        · rw [if_pos g1] at hb ⊢
          by_cases g2 : (saidW s).1 = 50
          · rw [if_pos g2]
            exact (said_is (s := s) (a := 50) (p := (saidW s).2.1) (by rw [← g1, ← g2])).2
          · rw [if_neg g2] at hb; cases hb
        · rw [if_neg g1] at hb; cases hb
      rw [← e3]
  · rw [if_neg hb] at hne; exact absurd rfl hne
theorem drawLinOk_a {l : List Int} (hl : Bys l) : Ans (fun k => spec_DrawLinOk.f k l) (fun r => r.size ≤ 30) := by
  unfold spec_DrawLinOk.f
  obtain ⟨l', e0, hl'⟩ := open_f l hl
  rw [e0]
  refine Ans.bsome (Ans.bind (line_a hl' at0 (by omega)) ?_)
  rintro ⟨u, s1⟩ ⟨h1, hu⟩
  dsimp only at *
  refine Ans.bind (pick_a hl' h1 (by omega) 4) ?_
  rintro ⟨v2, s2⟩ ⟨h2, p2⟩
  dsimp only at *
  refine Ans.ite (fun _ => ?_) (fun _ => Ans.ite (fun _ => ?_) (fun _ => Ans.pure (by omega)))
  · refine Ans.bsome (Ans.bind (pick_a hl' h2 (by omega) 5) ?_)
    rintro ⟨v3, s3⟩ ⟨h3, p3⟩
    dsimp only at *
    exact Ans.pos p3.1 (Ans.pos (by simp; omega) (Ans.pure (rdOf_size (by decide) _)))
  · refine Ans.bind (bent_a hl' h2 (by omega) u (by omega)) ?_
    rintro ⟨x, s4⟩ ⟨_, hx⟩
    exact Ans.pure (by dsimp only at *; omega)
theorem drawBakLine_a {l : List Int} (hl : Bys l) : Ans (fun k => spec_DrawBakLine.f k l) (fun r => r.1.length ≤ 20 ∧ r.2.size ≤ 30) := by
  unfold spec_DrawBakLine.f
  obtain ⟨l', e0, hl'⟩ := open_f l hl
  rw [e0]
  refine Ans.bsome (Ans.bind (table_a hl' at0 (by omega) 12) ?_)
  rintro ⟨t, s1⟩ ⟨h1, ht⟩
  dsimp only at *
  refine Ans.bind (pick_a hl' h1 (by omega) 3) ?_
  rintro ⟨v2, s2⟩ ⟨h2, p2⟩
  dsimp only at *
  refine Ans.ite (fun _ => ?_) (fun _ => ?_)
  · refine Ans.bind (pick_a hl' h2 (by omega) 8) ?_
    rintro ⟨v3, s3⟩ ⟨h3, p3⟩
    dsimp only at *
    refine Ans.bind (specLinPort_a 50 _) ?_
    rintro _ rfl
    have := lportW_size 50 (wrap64 (500 + v3))
    exact Ans.pure ⟨ht, by dsimp only; omega⟩
  · refine Ans.bind (drawLinOk_a hl) ?_
    intro v hv
    exact Ans.pure ⟨ht, hv⟩
theorem lineW_grows (l : List S34) (s : ByteArray) : ∃ t, (lineW l s).1 = l ++ t := by
  unfold lineW
  cases saysW s with
  | none => exact ⟨[], by simp⟩
  | some r =>
    obtain ⟨a, p⟩ := r
    have h : ∃ t, (putV l a p).1 = l ++ t := by
      unfold putV
      split
      · exact ⟨[], by simp⟩
      · split
        · exact ⟨[], by simp⟩
        · exact ⟨_, rfl⟩
    dsimp only
    split <;> exact h
theorem tabL_grows : ∀ (xs : List ByteArray) (l : List S34), ∃ t, tabL l xs = l ++ t
  | [], l => ⟨[], by simp [tabL]⟩
  | x :: r, l => by
    obtain ⟨t, h⟩ := lineW_grows l x
    obtain ⟨t2, h2⟩ := tabL_grows r (lineW l x).1
    exact ⟨t ++ t2, by show tabL (lineW l x).1 r = _; rw [h2, h, List.append_assoc]⟩
theorem lineW_says {l : List S34} {s : ByteArray} (c : okT l = true) : saysW (lineW l s).2 = none := by
  unfold lineW
  cases hr : saysW s with
  | none => exact hr
  | some r =>
    obtain ⟨a, p⟩ := r
    obtain ⟨f1, f2, f3, f4, f5⟩ := put_facts c (saysW_in hr)
    dsimp only
    split
    · exact says_none
    · rename_i h0
      obtain ⟨i, hi, e⟩ := f5 h0
      exact says_port (by omega)
theorem fars_ok : ∀ (xs : List ByteArray) (l : List S34), okT l = true → xs.all linOk = true → okT (tabL l xs) = true ∧ ∀ y ∈ farsL l xs, linOk y = true ∧ saysW y = none
  | [], l, c, _ => ⟨c, fun y hy => by cases hy⟩
  | x :: r, l, c, h => by
    simp only [List.all_cons, Bool.and_eq_true] at h
    obtain ⟨g1, g2, g3⟩ := lineW_ok c h.1
    obtain ⟨a, b⟩ := fars_ok r (lineW l x).1 g1 h.2
    refine ⟨a, fun y hy => ?_⟩
    rcases List.mem_cons.mp hy with rfl | hy
    · exact ⟨g3, lineW_says c⟩
    · exact b y hy
theorem putV_had {l : List S34} {a p : Int} (h : portV l a p ≠ 0) : putV l a p = (l, portV l a p) := by
  unfold putV; rw [if_pos h]
theorem putV_full {l : List S34} {a p : Int} (h : portV l a p = 0) (h6 : l.length = 6) : putV l a p = (l, 0) := by
  unfold putV; rw [if_neg (by simp [h]), if_pos h6]
theorem put_stays {l t r : List S34} {a p : Int} (c : okT l = true) (ct : okT t = true) (he : endIn a p = true) (h : t = (putV l a p).1 ++ r) : putV t a p = (t, (putV l a p).2) ∧ portV t a p = (putV l a p).2 ∧ ((putV l a p).2 = 0 → t.length = 6) := by
  obtain ⟨f1, f2, f3, f4, f5⟩ := put_facts c he
  by_cases h0 : (putV l a p).2 = 0
  · have h6 := f4 h0
    have ht := okT_le ct
    have hr0 : r = [] := by
      have := congrArg List.length h
      rw [List.length_append] at this
      exact List.eq_nil_of_length_eq_zero (by omega)
    subst hr0
    rw [List.append_nil] at h
    have e0 : portV t a p = 0 := by rw [h, ← f3]; exact h0
    have e6 : t.length = 6 := by rw [h]; exact h6
    exact ⟨by rw [putV_full e0 e6, h0], by rw [e0, h0], fun _ => e6⟩
  · have e1 : portV (putV l a p).1 a p ≠ 0 := by rw [← f3]; exact h0
    have e2 : portV t a p = (putV l a p).2 := by rw [h, portV_app r e1, ← f3]
    exact ⟨by rw [putV_had (by rw [e2]; exact h0), e2], e2, fun h => absurd h h0⟩
theorem lineW_stays {l t r : List S34} {s : ByteArray} (c : okT l = true) (ct : okT t = true) (h : t = (lineW l s).1 ++ r) : lineW t s = (t, (lineW l s).2) := by
  unfold lineW at h ⊢
  cases hr : saysW s with
  | none => rfl
  | some q =>
    obtain ⟨a, p⟩ := q
    rw [hr] at h
    dsimp only at h ⊢
    have h' : t = (putV l a p).1 ++ r := by split at h <;> exact h
    obtain ⟨e, _, _⟩ := put_stays c ct (saysW_in hr) h'
    rw [e]
    dsimp only
    split <;> rfl
theorem fars_stays : ∀ (xs : List ByteArray) (l t r : List S34), okT l = true → okT t = true → xs.all linOk = true → t = tabL l xs ++ r → farsL t xs = farsL l xs ∧ tabL t xs = t
  | [], l, t, r, _, _, _, _ => ⟨rfl, rfl⟩
  | x :: xs, l, t, r, c, ct, h, e => by
    simp only [List.all_cons, Bool.and_eq_true] at h
    obtain ⟨g1, g2, g3⟩ := lineW_ok c h.1
    obtain ⟨t2, h2⟩ := tabL_grows xs (lineW l x).1
    have e1 : lineW t x = (t, (lineW l x).2) := lineW_stays (r := t2 ++ r) c ct (by rw [e]; show tabL (lineW l x).1 xs ++ r = _; rw [h2, List.append_assoc])
    obtain ⟨a, b⟩ := fars_stays xs (lineW l x).1 t r g1 ct h.2 e
    refine ⟨?_, ?_⟩
    · show (lineW t x).2 :: farsL (lineW t x).1 xs = (lineW l x).2 :: farsL (lineW l x).1 xs
      rw [e1]; dsimp only; rw [a]
    · show tabL (lineW t x).1 xs = t
      rw [e1]; exact b
theorem fars_again : ∀ (ys : List ByteArray) (t : List S34), (∀ y ∈ ys, saysW y = none) → farsL t ys = ys ∧ tabL t ys = t
  | [], t, _ => ⟨rfl, rfl⟩
  | y :: ys, t, h => by
    have e : lineW t y = (t, y) := by unfold lineW; rw [h y (by simp)]
    obtain ⟨a, b⟩ := fars_again ys t (fun z hz => h z (by simp [hz]))
    refine ⟨?_, ?_⟩
    · show (lineW t y).2 :: farsL (lineW t y).1 ys = _
      rw [e]; dsimp only; rw [a]
    · show tabL (lineW t y).1 ys = t
      rw [e]; exact b
theorem far_facts {l : List S34} {s : ByteArray} (c : okT l = true) (cs : strOkW s = true) :
    okT (tabL l (linesB s)) = true ∧ linesB (joinS (farsL l (linesB s))) = farsL l (linesB s) ∧ restB (joinS (farsL l (linesB s))) = ⟨#[]⟩ ∧ (∀ y ∈ farsL l (linesB s), linOk y = true ∧ saysW y = none) ∧
      (tabL l (linesB s)).length ≤ 6 ∧ (joinS (farsL l (linesB s))).size ≤ 2040 := by
  obtain ⟨h120, hall, _⟩ := strOkW_parts cs
  obtain ⟨a, b⟩ := fars_ok (linesB s) l c hall
  obtain ⟨p, q⟩ := lines_join (farsL l (linesB s)) (fun y hy => linOk_no (b y hy).1)
  obtain ⟨z1, z2⟩ := rwrStream_facts l s
  rw [rwrStream_ok c cs] at z1 z2
  exact ⟨a, p, q, b, z1, z2⟩
theorem lbox_none : (lboxW noneB).2 = false := by
  have h : (saidW noneB).2.2 = false := by
    unfold saidW
    cases readEndW (trimW noneB) with
    | none => rfl
    | some r =>
      obtain ⟨a, p⟩ := r
      show Lib.hasPrefix noneB.data.toList portL = false
      decide
  unfold lboxW
  rw [h]
  rfl
theorem lbox_port {q : Int} (h : 1 ≤ q ∧ q ≤ 999) : lboxW (lportW 50 q) = (q, true) := by
  have e : endOkB 50 q = true := by unfold endOkB inB; simp [h.1, h.2]
  unfold lboxW
  rw [said_lport e]
  rfl
theorem room_at : ∀ (xs : List ByteArray) (l : List S34), okT l = true → xs.all linOk = true → ∀ (i : Nat) (h : i < xs.length) (h' : i < (farsL l xs).length) (a p : Int), saysW xs[i] = some (a, p) →
    ((lboxW (farsL l xs)[i]).2 = true ∧ portV (tabL l xs) a p = (lboxW (farsL l xs)[i]).1) ∨ ((lboxW (farsL l xs)[i]).2 = false ∧ (farsL l xs)[i] = noneB ∧ (tabL l xs).length = 6 ∧ portV (tabL l xs) a p = 0)
  | x :: r, l, c, h, 0, hi, hi', a, p, hs => by
    simp only [List.all_cons, Bool.and_eq_true] at h
    simp only [List.getElem_cons_zero] at hs
    obtain ⟨g1, g2, g3⟩ := lineW_ok c h.1
    obtain ⟨t2, h2⟩ := tabL_grows r (lineW l x).1
    have hok := (fars_ok r (lineW l x).1 g1 h.2).1
    obtain ⟨f1, f2, f3, f4, f5⟩ := put_facts c (saysW_in hs)
    have e1 : (lineW l x).1 = (putV l a p).1 := by unfold lineW; rw [hs]; dsimp only; split <;> rfl
    have e2 : (lineW l x).2 = if (putV l a p).2 = 0 then noneB else lportW 50 (putV l a p).2 := by unfold lineW; rw [hs]; dsimp only; split <;> rfl
    rw [e1] at h2 hok
    obtain ⟨q1, q2, q3⟩ := put_stays c hok (saysW_in hs) (h2)
    show ((lboxW (lineW l x).2).2 = true ∧ portV (tabL (lineW l x).1 r) a p = (lboxW (lineW l x).2).1) ∨ ((lboxW (lineW l x).2).2 = false ∧ (lineW l x).2 = noneB ∧ (tabL (lineW l x).1 r).length = 6 ∧ portV (tabL (lineW l x).1 r) a p = 0)
    rw [e1, e2]
    by_cases h0 : (putV l a p).2 = 0
    · rw [if_pos h0]
      exact .inr ⟨lbox_none, rfl, q3 h0, by rw [q2, h0]⟩
    · rw [if_neg h0]
      obtain ⟨i, hi, e⟩ := f5 h0
      rw [lbox_port (by omega)]
      exact .inl ⟨rfl, q2⟩
  | x :: r, l, c, h, i + 1, hi, hi', a, p, hs => by
    simp only [List.all_cons, Bool.and_eq_true] at h
    obtain ⟨g1, g2, g3⟩ := lineW_ok c h.1
    exact room_at r (lineW l x).1 g1 h.2 i (by simpa using hi) (by simpa [farsL] using hi') a p (by simpa using hs)
theorem haStarts_f {a b : ByteArray} (h : ∃ t, a = b ++ t) : laws_haStarts.f a b = some true := by
  obtain ⟨t, rfl⟩ := h
  unfold laws_haStarts.f
  have hz : (b ++ t).size = b.size + t.size := ByteArray.size_append
  rw [if_pos (by omega), if_pos (by omega), if_pos (by omega)]
  have e : (b ++ t).extract 0 ((b.size : Int)).toNat = b := by
    apply bax
    rw [Lib.extract_data, Int.toNat_natCast]
    simp
  rw [e]
  simp
theorem stays_y {t s y r X} (c : okT t = true) (cs : strOkW s = true) (hX : tabL t (linesB s) = X) (cy : okT y = true) (e : y = X ++ r) : rwrStreamW y s = (y, joinS (farsL t (linesB s))) ∧ farsL y (linesB s) = farsL t (linesB s) := by
  obtain ⟨h120, hall, _⟩ := strOkW_parts cs
  obtain ⟨a, b⟩ := fars_stays (linesB s) t y r c cy hall (by rw [hX]; exact e)
  exact ⟨by rw [rwrStream_ok cy cs, a, b], a⟩
theorem stays_l1 {ys : List ByteArray} (h : ∀ y ∈ ys, linOk y = true ∧ saysW y = none) (hl : ys.length ≤ 400) : ∀ (m i : Nat), ys.length - i = m → i ≤ ys.length → Ans (fun k => laws_FnRwrStays.l1 k ys (⟨#[]⟩ : ByteArray) (i : Int)) (fun v => v = true) := by
  intro m
  induction m with
  | zero =>
    intro i hm hi
    refine Ans.succ ?_
    unfold laws_FnRwrStays.l1
    exact Ans.neg (by omega) (Ans.pure (by rw [ByteArray.toList_eq]; rfl))
  | succ m ih =>
    intro i hm hi
    have hlt : i < ys.length := by omega
    have hw : wrap64 ((i : Int) + 1) = ((i + 1 : Nat) : Int) := w64 _ (by omega)
    obtain ⟨y1, y2⟩ := h _ (List.getElem_mem hlt)
    have hys := linOk_size y1
    refine Ans.succ ?_
    unfold laws_FnRwrStays.l1
    refine Ans.pos (by omega) (Ans.pos (by omega) ?_)
    rw [rdOf_get hlt, hw, implLinSays_f (by omega)]
    have e : saysT ys[i] = (0, 0, false) := by unfold saysT; rw [y2]
    rw [e]
    exact Ans.bsome (Ans.neg (by simp) (ih (i + 1) (by omega) (by omega)))
theorem stays_part {s y : _} {ys : List ByteArray} (cy : okT y = true) (hfy : farsL y (linesB s) = ys) (i : Nat) : ∃ q, joinS ys = (rwrStreamW y (s.extract 0 i)).2 ++ q := by
  cases cp : strOkW (s.extract 0 i) with
  | false =>
    refine ⟨joinS ys, ?_⟩
    have e0 : rwrStreamW y (s.extract 0 i) = ([], ⟨#[]⟩) := by unfold rwrStreamW; rw [cy, cp]; rfl
    rw [e0]
    exact bax (by simp)
  | true =>
    obtain ⟨w, hw⟩ := lines_take s i
    rw [rwrStream_ok cy cp, ← hfy, hw, farsL_append, joinS_append]
    exact ⟨_, rfl⟩
theorem stays_l0 {s : ByteArray} {y : List S34} {ys : List ByteArray} (cy : okT y = true) (hs : s.size ≤ 400) (hfy : farsL y (linesB s) = ys) (hz : (joinS ys).size ≤ 2040) (k2 : linesB (joinS ys) = ys) (k3 : restB (joinS ys) = ⟨#[]⟩) (h : ∀ y ∈ ys, linOk y = true ∧ saysW y = none) (hl : ys.length ≤ 400) :
    ∀ (m i : Nat), s.size - i = m → i ≤ s.size → Ans (fun k => laws_FnRwrStays.l0 k s (joinS ys) (i : Int) y) (fun v => v = true) := by
  have hy6 := okT_le cy
  intro m
  induction m with
  | zero =>
    intro i hm hi
    refine Ans.succ ?_
    unfold laws_FnRwrStays.l0
    refine Ans.neg (by omega) ?_
    rw [implStrLines_f (by omega), k2, k3]
    exact Ans.bsome (stays_l1 h hl _ 0 rfl (Nat.zero_le _))
  | succ m ih =>
    intro i hm hi
    have hlt : i < s.size := by omega
    have hw : wrap64 ((i : Int) + 1) = ((i + 1 : Nat) : Int) := w64 _ (by omega)
    refine Ans.succ ?_
    unfold laws_FnRwrStays.l0
    refine Ans.pos (by omega) (Ans.pos (by omega) (Ans.pos (by omega) ?_))
    rw [hw, Int.toNat_natCast]
    refine Ans.bind (implRwrStream_a y (by omega) _ (by rw [ByteArray.size_extract]; omega)) ?_
    rintro _ rfl
    rw [haStarts_f (stays_part cy hfy i)]
    exact Ans.bsome (Ans.pos rfl (ih (i + 1) (by omega) (by omega)))
theorem laws_FnRwrStays.pure : laws_FnRwrStays.Pure := by
  intro l0 l1 _ _ hw0 _ _ hw1
  have hb0 : Bys l0 := bys_of hw0
  have hb1 : Bys l1 := bys_of hw1
  have J1t : ∀ (s : ByteArray) (t : List S34), Ans (fun k => laws_FnRwrStays.j1 k l1 s true t) (fun v => v = true) := by
    intro s t
    refine Ans.succ ?_
    unfold laws_FnRwrStays.j1
    refine Ans.pos rfl ?_
    rw [haOk_f]
    exact Ans.bsome (Ans.pure rfl)
  have J1 : ∀ (t : List S34) (s : ByteArray), okT t = true → strOkW s = true → s.size ≤ 400 → Ans (fun k => laws_FnRwrStays.j1 k l1 s false t) (fun v => v = true) := by
    intro t s c cs hs
    obtain ⟨h120, hall, _⟩ := strOkW_parts cs
    obtain ⟨k1, k2, k3, k4, k5, k6⟩ := far_facts c cs
    have ht := okT_le c
    have hzl := (linesB_size s).1
    have hr := rwrStream_ok c cs
    obtain ⟨X, hX⟩ : ∃ X, tabL t (linesB s) = X := ⟨_, rfl⟩
    rw [hX] at k1 k5 hr
    have hfl : (farsL t (linesB s)).length ≤ 400 := by rw [farsL_length]; omega
    refine Ans.succ ?_
    unfold laws_FnRwrStays.j1
    refine Ans.neg (by simp) (Ans.bind (implRwrStream_a t (by omega) s (by omega)) ?_)
    rintro _ rfl
    rw [hr]
    refine Ans.bind (drawRwrStream_a hb1) ?_
    rintro ⟨u0, u⟩ ⟨hu0, hu⟩
    dsimp only at *
    refine Ans.bind (specStrOk_a u (by omega)) ?_
    rintro _ rfl
    cases cu : strOkW u with
    | true =>
      obtain ⟨g1, g2, g3, g4, g5, g6⟩ := far_facts k1 cu
      obtain ⟨r, hgr⟩ := tabL_grows (linesB u) X
      refine Ans.pos rfl (Ans.bind (implRwrStream_a X (by omega) u (by omega)) ?_)
      rintro _ rfl
      rw [rwrStream_ok k1 cu]
      dsimp only
      refine Ans.bind (implRwrStream_a _ (by omega) s (by omega)) ?_
      rintro _ rfl
      have ky := stays_y c cs hX g1 hgr
      rw [ky.1]
      dsimp only
      refine Ans.pos rfl (Ans.bind (haEnds_a _ _ (by omega)) ?_)
      rintro _ rfl
      simp only [decide_true, Bool.not_true]
      refine Ans.succ ?_
      unfold laws_FnRwrStays.j2
      exact Ans.neg (by simp) (stays_l0 g1 hs ky.2 k6 k2 k3 k4 hfl _ 0 rfl (Nat.zero_le _))
    | false =>
      have e0 : X = X ++ [] := by simp
      refine Ans.neg (by simp) (Ans.bind (implRwrStream_a X (by omega) s (by omega)) ?_)
      rintro _ rfl
      have ky := stays_y c cs hX k1 e0
      rw [ky.1]
      dsimp only
      refine Ans.pos rfl (Ans.bind (haEnds_a _ _ (by omega)) ?_)
      rintro _ rfl
      simp only [decide_true, Bool.not_true]
      refine Ans.succ ?_
      unfold laws_FnRwrStays.j5
      exact Ans.neg (by simp) (stays_l0 k1 hs ky.2 k6 k2 k3 k4 hfl _ 0 rfl (Nat.zero_le _))
  have J0 : ∀ (f : Bool), Ans (fun k => laws_FnRwrStays.j0 k l0 l1 f) (fun v => v = true) := by
    intro f
    refine Ans.succ ?_
    unfold laws_FnRwrStays.j0
    refine Ans.ite (fun _ => Ans.pure rfl) (fun _ => ?_)
    refine Ans.bind (drawRwrStream_a hb0) ?_
    rintro ⟨t, s⟩ ⟨ht, hs⟩
    dsimp only at *
    refine Ans.bind (specMapOk_a t (by omega)) ?_
    rintro _ rfl
    cases c : okT t with
    | false => exact Ans.neg (by simp) (J1t _ _)
    | true =>
      refine Ans.pos rfl (Ans.bind (specStrOk_a s (by omega)) ?_)
      rintro _ rfl
      cases cs : strOkW s with
      | false => exact J1t _ _
      | true => exact J1 t s c cs hs
  have A : Ans (fun k => laws_FnRwrStays.f k l0 l1) (fun r => r = true) := by
    unfold laws_FnRwrStays.f
    exact Ans.ite (fun _ => J0 _) (fun _ => J0 _)
  obtain ⟨k, v, rfl, h⟩ := A.got
  exact ⟨k, h⟩
end Go.Proofs.YtffmbccgcaghjaaGreatDoor.P
namespace Go.Proofs.YtffmbccgcaghjaaGreatDoor.Pure
theorem FnRwrStays : P.laws_FnRwrStays.Pure := P.laws_FnRwrStays.pure
end Go.Proofs.YtffmbccgcaghjaaGreatDoor.Pure
