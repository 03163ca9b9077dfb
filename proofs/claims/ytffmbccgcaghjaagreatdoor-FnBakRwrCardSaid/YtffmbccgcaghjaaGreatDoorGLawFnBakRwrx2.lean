import Derived.Test.YtffmbccgcaghjaaGreatDoorGLawFnBakRwrx1
import Derived.Lib.SliceRun
import Derived.Maps.OwnSet
import Derived.Maps.OwnOps
import Derived.Maps.Views
import Derived.DeepKeys4
namespace Go.Proofs.YtffmbccgcaghjaaGreatDoor.P
open Go.RowKit Go.Proofs.YtffmbccgcaghjaaGreatDoorUFnBakRwr.PrintWords Go.Proofs.YtffmbccgcaghjaaGreatDoorUFnBakRwr.PrintLast Go.Proofs.YtffmbccgcaghjaaGreatDoorUFnBakRwr.PrintMore
attribute [local go_sem] max2_int min2_int max_two min_two max_three min_three max_four min_four
set_option linter.unusedVariables false
set_option linter.unusedSimpArgs false
def spec_DrawRwrLine.f (k : Nat) (l0 : List Int) : Option ((List (S34)) × ByteArray) := (spec_l20Open.f l0).bind fun bt268 => ((spec_l20Table.f k bt268.1 bt268.2 12).bind fun bt271 => ((spec_l20Line.f k bt268.1 bt271.2).bind fun bt276 => ((spec_l20Rd_odd.f k bt268.1 bt276.2 9).bind fun bt278 => (if bt278.1 = true then ((spec_l20Bent.f k bt268.1 bt278.2 bt276.1).bind fun bt280 => (some (bt271.1, bt280.1))) else (some (bt271.1, bt276.1))))))
theorem spec_DrawRwrLine.mono : ∀ a0 k, LeO (spec_DrawRwrLine.f k a0) (spec_DrawRwrLine.f (k + 1) a0) := by
 intro a0 k
 unfold spec_DrawRwrLine.f
 repeat' first | (with_reducible first | exact spec_l20Bent.mono _ _ _ _ | exact spec_l20Line.mono _ _ _ | exact spec_l20Rd_odd.mono _ _ _ _ | exact spec_l20Table.mono _ _ _ _ | exact LeO.refl _ | exact LeO.none _ | refine LeO.ite ?_ ?_ | refine LeO.bind ?_ (fun _ => ?_)) | exact spec_l20Bent.mono _ _ _ _ | exact spec_l20Line.mono _ _ _ | exact spec_l20Rd_odd.mono _ _ _ _ | exact spec_l20Table.mono _ _ _ _ | exact LeO.none _ | refine LeO.ite ?_ ?_ | refine LeO.bind ?_ (fun _ => ?_)
set_option maxHeartbeats 8000000 in
set_option maxRecDepth 100000 in
theorem spec_DrawRwrLine.calls (k : Nat) (A0 : Option Addr) (c0 : Nat) (l0 : List Int) (r1 : List (S34)) (r2 : ByteArray) (w : World) (hr0 : Kd.C (Kd.int .u8) w A0 l0.length l0) (hc0 : l0.length ≤ c0) (h : spec_DrawRwrLine.f k l0 = some (r1, r2)) :
  Calls Tryz.prog 12 #[.slice A0 l0.length c0] w fun e w' => ∃ v0_ : Value, e = .returned (.tuple #[.agg #[v0_], .string r2]) ∧ Kd.R k34 34 w' w.heap.size (fun _ => True) v0_ r1 ∧ Below w.heap.size w w' := by
 have hu25 := Tryz.underlying25
 have HR0 := Aside0.mk hr0
 have HC0 := Aside0.mk hc0
 clear hr0 hc0
 have HB := Aside0.mk (Below.refl w.heap.size w)
 have H : ((spec_l20Open.f l0).bind fun bt268 => ((spec_l20Table.f k bt268.1 bt268.2 12).bind fun bt271 => ((spec_l20Line.f k bt268.1 bt271.2).bind fun bt276 => ((spec_l20Rd_odd.f k bt268.1 bt276.2 9).bind fun bt278 => (if bt278.1 = true then ((spec_l20Bent.f k bt268.1 bt278.2 bt276.1).bind fun bt280 => (some (bt271.1, bt280.1))) else (some (bt271.1, bt276.1))))))) = some (r1, r2) := h
 clear h
 replace H := Option.bind_eq_some_iff.mp H
 obtain ⟨⟨t268, t269⟩, A20, H⟩ := H
 try dsimp only at H
 have A2 := Aside0.mk A20
 clear A20
 replace H := Option.bind_eq_some_iff.mp H
 obtain ⟨⟨t271, t274⟩, A30, H⟩ := H
 try dsimp only at H
 have A3 := Aside0.mk A30
 clear A30
 replace H := Option.bind_eq_some_iff.mp H
 obtain ⟨⟨t276, t277⟩, A40, H⟩ := H
 try dsimp only at H
 have A4 := Aside0.mk A40
 clear A40
 replace H := Option.bind_eq_some_iff.mp H
 obtain ⟨⟨t278, t279⟩, A50, H⟩ := H
 try dsimp only at H
 have A5 := Aside0.mk A50
 clear A50
 by_cases c6 : t278 = true
 ·subst c6
  have H1 : ((spec_l20Bent.f k t268 t279 t276).bind fun bt280 => (some (t271, bt280.1))) = some (r1, r2) := by rw [if_pos rfl] at H; exact H
  clear H
  have H := H1
  clear H1
  replace H := Option.bind_eq_some_iff.mp H
  obtain ⟨⟨t280, t281⟩, A70, H⟩ := H
  try dsimp only at H
  have A7 := Aside0.mk A70
  clear A70
  simp only [Option.some.injEq, Prod.mk.injEq] at H
  obtain ⟨rfl, rfl⟩ := H
  go_enter Tryz.func12, Tryz.ntmps12
  go_wp2_with (first | ((with_reducible refine gate_dst (N := 2) rfl ?_); refine box_event rfl (N := 2) rfl (cs := #[.slice none 0 0]) (t := 25) hr_ ?_; intro gb267 hg w8 hbox hb; have BK267 := Aside0.mk hbox; have GW267 := gwE HB hg; have GE267 := gwE HB hg; replace HB := hbS HB hb; clear hb hbox hg) | ((with_reducible refine gate_callee (f := 40) rfl ?_); refine gL (some 8) Tryz.func40 #[.slice A0 l0.length c0] ?_; (with_reducible refine (spec_l20Open.calls _ _ l0 t268 t269 w _ ?side1 ?side2 ?side3 A2.out).mono ?_); (case side1 => exact m2_); (case side2 => exact HR0.out); (case side3 => exact HC0.out); rintro e w9 ⟨g270, rfl, hi, hb, hb2⟩; refine ⟨_, rfl, ?_⟩; replace HB := Aside0.mk hb; have HI270 := Aside0.mk hi; have NB270_267 := Aside0.mk (IsS84.ne_blk hi (blk_below (g := gb267) (o := .cells #[.slice none 0 0] 25 (0, 0)) (bk BK267) hb2) (by decide)); have NB267_270 := Aside0.mk (Ne.symm (IsS84.ne_blk hi (blk_below (g := gb267) (o := .cells #[.slice none 0 0] 25 (0, 0)) (bk BK267) hb2) (by decide))); replace BK267 := Aside0.mk (blk_below (g := gb267) (o := .cells #[.slice none 0 0] 25 (0, 0)) (bk BK267) hb2); (try clear hb); (try clear hb2); (try clear hi)) | ((with_reducible refine gate_callee (f := 41) rfl ?_); refine gL (some 10) Tryz.func41 #[.pointer (some ⟨g270, 0, none⟩), .int .i64 12] ?_; (with_reducible refine (spec_l20Table.calls k g270 t268 t269 12 t271 t274 w _ ?side1 ?side2 A3.out).mono ?_); (case side1 => exact m6_); (case side2 => exact m7_); rintro e w10 ⟨v272, rfl, ho0, hi, hb, hk⟩; refine ⟨_, rfl, ?_⟩; replace BK267 := Aside0.mk (KeepBut.blk hk (g' := gb267) (o := .cells #[.slice none 0 0] 25 (0, 0)) (bk BK267) NB267_270.out (by simp)); have HO273 := Aside0.mk (Kd.R_lower ho0 (below_size m7_)); replace HB := Aside0.mk hb; replace HI270 := Aside0.mk hi; (try clear hb); (try clear hk); (try clear hi); (try clear ho0)) | ((with_reducible refine gate_dst (N := 5) rfl ?_); refine box_event rfl (N := 5) rfl (cs := #[.slice none 0 0]) (t := 25) hr_ ?_; intro gb275 hg w11 hbox hb; replace HO273 := Aside0.mk (Kd.R_below (rs HO273) hb); have BK275 := Aside0.mk hbox; have GW275 := Aside0.mk ((by rw [hg]; exact (below_size m7_) : w.heap.size ≤ gb275)); have GE275 := Aside0.mk ((by rw [hg]; exact (below_size m7_) : w.heap.size ≤ gb275)); replace HB := Aside0.mk (below_step m7_ hb); have NB267_275 := neL BK267 hg; have NB275_267 := neG BK267 hg; replace BK267 := bkB BK267 hb; have NB270_275 := Aside0.mk ((by rw [hg]; exact Nat.ne_of_lt (IsS84.lt (show IsS84 w _ g270 t268 t274 from m6_)) : g270 ≠ gb275)); have NB275_270 := Aside0.mk ((by rw [hg]; exact Nat.ne_of_gt (IsS84.lt (show IsS84 w _ g270 t268 t274 from m6_)) : gb275 ≠ g270)); replace HI270 := Aside0.mk (IsS84.below m6_ hb); clear hb hbox hg; obtain ⟨Ao12, co12, eo12⟩ := Kd.R_slice HO273.out; subst eo12; have hnb13 := NB275_267.out; have hnc13 := NB267_275.out; have hnb14 := NB275_270.out; have hnc14 := NB270_275.out; have hcz15_0 := bcell BK275 0; have hfz15_0 := blk_frozen BK275.out 0) | ((with_reducible refine gate_callee (f := 42) rfl ?_); refine gL (some 12) Tryz.func42 #[.pointer (some ⟨g270, 0, none⟩)] ?_; (with_reducible refine (spec_l20Line.calls k g270 t268 t274 t276 t277 w _ ?side1 ?side2 A4.out).mono ?_); (case side1 => exact m6_); (case side2 => exact m7_); rintro e w16 ⟨rfl, hi, hb, hk⟩; refine ⟨_, rfl, ?_⟩; replace BK267 := Aside0.mk (KeepBut.blk hk (g' := gb267) (o := .cells #[.slice none 0 0] 25 (0, 0)) (by (with_reducible repeat refine bu ?_); refine blk_far ?_ NB267_275.out _; (with_reducible repeat refine bu ?_); exact BK267.out) NB267_270.out (by simp)); replace HO273 := Aside0.mk (Kd.R_mono (Kd.R_keep (IsS84.apart (show IsS84 w _ g270 t268 t274 from m6_) (by (with_reducible repeat apply ru); exact (Kd.R_mono (Kd.R_far (p := ⟨gb275, 0, none⟩) (Kd.R_types HO273.out BK275.out (by decide)) (fun _ hk => hk.2) (.slice Ao12 t271.length co12)) (fun _ h_ => h_.1))) (by decide)) hk (fun _ h => h.2)) (fun _ h => h.1)); replace BK275 := Aside0.mk (KeepBut.blk hk (g' := gb275) (o := .cells #[.slice Ao12 t271.length co12] 25 (0, 0)) (by (with_reducible repeat refine bu ?_); refine blk_put (cs := #[.slice none 0 0]) ?_ 0 _ rfl; (with_reducible repeat refine bu ?_); exact BK275.out) NB275_270.out (by simp)); replace HB := Aside0.mk hb; replace HI270 := Aside0.mk hi; (try clear hb); (try clear hk); (try clear hi)) | ((with_reducible refine gate_callee (f := 43) rfl ?_); refine gL (some 14) Tryz.func43 #[.pointer (some ⟨g270, 0, none⟩), .int .i64 9] ?_; (with_reducible refine (spec_l20Rd_odd.calls k g270 t268 t277 9 true t279 w _ ?side1 ?side2 A5.out).mono ?_); (case side1 => exact m6_); (case side2 => exact m7_); rintro e w17 ⟨rfl, hi, hb, hk⟩; refine ⟨_, rfl, ?_⟩; replace BK267 := Aside0.mk (KeepBut.blk hk (g' := gb267) (o := .cells #[.slice none 0 0] 25 (0, 0)) (bk BK267) NB267_270.out (by simp)); replace HO273 := Aside0.mk (Kd.R_mono (Kd.R_keep (IsS84.apart (show IsS84 w _ g270 t268 t277 from m6_) (rs HO273) (by decide)) hk (fun _ h => h.2)) (fun _ h => h.1)); replace BK275 := Aside0.mk (KeepBut.blk hk (g' := gb275) (o := .cells #[.slice Ao12 t271.length co12] 25 (0, 0)) (bk BK275) NB275_270.out (by simp)); replace HB := Aside0.mk hb; replace HI270 := Aside0.mk hi; (try clear hb); (try clear hk); (try clear hi)) | ((with_reducible refine gate_callee (f := 44) rfl ?_); refine gL (some 17) Tryz.func44 #[.pointer (some ⟨g270, 0, none⟩), .string t276] ?_; (with_reducible refine (spec_l20Bent.calls k g270 t268 t279 t276 t280 t281 w _ ?side1 ?side2 A7.out).mono ?_); (case side1 => exact m6_); (case side2 => exact m7_); rintro e w18 ⟨rfl, hi, hb, hk⟩; refine ⟨_, rfl, ?_⟩; replace BK267 := Aside0.mk (KeepBut.blk hk (g' := gb267) (o := .cells #[.slice none 0 0] 25 (0, 0)) (bk BK267) NB267_270.out (by simp)); replace HO273 := Aside0.mk (Kd.R_mono (Kd.R_keep (IsS84.apart (show IsS84 w _ g270 t268 t279 from m6_) (rs HO273) (by decide)) hk (fun _ h => h.2)) (fun _ h => h.1)); replace BK275 := Aside0.mk (KeepBut.blk hk (g' := gb275) (o := .cells #[.slice Ao12 t271.length co12] 25 (0, 0)) (bk BK275) NB275_270.out (by simp)); replace HB := Aside0.mk hb; replace HI270 := Aside0.mk hi; (try clear hb); (try clear hk); (try clear hi); have hcz19_0 := bcell BK275 0; have hfz19_0 := blk_frozen BK275.out 0; have hnb20 := NB267_270.out; have hnc20 := NB270_267.out; have hcz21_0 := bcell BK267 0; have hfz21_0 := blk_frozen BK267.out 0))
  refine bodyPost_ret (results_ct rfl _ _ gb267 25 #[.slice Ao12 t271.length co12] (0, 0) _ rfl (by (with_reducible repeat refine bu ?_); refine blk_put (cs := #[.slice none 0 0]) ?_ 0 _ rfl; (with_reducible repeat refine bu ?_); exact BK267.out) Tryz.underlying25 rfl (by kernel_rfl)) rfl ?_
  exact ⟨_, fi_, by (with_reducible repeat apply ru); exact Kd.R_mono (Kd.R_far (p := ⟨gb267, 0, none⟩) (Kd.R_types HO273.out BK267.out (by decide)) (fun _ hk => hk.2) (.slice Ao12 t271.length co12)) (fun _ hk => trivial), m7_⟩
 ·replace c6 := Bool.eq_false_iff.mpr c6
  subst c6
  have H1 : (some (t271, t276)) = some (r1, r2) := by rw [if_neg (show ¬ (false = true) by decide)] at H; exact H
  clear H
  have H := H1
  clear H1
  simp only [Option.some.injEq, Prod.mk.injEq] at H
  obtain ⟨rfl, rfl⟩ := H
  go_enter Tryz.func12, Tryz.ntmps12
  go_wp2_with (first | ((with_reducible refine gate_dst (N := 2) rfl ?_); refine box_event rfl (N := 2) rfl (cs := #[.slice none 0 0]) (t := 25) hr_ ?_; intro gb267 hg w22 hbox hb; have BK267 := Aside0.mk hbox; have GW267 := gwE HB hg; have GE267 := gwE HB hg; replace HB := hbS HB hb; clear hb hbox hg) | ((with_reducible refine gate_callee (f := 40) rfl ?_); refine gL (some 8) Tryz.func40 #[.slice A0 l0.length c0] ?_; (with_reducible refine (spec_l20Open.calls _ _ l0 t268 t269 w _ ?side1 ?side2 ?side3 A2.out).mono ?_); (case side1 => exact m2_); (case side2 => exact HR0.out); (case side3 => exact HC0.out); rintro e w23 ⟨g270, rfl, hi, hb, hb2⟩; refine ⟨_, rfl, ?_⟩; replace HB := Aside0.mk hb; have HI270 := Aside0.mk hi; have NB270_267 := Aside0.mk (IsS84.ne_blk hi (blk_below (g := gb267) (o := .cells #[.slice none 0 0] 25 (0, 0)) (bk BK267) hb2) (by decide)); have NB267_270 := Aside0.mk (Ne.symm (IsS84.ne_blk hi (blk_below (g := gb267) (o := .cells #[.slice none 0 0] 25 (0, 0)) (bk BK267) hb2) (by decide))); replace BK267 := Aside0.mk (blk_below (g := gb267) (o := .cells #[.slice none 0 0] 25 (0, 0)) (bk BK267) hb2); (try clear hb); (try clear hb2); (try clear hi)) | ((with_reducible refine gate_callee (f := 41) rfl ?_); refine gL (some 10) Tryz.func41 #[.pointer (some ⟨g270, 0, none⟩), .int .i64 12] ?_; (with_reducible refine (spec_l20Table.calls k g270 t268 t269 12 t271 t274 w _ ?side1 ?side2 A3.out).mono ?_); (case side1 => exact m6_); (case side2 => exact m7_); rintro e w24 ⟨v272, rfl, ho0, hi, hb, hk⟩; refine ⟨_, rfl, ?_⟩; replace BK267 := Aside0.mk (KeepBut.blk hk (g' := gb267) (o := .cells #[.slice none 0 0] 25 (0, 0)) (bk BK267) NB267_270.out (by simp)); have HO273 := Aside0.mk (Kd.R_lower ho0 (below_size m7_)); replace HB := Aside0.mk hb; replace HI270 := Aside0.mk hi; (try clear hb); (try clear hk); (try clear hi); (try clear ho0)) | ((with_reducible refine gate_dst (N := 5) rfl ?_); refine box_event rfl (N := 5) rfl (cs := #[.slice none 0 0]) (t := 25) hr_ ?_; intro gb275 hg w25 hbox hb; replace HO273 := Aside0.mk (Kd.R_below (rs HO273) hb); have BK275 := Aside0.mk hbox; have GW275 := Aside0.mk ((by rw [hg]; exact (below_size m7_) : w.heap.size ≤ gb275)); have GE275 := Aside0.mk ((by rw [hg]; exact (below_size m7_) : w.heap.size ≤ gb275)); replace HB := Aside0.mk (below_step m7_ hb); have NB267_275 := neL BK267 hg; have NB275_267 := neG BK267 hg; replace BK267 := bkB BK267 hb; have NB270_275 := Aside0.mk ((by rw [hg]; exact Nat.ne_of_lt (IsS84.lt (show IsS84 w _ g270 t268 t274 from m6_)) : g270 ≠ gb275)); have NB275_270 := Aside0.mk ((by rw [hg]; exact Nat.ne_of_gt (IsS84.lt (show IsS84 w _ g270 t268 t274 from m6_)) : gb275 ≠ g270)); replace HI270 := Aside0.mk (IsS84.below m6_ hb); clear hb hbox hg; obtain ⟨Ao26, co26, eo26⟩ := Kd.R_slice HO273.out; subst eo26; have hnb27 := NB275_267.out; have hnc27 := NB267_275.out; have hnb28 := NB275_270.out; have hnc28 := NB270_275.out; have hcz29_0 := bcell BK275 0; have hfz29_0 := blk_frozen BK275.out 0) | ((with_reducible refine gate_callee (f := 42) rfl ?_); refine gL (some 12) Tryz.func42 #[.pointer (some ⟨g270, 0, none⟩)] ?_; (with_reducible refine (spec_l20Line.calls k g270 t268 t274 t276 t277 w _ ?side1 ?side2 A4.out).mono ?_); (case side1 => exact m6_); (case side2 => exact m7_); rintro e w30 ⟨rfl, hi, hb, hk⟩; refine ⟨_, rfl, ?_⟩; replace BK267 := Aside0.mk (KeepBut.blk hk (g' := gb267) (o := .cells #[.slice none 0 0] 25 (0, 0)) (by (with_reducible repeat refine bu ?_); refine blk_far ?_ NB267_275.out _; (with_reducible repeat refine bu ?_); exact BK267.out) NB267_270.out (by simp)); replace HO273 := Aside0.mk (Kd.R_mono (Kd.R_keep (IsS84.apart (show IsS84 w _ g270 t268 t274 from m6_) (by (with_reducible repeat apply ru); exact (Kd.R_mono (Kd.R_far (p := ⟨gb275, 0, none⟩) (Kd.R_types HO273.out BK275.out (by decide)) (fun _ hk => hk.2) (.slice Ao26 t271.length co26)) (fun _ h_ => h_.1))) (by decide)) hk (fun _ h => h.2)) (fun _ h => h.1)); replace BK275 := Aside0.mk (KeepBut.blk hk (g' := gb275) (o := .cells #[.slice Ao26 t271.length co26] 25 (0, 0)) (by (with_reducible repeat refine bu ?_); refine blk_put (cs := #[.slice none 0 0]) ?_ 0 _ rfl; (with_reducible repeat refine bu ?_); exact BK275.out) NB275_270.out (by simp)); replace HB := Aside0.mk hb; replace HI270 := Aside0.mk hi; (try clear hb); (try clear hk); (try clear hi)) | ((with_reducible refine gate_callee (f := 43) rfl ?_); refine gL (some 14) Tryz.func43 #[.pointer (some ⟨g270, 0, none⟩), .int .i64 9] ?_; (with_reducible refine (spec_l20Rd_odd.calls k g270 t268 t277 9 false t279 w _ ?side1 ?side2 A5.out).mono ?_); (case side1 => exact m6_); (case side2 => exact m7_); rintro e w31 ⟨rfl, hi, hb, hk⟩; refine ⟨_, rfl, ?_⟩; replace BK267 := Aside0.mk (KeepBut.blk hk (g' := gb267) (o := .cells #[.slice none 0 0] 25 (0, 0)) (bk BK267) NB267_270.out (by simp)); replace HO273 := Aside0.mk (Kd.R_mono (Kd.R_keep (IsS84.apart (show IsS84 w _ g270 t268 t277 from m6_) (rs HO273) (by decide)) hk (fun _ h => h.2)) (fun _ h => h.1)); replace BK275 := Aside0.mk (KeepBut.blk hk (g' := gb275) (o := .cells #[.slice Ao26 t271.length co26] 25 (0, 0)) (bk BK275) NB275_270.out (by simp)); replace HB := Aside0.mk hb; replace HI270 := Aside0.mk hi; (try clear hb); (try clear hk); (try clear hi); have hcz32_0 := bcell BK275 0; have hfz32_0 := blk_frozen BK275.out 0; have hnb33 := NB267_270.out; have hnc33 := NB270_267.out; have hcz34_0 := bcell BK267 0; have hfz34_0 := blk_frozen BK267.out 0))
  refine bodyPost_ret (results_ct rfl _ _ gb267 25 #[.slice Ao26 t271.length co26] (0, 0) _ rfl (by (with_reducible repeat refine bu ?_); refine blk_put (cs := #[.slice none 0 0]) ?_ 0 _ rfl; (with_reducible repeat refine bu ?_); exact BK267.out) Tryz.underlying25 rfl (by kernel_rfl)) rfl ?_
  exact ⟨_, fi_, by (with_reducible repeat apply ru); exact Kd.R_mono (Kd.R_far (p := ⟨gb267, 0, none⟩) (Kd.R_types HO273.out BK267.out (by decide)) (fun _ hk => hk.2) (.slice Ao26 t271.length co26)) (fun _ hk => trivial), m7_⟩
def impl_within.f (a0 : Int) (a1 : Int) (a2 : Int) : Option (Bool) := if a0 ≥ a1 then (some (decide (a0 ≤ a2))) else (some false)
set_option maxHeartbeats 8000000 in
set_option maxRecDepth 100000 in
theorem impl_within.calls (a0 : Int) (a1 : Int) (a2 : Int) (r : Bool) (w : World) (h : impl_within.f a0 a1 a2 = some r) :
  Calls Tryz.prog 111 #[.int .i64 a0, .int .i64 a1, .int .i64 a2] w fun e w' => e = .returned (.bool r) ∧ Drawn0 w w' := by
 have H : (if a0 ≥ a1 then (some (decide (a0 ≤ a2))) else (some false)) = some r := h
 clear h
 by_cases c4 : a0 ≥ a1
 ·rw [if_pos c4] at H
  have c4b0 : decide (a1 ≤ a0) = true := decide_eq_true c4
  clear c4
  obtain rfl := Option.some.inj H
  go_enter Tryz.func111, Tryz.ntmps111
  go_wp2
  go_ret
  exact ⟨by first | rfl | (simp; done) | (simp [*]; done), by repeat (first | exact Drawn0.refl _ | apply Drawn0.step)⟩
 ·rw [if_neg c4] at H
  have c4b0 : decide (a1 ≤ a0) = false := decide_eq_false c4
  clear c4
  obtain rfl := Option.some.inj H
  go_enter Tryz.func111, Tryz.ntmps111
  go_wp2
  go_ret
  exact ⟨by first | rfl | (simp; done) | (simp [*]; done), by repeat (first | exact Drawn0.refl _ | apply Drawn0.step)⟩
def impl_inside.f (a0 : Int) : Option (Bool) := (impl_within.f a0 1 9).bind fun t282 => (some t282)
set_option maxHeartbeats 8000000 in
set_option maxRecDepth 100000 in
theorem impl_inside.calls (a0 : Int) (r : Bool) (w : World) (h : impl_inside.f a0 = some r) :
  Calls Tryz.prog 84 #[.int .i64 a0] w fun e w' => e = .returned (.bool r) ∧ Drawn0 w w' := by
 have H : ((impl_within.f a0 1 9).bind fun t282 => (some t282)) = some r := h
 clear h
 replace H := Option.bind_eq_some_iff.mp H
 obtain ⟨t282, A20, H⟩ := H
 try dsimp only at H
 have A2 := Aside0.mk A20
 clear A20
 obtain rfl := Option.some.inj H
 go_enter Tryz.func84, Tryz.ntmps84
 go_wp2_with (first | ((with_reducible refine gate_callee (f := 111) rfl ?_); refine gL (some 4) Tryz.func111 #[.int .i64 a0, .int .i64 1, .int .i64 9] ?_; (with_reducible refine (impl_within.calls a0 1 9 t282 _ A2.out).mono ?_); rintro e w' ⟨rfl, ⟨nd, rfl⟩⟩; refine ⟨_, rfl, ?_⟩))
 go_ret
 exact ⟨by first | rfl | (simp; done) | (simp [*]; done), by repeat (first | exact Drawn0.refl _ | apply Drawn0.step)⟩
def impl_portOk.f (a0 : Int) : Option (Bool) := (impl_within.f a0 1 999).bind fun t283 => (some t283)
set_option maxHeartbeats 8000000 in
set_option maxRecDepth 100000 in
theorem impl_portOk.calls (a0 : Int) (r : Bool) (w : World) (h : impl_portOk.f a0 = some r) :
  Calls Tryz.prog 85 #[.int .i64 a0] w fun e w' => e = .returned (.bool r) ∧ Drawn0 w w' := by
 have H : ((impl_within.f a0 1 999).bind fun t283 => (some t283)) = some r := h
 clear h
 replace H := Option.bind_eq_some_iff.mp H
 obtain ⟨t283, A20, H⟩ := H
 try dsimp only at H
 have A2 := Aside0.mk A20
 clear A20
 obtain rfl := Option.some.inj H
 go_enter Tryz.func85, Tryz.ntmps85
 go_wp2_with (first | ((with_reducible refine gate_callee (f := 111) rfl ?_); refine gL (some 4) Tryz.func111 #[.int .i64 a0, .int .i64 1, .int .i64 999] ?_; (with_reducible refine (impl_within.calls a0 1 999 t283 _ A2.out).mono ?_); rintro e w' ⟨rfl, ⟨nd, rfl⟩⟩; refine ⟨_, rfl, ?_⟩))
 go_ret
 exact ⟨by first | rfl | (simp; done) | (simp [*]; done), by repeat (first | exact Drawn0.refl _ | apply Drawn0.step)⟩
def impl_EndInside.f (a0_0 : Int) (a0_1 : Int) : Option (Bool) := (impl_inside.f a0_0).bind fun t285 => (if t285 = true then ((impl_portOk.f a0_1).bind fun t286 => (some t286)) else (some false))
set_option maxHeartbeats 8000000 in
set_option maxRecDepth 100000 in
theorem impl_EndInside.calls (a0_0 : Int) (a0_1 : Int) (r : Bool) (w : World) (h : impl_EndInside.f a0_0 a0_1 = some r) :
  Calls Tryz.prog 52 #[.agg #[.int .i64 a0_0, .int .i64 a0_1]] w fun e w' => e = .returned (.bool r) ∧ Below w.heap.size w w' := by
 have hu34 := Tryz.underlying34
 have HB := Aside0.mk (Below.refl w.heap.size w)
 have H : ((impl_inside.f a0_0).bind fun t285 => (if t285 = true then ((impl_portOk.f a0_1).bind fun t286 => (some t286)) else (some false))) = some r := h
 clear h
 replace H := Option.bind_eq_some_iff.mp H
 obtain ⟨t285, A20, H⟩ := H
 try dsimp only at H
 have A2 := Aside0.mk A20
 clear A20
 by_cases c3 : t285 = true
 ·subst c3
  have H1 : ((impl_portOk.f a0_1).bind fun t286 => (some t286)) = some r := by rw [if_pos rfl] at H; exact H
  clear H
  have H := H1
  clear H1
  replace H := Option.bind_eq_some_iff.mp H
  obtain ⟨t286, A40, H⟩ := H
  try dsimp only at H
  have A4 := Aside0.mk A40
  clear A40
  obtain rfl := Option.some.inj H
  go_enter Tryz.func52, Tryz.ntmps52
  go_wp2_with (first | ((with_reducible refine gate_dst (N := 1) rfl ?_); refine box_event rfl (N := 1) rfl (cs := #[.int .i64 a0_0, .int .i64 a0_1]) (t := 34) hr_ ?_; intro gb284 hg w5 hbox hb; have BK284 := Aside0.mk hbox; have GW284 := gwE HB hg; have GE284 := gwE HB hg; replace HB := hbS HB hb; clear hb hbox hg; have hcz6_0 := bcell BK284 0; have hcz6_1 := bcell BK284 1; have hfz6_0 := blk_frozen BK284.out 0; have hfz6_1 := blk_frozen BK284.out 1) | ((with_reducible refine gate_callee (f := 84) rfl ?_); refine gL (some 5) Tryz.func84 #[.int .i64 a0_0] ?_; (with_reducible refine (impl_inside.calls a0_0 true _ A2.out).mono ?_); rintro e w' ⟨rfl, ⟨nd, rfl⟩⟩; refine ⟨_, rfl, ?_⟩) | (go_at_call 85; (with_reducible refine (impl_portOk.calls a0_1 t286 _ A4.out).mono ?_); rintro e w' ⟨rfl, ⟨nd, rfl⟩⟩))
  go_ret
  exact ⟨fi_, m2_⟩
 ·replace c3 := Bool.eq_false_iff.mpr c3
  subst c3
  have H1 : (some false) = some r := by rw [if_neg (show ¬ (false = true) by decide)] at H; exact H
  clear H
  have H := H1
  clear H1
  obtain rfl := Option.some.inj H
  go_enter Tryz.func52, Tryz.ntmps52
  go_wp2_with (first | ((with_reducible refine gate_dst (N := 1) rfl ?_); refine box_event rfl (N := 1) rfl (cs := #[.int .i64 a0_0, .int .i64 a0_1]) (t := 34) hr_ ?_; intro gb284 hg w7 hbox hb; have BK284 := Aside0.mk hbox; have GW284 := gwE HB hg; have GE284 := gwE HB hg; replace HB := hbS HB hb; clear hb hbox hg; have hcz8_0 := bcell BK284 0; have hcz8_1 := bcell BK284 1; have hfz8_0 := blk_frozen BK284.out 0; have hfz8_1 := blk_frozen BK284.out 1) | ((with_reducible refine gate_callee (f := 84) rfl ?_); refine gL (some 5) Tryz.func84 #[.int .i64 a0_0] ?_; (with_reducible refine (impl_inside.calls a0_0 false _ A2.out).mono ?_); rintro e w' ⟨rfl, ⟨nd, rfl⟩⟩; refine ⟨_, rfl, ?_⟩))
  go_ret
  exact ⟨fi_, m2_⟩
end Go.Proofs.YtffmbccgcaghjaaGreatDoor.P
namespace Go.Proofs.YtffmbccgcaghjaaGreatDoor.P
open Go.RowKit Go.Proofs.YtffmbccgcaghjaaGreatDoorUFnBakRwr.PrintWords Go.Proofs.YtffmbccgcaghjaaGreatDoorUFnBakRwr.PrintLast Go.Proofs.YtffmbccgcaghjaaGreatDoorUFnBakRwr.PrintMore
attribute [local go_sem] max2_int min2_int max_two min_two max_three min_three max_four min_four
set_option linter.unusedVariables false
set_option linter.unusedSimpArgs false
attribute [local go_sem high] eqA34
def impl_EndPoint_86.l0 : Nat → List (S34) → Int → Int → Int → Int → Option (Int)
 | 0, _, _, _, _, _ => none
 | k + 1, x0, x7, x8, x288000, x288001 => if x8 < x7 then (if 0 ≤ x8 then (if x8 < (x0.length : Int) then (if (x288000 == ((rd_T34 x0 x8).f0) && (x288001 == ((rd_T34 x0 x8).f1))) = true then (some x8) else (impl_EndPoint_86.l0 k x0 x7 (wrap64 (x8 + 1)) x288000 x288001)) else (none)) else (none)) else (some (-1))
def impl_EndPoint_86.f (k : Nat) (l0 : List (S34)) (a1_0 : Int) (a1_1 : Int) : Option (Int) := impl_EndPoint_86.l0 k l0 (l0.length : Int) 0 a1_0 a1_1
theorem impl_EndPoint_86.mono_l : ∀ k, (∀ y0 y1 y2 y3 y4, LeO (impl_EndPoint_86.l0 k y0 y1 y2 y3 y4) (impl_EndPoint_86.l0 (k + 1) y0 y1 y2 y3 y4))
 | 0 => fun _ _ _ _ _ r h => by simp [impl_EndPoint_86.l0] at h
 | k + 1 => by
  have ih0 := impl_EndPoint_86.mono_l k
  ·intro y0 y1 y2 y3 y4
   unfold impl_EndPoint_86.l0
   repeat' first | (with_reducible first | exact ih0 _ _ _ _ _ | exact LeO.refl _ | exact LeO.none _ | refine LeO.ite ?_ ?_ | refine LeO.bind ?_ (fun _ => ?_)) | exact ih0 _ _ _ _ _ | exact LeO.none _ | refine LeO.ite ?_ ?_ | refine LeO.bind ?_ (fun _ => ?_)
theorem impl_EndPoint_86.mono : ∀ a0 a1 a2 k, LeO (impl_EndPoint_86.f k a0 a1 a2) (impl_EndPoint_86.f (k + 1) a0 a1 a2) := by
 intro a0 a1 a2 k
 have ih0 := impl_EndPoint_86.mono_l k
 unfold impl_EndPoint_86.f
 repeat' first | (with_reducible first | exact ih0 _ _ _ _ _ | exact LeO.refl _ | exact LeO.none _ | refine LeO.ite ?_ ?_ | refine LeO.bind ?_ (fun _ => ?_)) | exact ih0 _ _ _ _ _ | exact LeO.none _ | refine LeO.ite ?_ ?_ | refine LeO.bind ?_ (fun _ => ?_)
set_option maxHeartbeats 8000000 in
set_option maxRecDepth 100000 in
theorem impl_EndPoint_86.calls (k : Nat) (A0 : Option Addr) (c0 : Nat) (l0 : List (S34)) (a1_0 : Int) (a1_1 : Int) (r : Int) (w : World) (hr0 : Kd.C k34 w A0 l0.length l0) (hc0 : l0.length ≤ c0) (h : impl_EndPoint_86.f k l0 a1_0 a1_1 = some r) :
  Calls Tryz.prog 86 #[.slice A0 l0.length c0, .agg #[.int .i64 a1_0, .int .i64 a1_1]] w fun e w' => e = .returned (.int .i64 r) ∧ Below w.heap.size w w' := by
 have hu34 := Tryz.underlying34
 have HR0 := Aside0.mk hr0
 have HC0 := Aside0.mk hc0
 clear hr0 hc0
 have HB := Aside0.mk (Below.refl w.heap.size w)
 have H : (impl_EndPoint_86.l0 k l0 (l0.length : Int) 0 a1_0 a1_1) = some r := h
 clear h
 have H' := Aside0.mk H
 clear H
 go_enter Tryz.func86, Tryz.ntmps86
 iterate 4 ((try go_quiet (fail)); (try go_wp2_with (first | ((with_reducible refine gate_dst (N := 3) rfl ?_); refine box_event rfl (N := 3) rfl (cs := #[.int .i64 a1_0, .int .i64 a1_1]) (t := 34) hr_ ?_; intro gb287 hg w3 hbox hb; have BK287 := Aside0.mk hbox; have GW287 := gwE HB hg; have GE287 := gwE HB hg; replace HB := hbS HB hb; clear hb hbox hg))))
 go_loopg [8] k (fun kq v8 w' => ∃ (x8_1 : Int), v8 = .int .i64 x8_1 ∧ Aside0 (impl_EndPoint_86.l0 kq l0 (l0.length : Int) x8_1 a1_0 a1_1 = some r) ∧ Aside0 (kq ≤ k) ∧ Aside0 (w'.heap[gb287]? = some (.cells #[.int .i64 a1_0, .int .i64 a1_1] 34 (0, 0))) ∧ Aside0 (Below w.heap.size w w'))
 case atStart => exact ⟨(0), rs_, H', ⟨Nat.le_refl _⟩, ⟨bk BK287⟩, ⟨m2_⟩⟩
 case round =>
  clear H'
  try clear p2
  obtain ⟨x8_1, rfl, HA, HK1, BK287, HB⟩ := hrel
  cases gk with
  | zero => exact absurd HA.out (by simp [impl_EndPoint_86.l0])
  | succ k1 =>
   have H := HA.out
   clear HA
   simp only [impl_EndPoint_86.l0] at H
   by_cases c4 : x8_1 < (l0.length : Int)
   ·rw [if_pos c4] at H
    have c4b0 : decide (x8_1 < (l0.length : Int)) = true := decide_eq_true c4
    clear c4
    by_cases c5 : 0 ≤ x8_1
    ·rw [if_pos c5] at H
     have c5b0 : decide (0 ≤ x8_1) = true := decide_eq_true c5
     clear c5
     by_cases c6 : x8_1 < (l0.length : Int)
     ·rw [if_pos c6] at H
      have c6b0 : decide (x8_1 < (l0.length : Int)) = true := decide_eq_true c6
      clear c6
      by_cases c7 : (a1_0 == ((rd_T34 l0 x8_1).f0) && (a1_1 == ((rd_T34 l0 x8_1).f1))) = true
      ·rw [if_pos c7] at H
       have c7b0 : (a1_0 == ((rd_T34 l0 x8_1).f0) && (a1_1 == ((rd_T34 l0 x8_1).f1))) = true := c7
       (try (have c7b1 : decide (a1_0 = ((rd_T34 l0 x8_1).f0) && (a1_1 == ((rd_T34 l0 x8_1).f1))) = true := by simpa using c7))
       (try (have c7b2 : (a1_0 == ((rd_T34 l0 x8_1).f0) && (a1_1 == ((rd_T34 l0 x8_1).f1))) = true := by simpa using c7))
       clear c7
       obtain rfl := Option.some.inj H
       have hcz8_0 := bcell BK287 0
       have hcz8_1 := bcell BK287 1
       have hfz8_0 := blk_frozen BK287.out 0
       have hfz8_1 := blk_frozen BK287.out 1
       have p288 : 0 ≤ (x8_1 : Int) := of_decide_eq_true da_
       have q288 : x8_1 < (l0.length : Int) := of_decide_eq_true da_
       obtain ⟨ad288, e288, hx288_0, hx288_1⟩ := at_T34 HR0.out x8_1 p288 q288
       cases e288
       replace hx288_0 := bcl HB hx288_0
       replace hx288_1 := bcl HB hx288_1
       replace p288 := eq_true p288
       replace q288 := eq_true q288
       go_wp2
       repeat (go_quiet (fail); try go_wp2)
       go_ret
       exact ⟨fi_, m2_⟩
      ·rw [if_neg c7] at H
       have c7b0 : (a1_0 == ((rd_T34 l0 x8_1).f0) && (a1_1 == ((rd_T34 l0 x8_1).f1))) = false := by simpa using c7
       (try (have c7b1 : decide (a1_0 = ((rd_T34 l0 x8_1).f0) && (a1_1 == ((rd_T34 l0 x8_1).f1))) = false := by simpa using c7))
       (try (have c7b2 : (a1_0 == ((rd_T34 l0 x8_1).f0) && (a1_1 == ((rd_T34 l0 x8_1).f1))) = false := by simpa using c7))
       (try (have c7b3 : ¬ (a1_0 = ((rd_T34 l0 x8_1).f0) && (a1_1 == ((rd_T34 l0 x8_1).f1))) := by simpa using c7))
       clear c7
       have H' := Aside0.mk H
       clear H
       have hcz9_0 := bcell BK287 0
       have hcz9_1 := bcell BK287 1
       have hfz9_0 := blk_frozen BK287.out 0
       have hfz9_1 := blk_frozen BK287.out 1
       have p288 : 0 ≤ (x8_1 : Int) := of_decide_eq_true da_
       have q288 : x8_1 < (l0.length : Int) := of_decide_eq_true da_
       obtain ⟨ad288, e288, hx288_0, hx288_1⟩ := at_T34 HR0.out x8_1 p288 q288
       cases e288
       replace hx288_0 := bcl HB hx288_0
       replace hx288_1 := bcl HB hx288_1
       replace p288 := eq_true p288
       replace q288 := eq_true q288
       go_wp2
       repeat (go_quiet (fail); try go_wp2)
       go_roundg k1
       case measure => have := HK1.out; omega
       case rel => exact ⟨(wrap64 (x8_1 + 1)), rs_, H', ⟨by have := HK1.out; omega⟩, ⟨bk BK287⟩, ⟨m2_⟩⟩
     ·rw [if_neg c6] at H
      exact absurd H (by simp)
    ·rw [if_neg c5] at H
     exact absurd H (by simp)
   ·rw [if_neg c4] at H
    have c4b0 : decide (x8_1 < (l0.length : Int)) = false := decide_eq_false c4
    clear c4
    obtain rfl := Option.some.inj H
    go_wp2
    repeat (go_quiet (fail); try go_wp2)
    go_ret
    exact ⟨fi_, m2_⟩
end Go.Proofs.YtffmbccgcaghjaaGreatDoor.P
namespace Go.Proofs.YtffmbccgcaghjaaGreatDoor.P
open Go.RowKit Go.Proofs.YtffmbccgcaghjaaGreatDoorUFnBakRwr.PrintWords Go.Proofs.YtffmbccgcaghjaaGreatDoorUFnBakRwr.PrintLast Go.Proofs.YtffmbccgcaghjaaGreatDoorUFnBakRwr.PrintMore
attribute [local go_sem] max2_int min2_int max_two min_two max_three min_three max_four min_four
set_option linter.unusedVariables false
set_option linter.unusedSimpArgs false
def impl_EndPoint_53.f (k : Nat) (l0 : List (S34)) (a1_0 : Int) (a1_1 : Int) : Option (Bool) := (impl_EndPoint_86.f k l0 a1_0 a1_1).bind fun t290 => (some (decide (t290 ≥ 0)))
theorem impl_EndPoint_53.mono : ∀ a0 a1 a2 k, LeO (impl_EndPoint_53.f k a0 a1 a2) (impl_EndPoint_53.f (k + 1) a0 a1 a2) := by
 intro a0 a1 a2 k
 unfold impl_EndPoint_53.f
 repeat' first | (with_reducible first | exact impl_EndPoint_86.mono _ _ _ _ | exact LeO.refl _ | exact LeO.none _ | refine LeO.ite ?_ ?_ | refine LeO.bind ?_ (fun _ => ?_)) | exact impl_EndPoint_86.mono _ _ _ _ | exact LeO.none _ | refine LeO.ite ?_ ?_ | refine LeO.bind ?_ (fun _ => ?_)
set_option maxHeartbeats 8000000 in
set_option maxRecDepth 100000 in
theorem impl_EndPoint_53.calls (k : Nat) (A0 : Option Addr) (c0 : Nat) (l0 : List (S34)) (a1_0 : Int) (a1_1 : Int) (r : Bool) (w : World) (hr0 : Kd.C k34 w A0 l0.length l0) (hc0 : l0.length ≤ c0) (h : impl_EndPoint_53.f k l0 a1_0 a1_1 = some r) :
  Calls Tryz.prog 53 #[.slice A0 l0.length c0, .agg #[.int .i64 a1_0, .int .i64 a1_1]] w fun e w' => e = .returned (.bool r) ∧ Below w.heap.size w w' := by
 have hu34 := Tryz.underlying34
 have HR0 := Aside0.mk hr0
 have HC0 := Aside0.mk hc0
 clear hr0 hc0
 have HB := Aside0.mk (Below.refl w.heap.size w)
 have H : ((impl_EndPoint_86.f k l0 a1_0 a1_1).bind fun t290 => (some (decide (t290 ≥ 0)))) = some r := h
 clear h
 replace H := Option.bind_eq_some_iff.mp H
 obtain ⟨t290, A30, H⟩ := H
 try dsimp only at H
 have A3 := Aside0.mk A30
 clear A30
 obtain rfl := Option.some.inj H
 go_enter Tryz.func53, Tryz.ntmps53
 go_wp2_with (first | ((with_reducible refine gate_dst (N := 3) rfl ?_); refine box_event rfl (N := 3) rfl (cs := #[.int .i64 a1_0, .int .i64 a1_1]) (t := 34) hr_ ?_; intro gb289 hg w4 hbox hb; have BK289 := Aside0.mk hbox; have GW289 := gwE HB hg; have GE289 := gwE HB hg; replace HB := hbS HB hb; clear hb hbox hg; have hcz5_0 := bcell BK289 0; have hcz5_1 := bcell BK289 1; have hfz5_0 := blk_frozen BK289.out 0; have hfz5_1 := blk_frozen BK289.out 1) | ((with_reducible refine gate_callee (f := 86) rfl ?_); refine gL (some 7) Tryz.func86 #[.slice A0 l0.length c0, .agg #[.int .i64 a1_0, .int .i64 a1_1]] ?_; (with_reducible refine (impl_EndPoint_86.calls k _ _ l0 a1_0 a1_1 t290 _ ?side1 ?side2 A3.out).mono ?_); (case side1 => exact m1_); (case side2 => exact HC0.out); rintro e w6 ⟨rfl, hb⟩; refine ⟨_, rfl, ?_⟩; replace BK289 := bkB BK289 hb; replace HB := hbS HB hb; (try clear hb)))
 go_ret
 exact ⟨fi_, m2_⟩
def impl_MapOk.l0 : Nat → List (S34) → Int → Int → List (S34) → Option (Bool)
 | 0, _, _, _, _ => none
 | k + 1, x6, x7, x8, x292000 => if x8 < x7 then (if 0 ≤ x8 then (if x8 < (x6.length : Int) then ((impl_EndInside.f ((rd_T34 x6 x8).f0) ((rd_T34 x6 x8).f1)).bind fun t294 => (if t294 = true then (if x8 ≤ (x292000.length : Int) then ((impl_EndPoint_53.f k (x292000.take (x8 : Int).toNat) ((rd_T34 x6 x8).f0) ((rd_T34 x6 x8).f1)).bind fun t299 => (if t299 = true then (some false) else (impl_MapOk.l0 k x6 x7 (wrap64 (x8 + 1)) x292000))) else (none)) else (some false))) else (none)) else (none)) else (some (decide ((x292000.length : Int) ≤ 6)))
def impl_MapOk.f (k : Nat) (l0_0 : List (S34)) : Option (Bool) := impl_MapOk.l0 k l0_0 (l0_0.length : Int) 0 l0_0
theorem impl_MapOk.mono_l : ∀ k, (∀ y0 y1 y2 y3, LeO (impl_MapOk.l0 k y0 y1 y2 y3) (impl_MapOk.l0 (k + 1) y0 y1 y2 y3))
 | 0 => fun _ _ _ _ r h => by simp [impl_MapOk.l0] at h
 | k + 1 => by
  have ih0 := impl_MapOk.mono_l k
  ·intro y0 y1 y2 y3
   unfold impl_MapOk.l0
   repeat' first | (with_reducible first | exact ih0 _ _ _ _ | exact impl_EndPoint_53.mono _ _ _ _ | exact LeO.refl _ | exact LeO.none _ | refine LeO.ite ?_ ?_ | refine LeO.bind ?_ (fun _ => ?_)) | exact ih0 _ _ _ _ | exact impl_EndPoint_53.mono _ _ _ _ | exact LeO.none _ | refine LeO.ite ?_ ?_ | refine LeO.bind ?_ (fun _ => ?_)
theorem impl_MapOk.mono : ∀ a0 k, LeO (impl_MapOk.f k a0) (impl_MapOk.f (k + 1) a0) := by
 intro a0 k
 have ih0 := impl_MapOk.mono_l k
 unfold impl_MapOk.f
 repeat' first | (with_reducible first | exact ih0 _ _ _ _ | exact impl_EndPoint_53.mono _ _ _ _ | exact LeO.refl _ | exact LeO.none _ | refine LeO.ite ?_ ?_ | refine LeO.bind ?_ (fun _ => ?_)) | exact ih0 _ _ _ _ | exact impl_EndPoint_53.mono _ _ _ _ | exact LeO.none _ | refine LeO.ite ?_ ?_ | refine LeO.bind ?_ (fun _ => ?_)
def impl_MapOk.T4 : Bool × List (List Nat × List Nat) := (true, [([], []), ([0], [0]), ([1], [1]), ([2, 1], [2]), ([3], [3]), ([4, 3], [3, 4]), ([3], [3]), ([5, 6, 3], [3, 5, 6]), ([3], [3]), ([7, 8, 3, 3], [3, 7, 8]), ([3, 9], [3, 9])])
def impl_MapOk.B4 : List Nat := [0, 1, 3, 7, 15, 31, 15, 127, 15, 511, 1023]
theorem impl_MapOk.tab4 : rtab .any (opsOf Tryz.f20 4) = impl_MapOk.T4 := by kernel_rfl
theorem impl_MapOk.bits4 : waitsOk impl_MapOk.T4.2 impl_MapOk.B4 = true := by kernel_rfl
set_option maxHeartbeats 8000000 in
set_option maxRecDepth 100000 in
theorem impl_MapOk.calls (k : Nat) (A0_0 : Option Addr) (c0_0 : Nat) (l0_0 : List (S34)) (r : Bool) (w : World) (hr0_0 : Kd.C k34 w A0_0 l0_0.length l0_0) (hc0_0 : l0_0.length ≤ c0_0) (h : impl_MapOk.f k l0_0 = some r) :
  Calls Tryz.prog 20 #[.agg #[.slice A0_0 l0_0.length c0_0]] w fun e w' => e = .returned (.bool r) ∧ Below w.heap.size w w' := by
 have hu25 := Tryz.underlying25
 have hu34 := Tryz.underlying34
 have HR0_0 := Aside0.mk hr0_0
 have HC0_0 := Aside0.mk hc0_0
 clear hr0_0 hc0_0
 have HB := Aside0.mk (Below.refl w.heap.size w)
 have H : (impl_MapOk.l0 k l0_0 (l0_0.length : Int) 0 l0_0) = some r := h
 clear h
 have H' := Aside0.mk H
 clear H
 go_enter Tryz.func20, Tryz.ntmps20
 go_wp2_with (first | ((with_reducible refine gate_dst (N := 1) rfl ?_); refine box_event rfl (N := 1) rfl (cs := #[.slice A0_0 l0_0.length c0_0]) (t := 25) hr_ ?_; intro gb291 hg w2 hbox hb; have BK291 := Aside0.mk hbox; have GW291 := gwE HB hg; have GE291 := gwE HB hg; replace HB := hbS HB hb; clear hb hbox hg; have hcz3_0 := bcell BK291 0; have hfz3_0 := blk_frozen BK291.out 0))
 go_loopg [8] k (fun kq v8 w' => ∃ (x8_1 : Int), v8 = .int .i64 x8_1 ∧ Aside0 (impl_MapOk.l0 kq l0_0 (l0_0.length : Int) x8_1 l0_0 = some r) ∧ Aside0 (kq ≤ k) ∧ Aside0 (w'.heap[gb291]? = some (.cells #[(.slice A0_0 l0_0.length c0_0)] 25 (0, 0))) ∧ Aside0 (Below w.heap.size w w'))
 case atStart => exact ⟨(0), rs_, H', ⟨Nat.le_refl _⟩, ⟨bk BK291⟩, ⟨m2_⟩⟩
 case round =>
  clear H'
  try clear c2
  try clear p2
  try clear hcz3_0
  try clear hfz3_0
  obtain ⟨x8_1, rfl, HA, HK1, BK291, HB⟩ := hrel
  cases gk with
  | zero => exact absurd HA.out (by simp [impl_MapOk.l0])
  | succ k1 =>
   have H := HA.out
   clear HA
   simp only [impl_MapOk.l0] at H
   by_cases c4 : x8_1 < (l0_0.length : Int)
   ·rw [if_pos c4] at H
    have c4b0 : decide (x8_1 < (l0_0.length : Int)) = true := decide_eq_true c4
    clear c4
    by_cases c5 : 0 ≤ x8_1
    ·rw [if_pos c5] at H
     have c5b0 : decide (0 ≤ x8_1) = true := decide_eq_true c5
     clear c5
     by_cases c6 : x8_1 < (l0_0.length : Int)
     ·rw [if_pos c6] at H
      have c6b0 : decide (x8_1 < (l0_0.length : Int)) = true := decide_eq_true c6
      clear c6
      replace H := Option.bind_eq_some_iff.mp H
      obtain ⟨t294, A70, H⟩ := H
      try dsimp only at H
      have A7 := Aside0.mk A70
      clear A70
      by_cases c8 : t294 = true
      ·subst c8
       have H1 : (if x8_1 ≤ (l0_0.length : Int) then ((impl_EndPoint_53.f k1 (l0_0.take (x8_1 : Int).toNat) ((rd_T34 l0_0 x8_1).f0) ((rd_T34 l0_0 x8_1).f1)).bind fun t299 => (if t299 = true then (some false) else (impl_MapOk.l0 k1 l0_0 (l0_0.length : Int) (wrap64 (x8_1 + 1)) l0_0))) else (none)) = some r := by rw [if_pos rfl] at H; exact H
       clear H
       have H := H1
       clear H1
       have c9b0 := eq_true (of_decide_eq_true da_ : 0 ≤ x8_1)
       by_cases c10 : x8_1 ≤ (l0_0.length : Int)
       ·rw [if_pos c10] at H
        have c10b0 := eq_true c10
        have c10b1 : decide (x8_1 ≤ (l0_0.length : Int)) = true := decide_eq_true c10
        clear c10
        obtain ⟨y295, hy295⟩ : ∃ y_ : List (S34), y_ = (l0_0.take (x8_1 : Int).toNat) := ⟨_, rfl⟩
        replace H : ((impl_EndPoint_53.f k1 y295 ((rd_T34 l0_0 x8_1).f0) ((rd_T34 l0_0 x8_1).f1)).bind fun t299 => (if t299 = true then (some false) else (impl_MapOk.l0 k1 l0_0 (l0_0.length : Int) (wrap64 (x8_1 + 1)) l0_0))) = some r := by first | (rw [hy295]; with_reducible exact H) | (have H2_ := (Option.bind_some _ _).symm.trans H; rw [hy295]; with_reducible exact H2_) | (have H2_ := (Option.bind_some _ _).symm.trans H; with_reducible exact H2_) | with_reducible exact H | (rw [hy295]; exact H) | exact H
        have Ny295 := Aside0.mk hy295
        clear hy295
        replace H := Option.bind_eq_some_iff.mp H
        obtain ⟨t299, A110, H⟩ := H
        try dsimp only at H
        have A11 := Aside0.mk A110
        clear A110
        by_cases c12 : t299 = true
        ·subst c12
         have H1 : (some false) = some r := by rw [if_pos rfl] at H; exact H
         clear H
         have H := H1
         clear H1
         obtain rfl := Option.some.inj H
         have p292 : 0 ≤ (x8_1 : Int) := of_decide_eq_true da_
         have q292 : x8_1 < (l0_0.length : Int) := of_decide_eq_true da_
         obtain ⟨ad292, e292, hx292_0, hx292_1⟩ := at_T34 HR0_0.out x8_1 p292 q292
         cases e292
         replace hx292_0 := bcl HB hx292_0
         replace hx292_1 := bcl HB hx292_1
         replace p292 := eq_true p292
         replace q292 := eq_true q292
         try go_wp2_with (first | ((with_reducible refine gate_dst (N := 4) rfl ?_); refine box_event rfl (N := 4) rfl (cs := #[.int .i64 0, .int .i64 0]) (t := 34) hr_ ?_; intro gb293 hg w13 hbox hb; have BK293 := Aside0.mk hbox; have GW293 := gwE HB hg; have GE293 := gwE HB hg; replace HB := hbS HB hb; have NB291_293 := neL BK291 hg; have NB293_291 := neG BK291 hg; replace BK291 := bkB BK291 hb; clear hb hbox hg; have hnb14 := NB293_291.out; have hnc14 := NB291_293.out; have hcz15_0 := bcell BK293 0; have hcz15_1 := bcell BK293 1; have hfz15_0 := blk_frozen BK293.out 0; have hfz15_1 := blk_frozen BK293.out 1))
         have n0_ : Aside0 (((w13.setCell ⟨gb293, 0, none⟩ (.int .i64 ((rd_T34 l0_0 x8_1).f0))).setCell ⟨gb293, 1, none⟩ (.int .i64 ((rd_T34 l0_0 x8_1).f1))).heap[gb291]? = some (.cells #[.slice (some ad292) l0_0.length c0_0] 25 (0, 0))) := ⟨by (with_reducible repeat refine bu ?_); refine blk_far ?_ NB291_293.out _; (with_reducible repeat refine bu ?_); refine blk_far ?_ NB291_293.out _; (with_reducible repeat refine bu ?_); exact BK291.out⟩
         have n1_ : Aside0 (((w13.setCell ⟨gb293, 0, none⟩ (.int .i64 ((rd_T34 l0_0 x8_1).f0))).setCell ⟨gb293, 1, none⟩ (.int .i64 ((rd_T34 l0_0 x8_1).f1))).heap[gb293]? = some (.cells #[.int .i64 ((rd_T34 l0_0 x8_1).f0), .int .i64 ((rd_T34 l0_0 x8_1).f1)] 34 (0, 0))) := ⟨by (with_reducible repeat refine bu ?_); refine blk_put (cs := #[.int .i64 ((rd_T34 l0_0 x8_1).f0), .int .i64 0]) ?_ 1 _ rfl; (with_reducible repeat refine bu ?_); refine blk_put (cs := #[.int .i64 0, .int .i64 0]) ?_ 0 _ rfl; (with_reducible repeat refine bu ?_); exact BK293.out⟩
         have n2_ : Aside0 (Below w.heap.size w ((w13.setCell ⟨gb293, 0, none⟩ (.int .i64 ((rd_T34 l0_0 x8_1).f0))).setCell ⟨gb293, 1, none⟩ (.int .i64 ((rd_T34 l0_0 x8_1).f1)))) := ⟨m2_⟩
         (try clear BK291)
         (try clear BK293)
         (try clear HB)
         generalize ((w13.setCell ⟨gb293, 0, none⟩ (.int .i64 ((rd_T34 l0_0 x8_1).f0))).setCell ⟨gb293, 1, none⟩ (.int .i64 ((rd_T34 l0_0 x8_1).f1))) = w16 at n0_ n1_ n2_ ⊢
         have BK291 := n0_
         have BK293 := n1_
         have HB := n2_
         clear n0_ n1_ n2_
         replace BK291 := Aside0.mk (blk_drew BK291.out)
         replace BK293 := Aside0.mk (blk_drew BK293.out)
         replace HB := Aside0.mk (below_drew1 HB.out)
         refine start_ (n := 11) (S := fun w' => w'.cell? ⟨gb293, 0, none⟩ = some (.int .i64 ((rd_T34 l0_0 x8_1).f0)) ∧ w'.cell? ⟨gb293, 1, none⟩ = some (.int .i64 ((rd_T34 l0_0 x8_1).f1)) ∧ w'.cell? ⟨gb291, 0, none⟩ = some (.slice (some ad292) l0_0.length c0_0)) (ds := []) #[false, false, false, false, false, false, false, false, false, false, false] (by kernel_rfl) rfl rfl ⟨bcell BK293 0, bcell BK293 1, bcell BK291 0⟩ (fun hHeld => ?_); refine with_tabW impl_MapOk.tab4 impl_MapOk.bits4 (fun HT_ HW_ => ?_)
         generalize w16.drew = w17 at BK291 BK293 HB hHeld ⊢
         refine tk_ 0 (some 13) #[true, false, false, false, false, false, false, false, false, false, false] rfl (.inl ⟨rfl, m10_⟩) ?_
         refine on_ 1 (some 14) #[true, true, false, false, false, false, false, false, false, false, false] (fun K hK => ?_)
         refine gR Tryz.func52 #[.agg #[.int .i64 ((rd_T34 l0_0 x8_1).f0), .int .i64 ((rd_T34 l0_0 x8_1).f1)]] ?_
         with_reducible refine (impl_EndInside.calls ((rd_T34 l0_0 x8_1).f0) ((rd_T34 l0_0 x8_1).f1) true _ A7.out).mono ?_
         rintro e w18 ⟨rfl, hb⟩
         refine ⟨_, rfl, ?_⟩
         replace BK291 := bkB BK291 hb
         replace BK293 := bkB BK293 hb
         replace HB := hbS HB hb
         (try clear hb)
         (try clear hb2)
         (try clear hk)
         (try clear hi)
         have q19 : (x8_1 : Int) ≤ ((l0_0.length : Int) : Int) := of_decide_eq_true da_
         obtain ⟨i019, hi019, _, hsz19, _⟩ := info_parts info34
         have hroom19 : l0_0.length ≤ c0_0 := HC0_0.out
         have hC19 : Kd.C k34 _ (some ad292) l0_0.length l0_0 := HR0_0.out
         have hcut19 := cut_to (P := Tryz.prog) 23 34 .i64 Tryz.underlying23 hi019 (some ad292) l0_0.length c0_0 x8_1 (of_decide_eq_true da_) q19 hroom19
         have hr19 := Kd.C_take (m := (x8_1 : Int).toNat) hC19 (by omega)
         have hy19 : y295.length = (x8_1 : Int).toNat := (by rw [Ny295.out, List.length_take]; omega)
         rw [← Ny295.out] at hr19
         rw [← hy19] at hcut19
         have HR298 := Aside0.mk hr19
         have HC298 := Aside0.mk (show y295.length ≤ c0_0 from by omega)
         clear hr19 hC19 hroom19 hi019 hsz19
         have KY19 := Aside0.mk hy19
         clear hy19
         replace q19 := eq_true q19
         refine hK.out _ _ ⟨bcell BK293 0, bcell BK293 1, bcell BK291 0⟩ (fun hHeld => ?_)
         clear hK K
         refine nm_ ?_
         refine pu_ 2 (some 15) #[true, true, true, false, false, false, false, false, false, false, false] ?_
         refine pu_ 3 (some 16) #[true, true, true, true, false, false, false, false, false, false, false] ?_
         refine pu_ 4 (some 17) #[true, true, true, true, true, false, false, false, false, false, false] ?_
         refine pu_ 6 (some 19) #[true, true, true, true, true, false, true, false, false, false, false] ?_
         refine tk_ 5 (some 18) #[true, true, true, true, true, true, true, false, false, false, false] rfl (.inl ⟨rfl, m10_⟩) ?_
         refine pu_ 7 (some 20) #[true, true, true, true, true, true, true, true, false, false, false] ?_
         refine tk_ 8 (some 21) #[true, true, true, true, true, true, true, true, true, false, false] rfl (.inl ⟨rfl, m10_⟩) ?_
         refine on_ 9 (some 22) #[true, true, true, true, true, true, true, true, true, true, false] (fun K hK => ?_)
         refine gR Tryz.func53 #[.slice (some ad292) y295.length c0_0, .agg #[.int .i64 ((rd_T34 l0_0 x8_1).f0), .int .i64 ((rd_T34 l0_0 x8_1).f1)]] ?_
         with_reducible refine (impl_EndPoint_53.calls k1 _ _ y295 ((rd_T34 l0_0 x8_1).f0) ((rd_T34 l0_0 x8_1).f1) true _ ?side1 ?side2 A11.out).mono ?_
         (case side1 => exact m11_)
         (case side2 => exact HC298.out)
         rintro e w20 ⟨rfl, hb⟩
         refine ⟨_, rfl, ?_⟩
         replace BK291 := bkB BK291 hb
         replace BK293 := bkB BK293 hb
         replace HB := hbS HB hb
         (try clear hb)
         (try clear hb2)
         (try clear hk)
         (try clear hi)
         refine hK.out _ _ ⟨bcell BK293 0, bcell BK293 1, bcell BK291 0⟩ (fun hHeld => ?_)
         clear hK K
         refine nm_ ?_
         refine pu_ 10 (some 23) #[true, true, true, true, true, true, true, true, true, true, true] ?_
         refine done_ (done_of HT_.out (by kernel_rfl)) ?_
         try go_wp2
         go_ret
         exact ⟨fi_, m2_⟩
        ·replace c12 := Bool.eq_false_iff.mpr c12
         subst c12
         have H1 : (impl_MapOk.l0 k1 l0_0 (l0_0.length : Int) (wrap64 (x8_1 + 1)) l0_0) = some r := by rw [if_neg (show ¬ (false = true) by decide)] at H; exact H
         clear H
         have H := H1
         clear H1
         have H' := Aside0.mk H
         clear H
         have p292 : 0 ≤ (x8_1 : Int) := of_decide_eq_true da_
         have q292 : x8_1 < (l0_0.length : Int) := of_decide_eq_true da_
         obtain ⟨ad292, e292, hx292_0, hx292_1⟩ := at_T34 HR0_0.out x8_1 p292 q292
         cases e292
         replace hx292_0 := bcl HB hx292_0
         replace hx292_1 := bcl HB hx292_1
         replace p292 := eq_true p292
         replace q292 := eq_true q292
         try go_wp2_with (first | ((with_reducible refine gate_dst (N := 4) rfl ?_); refine box_event rfl (N := 4) rfl (cs := #[.int .i64 0, .int .i64 0]) (t := 34) hr_ ?_; intro gb293 hg w21 hbox hb; have BK293 := Aside0.mk hbox; have GW293 := gwE HB hg; have GE293 := gwE HB hg; replace HB := hbS HB hb; have NB291_293 := neL BK291 hg; have NB293_291 := neG BK291 hg; replace BK291 := bkB BK291 hb; clear hb hbox hg; have hnb22 := NB293_291.out; have hnc22 := NB291_293.out; have hcz23_0 := bcell BK293 0; have hcz23_1 := bcell BK293 1; have hfz23_0 := blk_frozen BK293.out 0; have hfz23_1 := blk_frozen BK293.out 1))
         have n0_ : Aside0 (((w21.setCell ⟨gb293, 0, none⟩ (.int .i64 ((rd_T34 l0_0 x8_1).f0))).setCell ⟨gb293, 1, none⟩ (.int .i64 ((rd_T34 l0_0 x8_1).f1))).heap[gb291]? = some (.cells #[.slice (some ad292) l0_0.length c0_0] 25 (0, 0))) := ⟨by (with_reducible repeat refine bu ?_); refine blk_far ?_ NB291_293.out _; (with_reducible repeat refine bu ?_); refine blk_far ?_ NB291_293.out _; (with_reducible repeat refine bu ?_); exact BK291.out⟩
         have n1_ : Aside0 (((w21.setCell ⟨gb293, 0, none⟩ (.int .i64 ((rd_T34 l0_0 x8_1).f0))).setCell ⟨gb293, 1, none⟩ (.int .i64 ((rd_T34 l0_0 x8_1).f1))).heap[gb293]? = some (.cells #[.int .i64 ((rd_T34 l0_0 x8_1).f0), .int .i64 ((rd_T34 l0_0 x8_1).f1)] 34 (0, 0))) := ⟨by (with_reducible repeat refine bu ?_); refine blk_put (cs := #[.int .i64 ((rd_T34 l0_0 x8_1).f0), .int .i64 0]) ?_ 1 _ rfl; (with_reducible repeat refine bu ?_); refine blk_put (cs := #[.int .i64 0, .int .i64 0]) ?_ 0 _ rfl; (with_reducible repeat refine bu ?_); exact BK293.out⟩
         have n2_ : Aside0 (Below w.heap.size w ((w21.setCell ⟨gb293, 0, none⟩ (.int .i64 ((rd_T34 l0_0 x8_1).f0))).setCell ⟨gb293, 1, none⟩ (.int .i64 ((rd_T34 l0_0 x8_1).f1)))) := ⟨m2_⟩
         (try clear BK291)
         (try clear BK293)
         (try clear HB)
         generalize ((w21.setCell ⟨gb293, 0, none⟩ (.int .i64 ((rd_T34 l0_0 x8_1).f0))).setCell ⟨gb293, 1, none⟩ (.int .i64 ((rd_T34 l0_0 x8_1).f1))) = w24 at n0_ n1_ n2_ ⊢
         have BK291 := n0_
         have BK293 := n1_
         have HB := n2_
         clear n0_ n1_ n2_
         replace BK291 := Aside0.mk (blk_drew BK291.out)
         replace BK293 := Aside0.mk (blk_drew BK293.out)
         replace HB := Aside0.mk (below_drew1 HB.out)
         refine start_ (n := 11) (S := fun w' => w'.cell? ⟨gb293, 0, none⟩ = some (.int .i64 ((rd_T34 l0_0 x8_1).f0)) ∧ w'.cell? ⟨gb293, 1, none⟩ = some (.int .i64 ((rd_T34 l0_0 x8_1).f1)) ∧ w'.cell? ⟨gb291, 0, none⟩ = some (.slice (some ad292) l0_0.length c0_0)) (ds := []) #[false, false, false, false, false, false, false, false, false, false, false] (by kernel_rfl) rfl rfl ⟨bcell BK293 0, bcell BK293 1, bcell BK291 0⟩ (fun hHeld => ?_); refine with_tabW impl_MapOk.tab4 impl_MapOk.bits4 (fun HT_ HW_ => ?_)
         generalize w24.drew = w25 at BK291 BK293 HB hHeld ⊢
         refine tk_ 0 (some 13) #[true, false, false, false, false, false, false, false, false, false, false] rfl (.inl ⟨rfl, m10_⟩) ?_
         refine on_ 1 (some 14) #[true, true, false, false, false, false, false, false, false, false, false] (fun K hK => ?_)
         refine gR Tryz.func52 #[.agg #[.int .i64 ((rd_T34 l0_0 x8_1).f0), .int .i64 ((rd_T34 l0_0 x8_1).f1)]] ?_
         with_reducible refine (impl_EndInside.calls ((rd_T34 l0_0 x8_1).f0) ((rd_T34 l0_0 x8_1).f1) true _ A7.out).mono ?_
         rintro e w26 ⟨rfl, hb⟩
         refine ⟨_, rfl, ?_⟩
         replace BK291 := bkB BK291 hb
         replace BK293 := bkB BK293 hb
         replace HB := hbS HB hb
         (try clear hb)
         (try clear hb2)
         (try clear hk)
         (try clear hi)
         have q27 : (x8_1 : Int) ≤ ((l0_0.length : Int) : Int) := of_decide_eq_true da_
         obtain ⟨i027, hi027, _, hsz27, _⟩ := info_parts info34
         have hroom27 : l0_0.length ≤ c0_0 := HC0_0.out
         have hC27 : Kd.C k34 _ (some ad292) l0_0.length l0_0 := HR0_0.out
         have hcut27 := cut_to (P := Tryz.prog) 23 34 .i64 Tryz.underlying23 hi027 (some ad292) l0_0.length c0_0 x8_1 (of_decide_eq_true da_) q27 hroom27
         have hr27 := Kd.C_take (m := (x8_1 : Int).toNat) hC27 (by omega)
         have hy27 : y295.length = (x8_1 : Int).toNat := (by rw [Ny295.out, List.length_take]; omega)
         rw [← Ny295.out] at hr27
         rw [← hy27] at hcut27
         have HR298 := Aside0.mk hr27
         have HC298 := Aside0.mk (show y295.length ≤ c0_0 from by omega)
         clear hr27 hC27 hroom27 hi027 hsz27
         have KY27 := Aside0.mk hy27
         clear hy27
         replace q27 := eq_true q27
         refine hK.out _ _ ⟨bcell BK293 0, bcell BK293 1, bcell BK291 0⟩ (fun hHeld => ?_)
         clear hK K
         refine nm_ ?_
         refine pu_ 2 (some 15) #[true, true, true, false, false, false, false, false, false, false, false] ?_
         refine pu_ 3 (some 16) #[true, true, true, true, false, false, false, false, false, false, false] ?_
         refine pu_ 4 (some 17) #[true, true, true, true, true, false, false, false, false, false, false] ?_
         refine pu_ 6 (some 19) #[true, true, true, true, true, false, true, false, false, false, false] ?_
         refine tk_ 5 (some 18) #[true, true, true, true, true, true, true, false, false, false, false] rfl (.inl ⟨rfl, m10_⟩) ?_
         refine pu_ 7 (some 20) #[true, true, true, true, true, true, true, true, false, false, false] ?_
         refine tk_ 8 (some 21) #[true, true, true, true, true, true, true, true, true, false, false] rfl (.inl ⟨rfl, m10_⟩) ?_
         refine on_ 9 (some 22) #[true, true, true, true, true, true, true, true, true, true, false] (fun K hK => ?_)
         refine gR Tryz.func53 #[.slice (some ad292) y295.length c0_0, .agg #[.int .i64 ((rd_T34 l0_0 x8_1).f0), .int .i64 ((rd_T34 l0_0 x8_1).f1)]] ?_
         with_reducible refine (impl_EndPoint_53.calls k1 _ _ y295 ((rd_T34 l0_0 x8_1).f0) ((rd_T34 l0_0 x8_1).f1) false _ ?side1 ?side2 A11.out).mono ?_
         (case side1 => exact m11_)
         (case side2 => exact HC298.out)
         rintro e w28 ⟨rfl, hb⟩
         refine ⟨_, rfl, ?_⟩
         replace BK291 := bkB BK291 hb
         replace BK293 := bkB BK293 hb
         replace HB := hbS HB hb
         (try clear hb)
         (try clear hb2)
         (try clear hk)
         (try clear hi)
         refine hK.out _ _ ⟨bcell BK293 0, bcell BK293 1, bcell BK291 0⟩ (fun hHeld => ?_)
         clear hK K
         refine nm_ ?_
         refine pu_ 10 (some 23) #[true, true, true, true, true, true, true, true, true, true, true] ?_
         refine done_ (done_of HT_.out (by kernel_rfl)) ?_
         try go_wp2
         go_roundg k1
         case measure => have := HK1.out; omega
         case rel => exact ⟨(wrap64 (x8_1 + 1)), rs_, H', ⟨by have := HK1.out; omega⟩, ⟨bk BK291⟩, ⟨m2_⟩⟩
       ·rw [if_neg c10] at H
        exact absurd H (by simp)
      ·replace c8 := Bool.eq_false_iff.mpr c8
       subst c8
       have H1 : (some false) = some r := by rw [if_neg (show ¬ (false = true) by decide)] at H; exact H
       clear H
       have H := H1
       clear H1
       obtain rfl := Option.some.inj H
       have p292 : 0 ≤ (x8_1 : Int) := of_decide_eq_true da_
       have q292 : x8_1 < (l0_0.length : Int) := of_decide_eq_true da_
       obtain ⟨ad292, e292, hx292_0, hx292_1⟩ := at_T34 HR0_0.out x8_1 p292 q292
       cases e292
       replace hx292_0 := bcl HB hx292_0
       replace hx292_1 := bcl HB hx292_1
       replace p292 := eq_true p292
       replace q292 := eq_true q292
       try go_wp2_with (first | ((with_reducible refine gate_dst (N := 4) rfl ?_); refine box_event rfl (N := 4) rfl (cs := #[.int .i64 0, .int .i64 0]) (t := 34) hr_ ?_; intro gb293 hg w29 hbox hb; have BK293 := Aside0.mk hbox; have GW293 := gwE HB hg; have GE293 := gwE HB hg; replace HB := hbS HB hb; have NB291_293 := neL BK291 hg; have NB293_291 := neG BK291 hg; replace BK291 := bkB BK291 hb; clear hb hbox hg; have hnb30 := NB293_291.out; have hnc30 := NB291_293.out; have hcz31_0 := bcell BK293 0; have hcz31_1 := bcell BK293 1; have hfz31_0 := blk_frozen BK293.out 0; have hfz31_1 := blk_frozen BK293.out 1))
       have n0_ : Aside0 (((w29.setCell ⟨gb293, 0, none⟩ (.int .i64 ((rd_T34 l0_0 x8_1).f0))).setCell ⟨gb293, 1, none⟩ (.int .i64 ((rd_T34 l0_0 x8_1).f1))).heap[gb291]? = some (.cells #[.slice (some ad292) l0_0.length c0_0] 25 (0, 0))) := ⟨by (with_reducible repeat refine bu ?_); refine blk_far ?_ NB291_293.out _; (with_reducible repeat refine bu ?_); refine blk_far ?_ NB291_293.out _; (with_reducible repeat refine bu ?_); exact BK291.out⟩
       have n1_ : Aside0 (((w29.setCell ⟨gb293, 0, none⟩ (.int .i64 ((rd_T34 l0_0 x8_1).f0))).setCell ⟨gb293, 1, none⟩ (.int .i64 ((rd_T34 l0_0 x8_1).f1))).heap[gb293]? = some (.cells #[.int .i64 ((rd_T34 l0_0 x8_1).f0), .int .i64 ((rd_T34 l0_0 x8_1).f1)] 34 (0, 0))) := ⟨by (with_reducible repeat refine bu ?_); refine blk_put (cs := #[.int .i64 ((rd_T34 l0_0 x8_1).f0), .int .i64 0]) ?_ 1 _ rfl; (with_reducible repeat refine bu ?_); refine blk_put (cs := #[.int .i64 0, .int .i64 0]) ?_ 0 _ rfl; (with_reducible repeat refine bu ?_); exact BK293.out⟩
       have n2_ : Aside0 (Below w.heap.size w ((w29.setCell ⟨gb293, 0, none⟩ (.int .i64 ((rd_T34 l0_0 x8_1).f0))).setCell ⟨gb293, 1, none⟩ (.int .i64 ((rd_T34 l0_0 x8_1).f1)))) := ⟨m2_⟩
       (try clear BK291)
       (try clear BK293)
       (try clear HB)
       generalize ((w29.setCell ⟨gb293, 0, none⟩ (.int .i64 ((rd_T34 l0_0 x8_1).f0))).setCell ⟨gb293, 1, none⟩ (.int .i64 ((rd_T34 l0_0 x8_1).f1))) = w32 at n0_ n1_ n2_ ⊢
       have BK291 := n0_
       have BK293 := n1_
       have HB := n2_
       clear n0_ n1_ n2_
       replace BK291 := Aside0.mk (blk_drew BK291.out)
       replace BK293 := Aside0.mk (blk_drew BK293.out)
       replace HB := Aside0.mk (below_drew1 HB.out)
       refine start_ (n := 11) (S := fun w' => w'.cell? ⟨gb293, 0, none⟩ = some (.int .i64 ((rd_T34 l0_0 x8_1).f0)) ∧ w'.cell? ⟨gb293, 1, none⟩ = some (.int .i64 ((rd_T34 l0_0 x8_1).f1))) (ds := []) #[false, false, false, false, false, false, false, false, false, false, false] (by kernel_rfl) rfl rfl ⟨bcell BK293 0, bcell BK293 1⟩ (fun hHeld => ?_); refine with_tabW impl_MapOk.tab4 impl_MapOk.bits4 (fun HT_ HW_ => ?_)
       generalize w32.drew = w33 at BK291 BK293 HB hHeld ⊢
       refine tk_ 0 (some 13) #[true, false, false, false, false, false, false, false, false, false, false] rfl (.inl ⟨rfl, m3_⟩) ?_
       refine on_ 1 (some 14) #[true, true, false, false, false, false, false, false, false, false, false] (fun K hK => ?_)
       refine gR Tryz.func52 #[.agg #[.int .i64 ((rd_T34 l0_0 x8_1).f0), .int .i64 ((rd_T34 l0_0 x8_1).f1)]] ?_
       with_reducible refine (impl_EndInside.calls ((rd_T34 l0_0 x8_1).f0) ((rd_T34 l0_0 x8_1).f1) false _ A7.out).mono ?_
       rintro e w34 ⟨rfl, hb⟩
       refine ⟨_, rfl, ?_⟩
       replace BK291 := bkB BK291 hb
       replace BK293 := bkB BK293 hb
       replace HB := hbS HB hb
       (try clear hb)
       (try clear hb2)
       (try clear hk)
       (try clear hi)
       refine hK.out _ _ ⟨bcell BK293 0, bcell BK293 1⟩ (fun hHeld => ?_)
       clear hK K
       refine nm_ ?_
       refine pu_ 2 (some 15) #[true, true, true, false, false, false, false, false, false, false, false] ?_
       refine pu_ 3 (some 16) #[true, true, true, true, false, false, false, false, false, false, false] ?_
       refine pv_ 4 (some 17) #[true, true, true, true, true, false, false, false, false, false, false] ?_
       refine pv_ 5 (some 18) #[true, true, true, true, true, true, false, false, false, false, false] ?_
       refine pv_ 6 (some 19) #[true, true, true, true, true, true, true, false, false, false, false] ?_
       refine pv_ 7 (some 20) #[true, true, true, true, true, true, true, true, false, false, false] ?_
       refine pv_ 8 (some 21) #[true, true, true, true, true, true, true, true, true, false, false] ?_
       refine pv_ 9 (some 22) #[true, true, true, true, true, true, true, true, true, true, false] ?_
       refine pu_ 10 (some 23) #[true, true, true, true, true, true, true, true, true, true, true] ?_
       refine done_ (done_of HT_.out (by kernel_rfl)) ?_
       try go_wp2
       go_ret
       exact ⟨fi_, m2_⟩
     ·rw [if_neg c6] at H
      exact absurd H (by simp)
    ·rw [if_neg c5] at H
     exact absurd H (by simp)
   ·rw [if_neg c4] at H
    have c4b0 : decide (x8_1 < (l0_0.length : Int)) = false := decide_eq_false c4
    clear c4
    obtain rfl := Option.some.inj H
    have hcz35_0 := bcell BK291 0
    have hfz35_0 := blk_frozen BK291.out 0
    go_wp2
    go_ret
    exact ⟨fi_, m2_⟩
def impl_outside.f (a0 : Int) : Option (Bool) := (impl_within.f a0 100 109).bind fun t303 => (some t303)
set_option maxHeartbeats 8000000 in
set_option maxRecDepth 100000 in
theorem impl_outside.calls (a0 : Int) (r : Bool) (w : World) (h : impl_outside.f a0 = some r) :
  Calls Tryz.prog 88 #[.int .i64 a0] w fun e w' => e = .returned (.bool r) ∧ Drawn0 w w' := by
 have H : ((impl_within.f a0 100 109).bind fun t303 => (some t303)) = some r := h
 clear h
 replace H := Option.bind_eq_some_iff.mp H
 obtain ⟨t303, A20, H⟩ := H
 try dsimp only at H
 have A2 := Aside0.mk A20
 clear A20
 obtain rfl := Option.some.inj H
 go_enter Tryz.func88, Tryz.ntmps88
 go_wp2_with (first | ((with_reducible refine gate_callee (f := 111) rfl ?_); refine gL (some 4) Tryz.func111 #[.int .i64 a0, .int .i64 100, .int .i64 109] ?_; (with_reducible refine (impl_within.calls a0 100 109 t303 _ A2.out).mono ?_); rintro e w' ⟨rfl, ⟨nd, rfl⟩⟩; refine ⟨_, rfl, ?_⟩))
 go_ret
 exact ⟨by first | rfl | (simp; done) | (simp [*]; done), by repeat (first | exact Drawn0.refl _ | apply Drawn0.step)⟩
end Go.Proofs.YtffmbccgcaghjaaGreatDoor.P
namespace Go.Proofs.YtffmbccgcaghjaaGreatDoor.P
open Go.RowKit Go.Proofs.YtffmbccgcaghjaaGreatDoorUFnBakRwr.PrintWords Go.Proofs.YtffmbccgcaghjaaGreatDoorUFnBakRwr.PrintLast Go.Proofs.YtffmbccgcaghjaaGreatDoorUFnBakRwr.PrintMore
set_option linter.unusedVariables false
set_option linter.unusedSimpArgs false
def inB (n lo hi : Int) : Bool := decide (lo ≤ n) && decide (n ≤ hi)
theorem within_f (n lo hi : Int) : impl_within.f n lo hi = some (inB n lo hi) := by
  unfold impl_within.f inB
  by_cases h : lo ≤ n <;> simp [h]
theorem inside_f (n : Int) : impl_inside.f n = some (inB n 1 9) := by unfold impl_inside.f; rw [within_f]; rfl
theorem outside_f (n : Int) : impl_outside.f n = some (inB n 100 109) := by unfold impl_outside.f; rw [within_f]; rfl
theorem portOk_f (n : Int) : impl_portOk.f n = some (inB n 1 999) := by unfold impl_portOk.f; rw [within_f]; rfl
def endIn (a p : Int) : Bool := inB a 1 9 && inB p 1 999
def endOut (a p : Int) : Bool := inB a 100 109 && inB p 1 999
theorem EndInside_f (a p : Int) : impl_EndInside.f a p = some (endIn a p) := by
  unfold impl_EndInside.f endIn
  rw [inside_f, Option.bind_some]
  cases h : inB a 1 9 <;> simp [portOk_f]
end Go.Proofs.YtffmbccgcaghjaaGreatDoor.P
namespace Go.Proofs.YtffmbccgcaghjaaGreatDoor.P
open Go.RowKit Go.Proofs.YtffmbccgcaghjaaGreatDoorUFnBakRwr.PrintWords Go.Proofs.YtffmbccgcaghjaaGreatDoorUFnBakRwr.PrintLast Go.Proofs.YtffmbccgcaghjaaGreatDoorUFnBakRwr.PrintMore
set_option linter.unusedVariables false
set_option linter.unusedSimpArgs false
def endOkB (a p : Int) : Bool := (inB a 1 9 || inB a 100 109 || decide (a = 50)) && inB p 1 999
def etext (a p : Int) : ByteArray := if endOkB a p then (numB a ++ (⟨#[32]⟩ : ByteArray)) ++ numB p else ⟨#[]⟩
def cutW (s : ByteArray) : ByteArray × ByteArray := (⟨(Lib.cut s.data.toList [32]).1.toArray⟩, ⟨(Lib.cut s.data.toList [32]).2.1.toArray⟩)
def readEndW (t : ByteArray) : Option (Int × Int) := (atoiO (cutW t).1).bind fun a => (atoiO (cutW t).2).bind fun p => if etext a p = t then some (a, p) else none
def portL : List UInt8 := [112, 111, 114, 116, 32]
def trimW (s : ByteArray) : ByteArray := ⟨(Lib.trimPrefix s.data.toList portL).toArray⟩
def saidW (s : ByteArray) : Int × Int × Bool := match readEndW (trimW s) with
  | some (a, p) => (a, p, Lib.hasPrefix s.data.toList portL)
  | none => (0, 0, false)
theorem endOkB_le {a p : Int} (h : endOkB a p = true) : (1 ≤ a ∧ a ≤ 109) ∧ (1 ≤ p ∧ p ≤ 999) := by
  simp only [endOkB, inB, Bool.and_eq_true, Bool.or_eq_true, decide_eq_true_eq] at h
  omega
end Go.Proofs.YtffmbccgcaghjaaGreatDoor.P
namespace Go.Proofs.YtffmbccgcaghjaaGreatDoor.P
open Go.RowKit Go.Proofs.YtffmbccgcaghjaaGreatDoorUFnBakRwr.PrintWords Go.Proofs.YtffmbccgcaghjaaGreatDoorUFnBakRwr.PrintLast Go.Proofs.YtffmbccgcaghjaaGreatDoorUFnBakRwr.PrintMore
attribute [local go_sem] max2_int min2_int max_two min_two max_three min_three max_four min_four
set_option linter.unusedVariables false
set_option linter.unusedSimpArgs false
def impl_EndOk.f (a0_0 : Int) (a0_1 : Int) : Option (Bool) := (impl_inside.f a0_0).bind fun t305 => (if t305 = true then ((impl_portOk.f a0_1).bind fun t306 => (some t306)) else ((impl_outside.f a0_0).bind fun t307 => (if t307 = true then ((impl_portOk.f a0_1).bind fun t308 => (some t308)) else (if a0_0 = 50 then ((impl_portOk.f a0_1).bind fun t309 => (some t309)) else (some false)))))
set_option maxHeartbeats 8000000 in
set_option maxRecDepth 100000 in
theorem impl_EndOk.calls (a0_0 : Int) (a0_1 : Int) (r : Bool) (w : World) (h : impl_EndOk.f a0_0 a0_1 = some r) :
  Calls Tryz.prog 56 #[.agg #[.int .i64 a0_0, .int .i64 a0_1]] w fun e w' => e = .returned (.bool r) ∧ Below w.heap.size w w' := by
 have hu34 := Tryz.underlying34
 have HB := Aside0.mk (Below.refl w.heap.size w)
 have H : ((impl_inside.f a0_0).bind fun t305 => (if t305 = true then ((impl_portOk.f a0_1).bind fun t306 => (some t306)) else ((impl_outside.f a0_0).bind fun t307 => (if t307 = true then ((impl_portOk.f a0_1).bind fun t308 => (some t308)) else (if a0_0 = 50 then ((impl_portOk.f a0_1).bind fun t309 => (some t309)) else (some false)))))) = some r := h
 clear h
 replace H := Option.bind_eq_some_iff.mp H
 obtain ⟨t305, A20, H⟩ := H
 try dsimp only at H
 have A2 := Aside0.mk A20
 clear A20
 by_cases c3 : t305 = true
 ·subst c3
  have H1 : ((impl_portOk.f a0_1).bind fun t306 => (some t306)) = some r := by rw [if_pos rfl] at H; exact H
  clear H
  have H := H1
  clear H1
  replace H := Option.bind_eq_some_iff.mp H
  obtain ⟨t306, A40, H⟩ := H
  try dsimp only at H
  have A4 := Aside0.mk A40
  clear A40
  obtain rfl := Option.some.inj H
  go_enter Tryz.func56, Tryz.ntmps56
  go_wp2_with (first | ((with_reducible refine gate_dst (N := 1) rfl ?_); refine box_event rfl (N := 1) rfl (cs := #[.int .i64 a0_0, .int .i64 a0_1]) (t := 34) hr_ ?_; intro gb304 hg w5 hbox hb; have BK304 := Aside0.mk hbox; have GW304 := gwE HB hg; have GE304 := gwE HB hg; replace HB := hbS HB hb; clear hb hbox hg; have hcz6_0 := bcell BK304 0; have hcz6_1 := bcell BK304 1; have hfz6_0 := blk_frozen BK304.out 0; have hfz6_1 := blk_frozen BK304.out 1) | ((with_reducible refine gate_callee (f := 84) rfl ?_); refine gL (some 5) Tryz.func84 #[.int .i64 a0_0] ?_; (with_reducible refine (impl_inside.calls a0_0 true _ A2.out).mono ?_); rintro e w' ⟨rfl, ⟨nd, rfl⟩⟩; refine ⟨_, rfl, ?_⟩) | (go_at_call 85; (with_reducible refine (impl_portOk.calls a0_1 t306 _ A4.out).mono ?_); rintro e w' ⟨rfl, ⟨nd, rfl⟩⟩))
  go_ret
  exact ⟨fi_, m2_⟩
 ·replace c3 := Bool.eq_false_iff.mpr c3
  subst c3
  have H1 : ((impl_outside.f a0_0).bind fun t307 => (if t307 = true then ((impl_portOk.f a0_1).bind fun t308 => (some t308)) else (if a0_0 = 50 then ((impl_portOk.f a0_1).bind fun t309 => (some t309)) else (some false)))) = some r := by rw [if_neg (show ¬ (false = true) by decide)] at H; exact H
  clear H
  have H := H1
  clear H1
  replace H := Option.bind_eq_some_iff.mp H
  obtain ⟨t307, A70, H⟩ := H
  try dsimp only at H
  have A7 := Aside0.mk A70
  clear A70
  by_cases c8 : t307 = true
  ·subst c8
   have H1 : ((impl_portOk.f a0_1).bind fun t308 => (some t308)) = some r := by rw [if_pos rfl] at H; exact H
   clear H
   have H := H1
   clear H1
   replace H := Option.bind_eq_some_iff.mp H
   obtain ⟨t308, A90, H⟩ := H
   try dsimp only at H
   have A9 := Aside0.mk A90
   clear A90
   obtain rfl := Option.some.inj H
   go_enter Tryz.func56, Tryz.ntmps56
   go_wp2_with (first | ((with_reducible refine gate_dst (N := 1) rfl ?_); refine box_event rfl (N := 1) rfl (cs := #[.int .i64 a0_0, .int .i64 a0_1]) (t := 34) hr_ ?_; intro gb304 hg w10 hbox hb; have BK304 := Aside0.mk hbox; have GW304 := gwE HB hg; have GE304 := gwE HB hg; replace HB := hbS HB hb; clear hb hbox hg; have hcz11_0 := bcell BK304 0; have hcz11_1 := bcell BK304 1; have hfz11_0 := blk_frozen BK304.out 0; have hfz11_1 := blk_frozen BK304.out 1) | ((with_reducible refine gate_callee (f := 84) rfl ?_); refine gL (some 5) Tryz.func84 #[.int .i64 a0_0] ?_; (with_reducible refine (impl_inside.calls a0_0 false _ A2.out).mono ?_); rintro e w' ⟨rfl, ⟨nd, rfl⟩⟩; refine ⟨_, rfl, ?_⟩) | (go_at_call 88; (with_reducible refine (impl_outside.calls a0_0 true _ A7.out).mono ?_); rintro e w' ⟨rfl, ⟨nd, rfl⟩⟩) | (go_at_call 85; (with_reducible refine (impl_portOk.calls a0_1 t308 _ A9.out).mono ?_); rintro e w' ⟨rfl, ⟨nd, rfl⟩⟩))
   go_ret
   exact ⟨fi_, m2_⟩
  ·replace c8 := Bool.eq_false_iff.mpr c8
   subst c8
   have H1 : (if a0_0 = 50 then ((impl_portOk.f a0_1).bind fun t309 => (some t309)) else (some false)) = some r := by rw [if_neg (show ¬ (false = true) by decide)] at H; exact H
   clear H
   have H := H1
   clear H1
   by_cases c12 : a0_0 = 50
   ·rw [if_pos c12] at H
    have c12b0 : (a0_0 == 50) = true := beq_iff_eq.mpr c12
    have c12b1 : (a0_0 != 50) = false := bne_eq_false_iff_eq.mpr c12
    clear c12
    replace H := Option.bind_eq_some_iff.mp H
    obtain ⟨t309, A130, H⟩ := H
    try dsimp only at H
    have A13 := Aside0.mk A130
    clear A130
    obtain rfl := Option.some.inj H
    go_enter Tryz.func56, Tryz.ntmps56
    go_wp2_with (first | ((with_reducible refine gate_dst (N := 1) rfl ?_); refine box_event rfl (N := 1) rfl (cs := #[.int .i64 a0_0, .int .i64 a0_1]) (t := 34) hr_ ?_; intro gb304 hg w14 hbox hb; have BK304 := Aside0.mk hbox; have GW304 := gwE HB hg; have GE304 := gwE HB hg; replace HB := hbS HB hb; clear hb hbox hg; have hcz15_0 := bcell BK304 0; have hcz15_1 := bcell BK304 1; have hfz15_0 := blk_frozen BK304.out 0; have hfz15_1 := blk_frozen BK304.out 1) | ((with_reducible refine gate_callee (f := 84) rfl ?_); refine gL (some 5) Tryz.func84 #[.int .i64 a0_0] ?_; (with_reducible refine (impl_inside.calls a0_0 false _ A2.out).mono ?_); rintro e w' ⟨rfl, ⟨nd, rfl⟩⟩; refine ⟨_, rfl, ?_⟩) | (go_at_call 88; (with_reducible refine (impl_outside.calls a0_0 false _ A7.out).mono ?_); rintro e w' ⟨rfl, ⟨nd, rfl⟩⟩) | (go_at_call 85; (with_reducible refine (impl_portOk.calls a0_1 t309 _ A13.out).mono ?_); rintro e w' ⟨rfl, ⟨nd, rfl⟩⟩))
    go_ret
    exact ⟨fi_, m2_⟩
   ·rw [if_neg c12] at H
    have c12b0 : (a0_0 == 50) = false := beq_eq_false_iff_ne.mpr c12
    have c12b1 : (a0_0 != 50) = true := bne_iff_ne.mpr c12
    obtain rfl := Option.some.inj H
    go_enter Tryz.func56, Tryz.ntmps56
    go_wp2_with (first | ((with_reducible refine gate_dst (N := 1) rfl ?_); refine box_event rfl (N := 1) rfl (cs := #[.int .i64 a0_0, .int .i64 a0_1]) (t := 34) hr_ ?_; intro gb304 hg w16 hbox hb; have BK304 := Aside0.mk hbox; have GW304 := gwE HB hg; have GE304 := gwE HB hg; replace HB := hbS HB hb; clear hb hbox hg; have hcz17_0 := bcell BK304 0; have hcz17_1 := bcell BK304 1; have hfz17_0 := blk_frozen BK304.out 0; have hfz17_1 := blk_frozen BK304.out 1) | ((with_reducible refine gate_callee (f := 84) rfl ?_); refine gL (some 5) Tryz.func84 #[.int .i64 a0_0] ?_; (with_reducible refine (impl_inside.calls a0_0 false _ A2.out).mono ?_); rintro e w' ⟨rfl, ⟨nd, rfl⟩⟩; refine ⟨_, rfl, ?_⟩) | (go_at_call 88; (with_reducible refine (impl_outside.calls a0_0 false _ A7.out).mono ?_); rintro e w' ⟨rfl, ⟨nd, rfl⟩⟩))
    go_ret
    exact ⟨fi_, m2_⟩
end Go.Proofs.YtffmbccgcaghjaaGreatDoor.P
namespace Go.Proofs.YtffmbccgcaghjaaGreatDoor.P
open Go Go.Sort Go.RowKit Go.Proofs.YtffmbccgcaghjaaGreatDoorUFnBakRwr.PrintWords Go.Proofs.YtffmbccgcaghjaaGreatDoorUFnBakRwr.PrintLast Go.Proofs.YtffmbccgcaghjaaGreatDoorUFnBakRwr.PrintMore
set_option linter.unusedVariables false
def strconv_Itoa_89.f (n : Int) : Option ByteArray := if 0 ≤ n ∧ n ≤ 999 then some (numB n) else none
theorem strconv_Itoa_89.calls (a0 : Int) (r : ByteArray) (w : World) (h : strconv_Itoa_89.f a0 = some r) (hE : EnvT w) :
    Calls Tryz.prog 89 #[.int .i64 a0] w fun e w' => e = .returned (.string r) ∧ Below w.heap.size w w' := by
  unfold strconv_Itoa_89.f at h
  by_cases hq : 0 ≤ a0 ∧ a0 ≤ 999
  · rw [if_pos hq] at h
    refine (num_calls a0 hq.1 hq.2 w hE).mono ?_
    rintro e w' ⟨b, rfl, hb, _, hB⟩
    cases h
    exact ⟨by rw [hb], hB⟩
  · rw [if_neg hq] at h; cases h
end Go.Proofs.YtffmbccgcaghjaaGreatDoor.P
namespace Go.Proofs.YtffmbccgcaghjaaGreatDoor.P
open Go.RowKit Go.Proofs.YtffmbccgcaghjaaGreatDoorUFnBakRwr.PrintWords Go.Proofs.YtffmbccgcaghjaaGreatDoorUFnBakRwr.PrintLast Go.Proofs.YtffmbccgcaghjaaGreatDoorUFnBakRwr.PrintMore
attribute [local go_sem] max2_int min2_int max_two min_two max_three min_three max_four min_four
set_option linter.unusedVariables false
set_option linter.unusedSimpArgs false
def impl_EndText.f (a0_0 : Int) (a0_1 : Int) : Option (ByteArray) := (impl_EndOk.f a0_0 a0_1).bind fun t330 => (if t330 = true then ((strconv_Itoa_89.f a0_0).bind fun t331 => (if t331.size + 1 ≤ 9223372036854775807 then ((strconv_Itoa_89.f a0_1).bind fun t332 => (if (t331 ++ (⟨#[32]⟩ : ByteArray)).size + t332.size ≤ 9223372036854775807 then (some ((t331 ++ (⟨#[32]⟩ : ByteArray)) ++ t332)) else (none))) else (none))) else (some (⟨#[]⟩ : ByteArray)))
def impl_EndText.T3 : Bool × List (List Nat × List Nat) := (true, [([], []), ([0], [0]), ([1], [1]), ([2], [2]), ([], []), ([4], [4]), ([5, 2], [5]), ([3, 6], [3, 6]), ([7, 6, 0, 1, 2, 3, 4, 5, 6, 7], [7])])
def impl_EndText.B3 : List Nat := [0, 1, 3, 7, 0, 16, 55, 127, 255]
theorem impl_EndText.tab3 : rtab .any (opsOf Tryz.f57 3) = impl_EndText.T3 := by kernel_rfl
theorem impl_EndText.bits3 : waitsOk impl_EndText.T3.2 impl_EndText.B3 = true := by kernel_rfl
set_option maxHeartbeats 8000000 in
set_option maxRecDepth 100000 in
theorem impl_EndText.calls (a0_0 : Int) (a0_1 : Int) (r : ByteArray) (w : World) (h : impl_EndText.f a0_0 a0_1 = some r) (hE : EnvT w) :
  Calls Tryz.prog 57 #[.agg #[.int .i64 a0_0, .int .i64 a0_1]] w fun e w' => e = .returned (.string r) ∧ Below w.heap.size w w' := by
 have hu34 := Tryz.underlying34
 have HB := Aside0.mk (Below.refl w.heap.size w)
 have H : ((impl_EndOk.f a0_0 a0_1).bind fun t330 => (if t330 = true then ((strconv_Itoa_89.f a0_0).bind fun t331 => (if t331.size + 1 ≤ 9223372036854775807 then ((strconv_Itoa_89.f a0_1).bind fun t332 => (if (t331 ++ (⟨#[32]⟩ : ByteArray)).size + t332.size ≤ 9223372036854775807 then (some ((t331 ++ (⟨#[32]⟩ : ByteArray)) ++ t332)) else (none))) else (none))) else (some (⟨#[]⟩ : ByteArray)))) = some r := h
 clear h
 replace H := Option.bind_eq_some_iff.mp H
 obtain ⟨t330, A20, H⟩ := H
 try dsimp only at H
 have A2 := Aside0.mk A20
 clear A20
 by_cases c3 : t330 = true
 ·subst c3
  have H1 : ((strconv_Itoa_89.f a0_0).bind fun t331 => (if t331.size + 1 ≤ 9223372036854775807 then ((strconv_Itoa_89.f a0_1).bind fun t332 => (if (t331 ++ (⟨#[32]⟩ : ByteArray)).size + t332.size ≤ 9223372036854775807 then (some ((t331 ++ (⟨#[32]⟩ : ByteArray)) ++ t332)) else (none))) else (none))) = some r := by rw [if_pos rfl] at H; exact H
  clear H
  have H := H1
  clear H1
  replace H := Option.bind_eq_some_iff.mp H
  obtain ⟨t331, A40, H⟩ := H
  try dsimp only at H
  have A4 := Aside0.mk A40
  clear A40
  by_cases c5 : t331.size + 1 ≤ 9223372036854775807
  ·rw [if_pos c5] at H
   have c5b0 := eq_true c5
   have c5b1 : decide (t331.size + 1 ≤ 9223372036854775807) = true := decide_eq_true c5
   try have c5b2 : (9223372036854775807 < t331.size + 1) = False := eq_false (Nat.not_lt.2 c5)
   replace H := Option.bind_eq_some_iff.mp H
   obtain ⟨t332, A60, H⟩ := H
   try dsimp only at H
   have A6 := Aside0.mk A60
   clear A60
   by_cases c7 : (t331 ++ (⟨#[32]⟩ : ByteArray)).size + t332.size ≤ 9223372036854775807
   ·rw [if_pos c7] at H
    have c7b0 := eq_true c7
    have c7b1 : decide ((t331 ++ (⟨#[32]⟩ : ByteArray)).size + t332.size ≤ 9223372036854775807) = true := decide_eq_true c7
    try have c7b2 : (9223372036854775807 < (t331 ++ (⟨#[32]⟩ : ByteArray)).size + t332.size) = False := eq_false (Nat.not_lt.2 c7)
    try have c7b3 : (9223372036854775807 < t331.size + 1 + t332.size) = False := (by have z_ := c7b2; simp only [ByteArray.size_append] at z_; exact z_)
    obtain rfl := Option.some.inj H
    go_enter Tryz.func57, Tryz.ntmps57
    try go_wp2_with (first | ((with_reducible refine gate_dst (N := 1) rfl ?_); refine box_event rfl (N := 1) rfl (cs := #[.int .i64 a0_0, .int .i64 a0_1]) (t := 34) hr_ ?_; intro gb329 hg w8 hbox hb; have BK329 := Aside0.mk hbox; have GW329 := gwE HB hg; have GE329 := gwE HB hg; replace HB := hbS HB hb; clear hb hbox hg; have hcz9_0 := bcell BK329 0; have hcz9_1 := bcell BK329 1; have hfz9_0 := blk_frozen BK329.out 0; have hfz9_1 := blk_frozen BK329.out 1) | ((with_reducible refine gate_callee (f := 56) rfl ?_); refine gL (some 4) Tryz.func56 #[.agg #[.int .i64 a0_0, .int .i64 a0_1]] ?_; (with_reducible refine (impl_EndOk.calls a0_0 a0_1 true _ A2.out).mono ?_); rintro e w10 ⟨rfl, hb⟩; refine ⟨_, rfl, ?_⟩; replace BK329 := bkB BK329 hb; replace HB := hbS HB hb; (try clear hb)))
    replace BK329 := Aside0.mk (blk_drew BK329.out)
    replace HB := Aside0.mk (below_drew1 HB.out)
    refine start_ (n := 9) (S := fun w' => w'.cell? ⟨gb329, 0, none⟩ = some (.int .i64 a0_0) ∧ w'.cell? ⟨gb329, 1, none⟩ = some (.int .i64 a0_1)) (ds := []) #[false, false, false, false, false, false, false, false, false] (by kernel_rfl) rfl rfl ⟨bcell BK329 0, bcell BK329 1⟩ (fun hHeld => ?_); refine with_tabW impl_EndText.tab3 impl_EndText.bits3 (fun HT_ HW_ => ?_)
    generalize w10.drew = w11 at BK329 HB hHeld ⊢
    refine pu_ 0 (some 6) #[true, false, false, false, false, false, false, false, false] ?_
    refine pu_ 4 (some 10) #[true, false, false, false, true, false, false, false, false] ?_
    refine tk_ 1 (some 7) #[true, true, false, false, true, false, false, false, false] rfl (.inl ⟨rfl, m3_⟩) ?_
    refine tk_ 5 (some 11) #[true, true, false, false, true, true, false, false, false] rfl (.inl ⟨rfl, m3_⟩) ?_
    refine on_ 2 (some 8) #[true, true, true, false, true, true, false, false, false] (fun K hK => ?_)
    refine gR Tryz.func89 #[.int .i64 a0_0] ?_
    with_reducible refine (strconv_Itoa_89.calls a0_0 t331 _ A4.out (EnvT.below hE (bl HB))).mono ?_
    rintro e w12 ⟨rfl, hb⟩
    refine ⟨_, rfl, ?_⟩
    replace BK329 := bkB BK329 hb
    replace HB := hbS HB hb
    (try clear hb)
    (try clear hb2)
    (try clear hk)
    (try clear hi)
    refine hK.out _ _ ⟨bcell BK329 0, bcell BK329 1⟩ (fun hHeld => ?_)
    clear hK K
    refine nm_ ?_
    refine pu_ 3 (some 9) #[true, true, true, true, true, true, false, false, false] ?_
    refine on_ 6 (some 12) #[true, true, true, true, true, true, true, false, false] (fun K hK => ?_)
    refine gR Tryz.func89 #[.int .i64 a0_1] ?_
    with_reducible refine (strconv_Itoa_89.calls a0_1 t332 _ A6.out (EnvT.below hE (bl HB))).mono ?_
    rintro e w13 ⟨rfl, hb⟩
    refine ⟨_, rfl, ?_⟩
    replace BK329 := bkB BK329 hb
    replace HB := hbS HB hb
    (try clear hb)
    (try clear hb2)
    (try clear hk)
    (try clear hi)
    refine hK.out _ _ ⟨bcell BK329 0, bcell BK329 1⟩ (fun hHeld => ?_)
    clear hK K
    refine nm_ ?_
    refine pu_ 7 (some 13) #[true, true, true, true, true, true, true, true, false] ?_
    refine pu_ 8 (some 2) #[true, true, true, true, true, true, true, true, true] ?_
    refine done_ (done_of HT_.out (by kernel_rfl)) ?_
    try go_wp2
    go_ret
    exact ⟨fi_, m2_⟩
   ·rw [if_neg c7] at H
    exact absurd H (by simp)
  ·rw [if_neg c5] at H
   exact absurd H (by simp)
 ·replace c3 := Bool.eq_false_iff.mpr c3
  subst c3
  have H1 : (some (⟨#[]⟩ : ByteArray)) = some r := by rw [if_neg (show ¬ (false = true) by decide)] at H; exact H
  clear H
  have H := H1
  clear H1
  obtain rfl := Option.some.inj H
  go_enter Tryz.func57, Tryz.ntmps57
  go_wp2_with (first | ((with_reducible refine gate_dst (N := 1) rfl ?_); refine box_event rfl (N := 1) rfl (cs := #[.int .i64 a0_0, .int .i64 a0_1]) (t := 34) hr_ ?_; intro gb329 hg w14 hbox hb; have BK329 := Aside0.mk hbox; have GW329 := gwE HB hg; have GE329 := gwE HB hg; replace HB := hbS HB hb; clear hb hbox hg; have hcz15_0 := bcell BK329 0; have hcz15_1 := bcell BK329 1; have hfz15_0 := blk_frozen BK329.out 0; have hfz15_1 := blk_frozen BK329.out 1) | ((with_reducible refine gate_callee (f := 56) rfl ?_); refine gL (some 4) Tryz.func56 #[.agg #[.int .i64 a0_0, .int .i64 a0_1]] ?_; (with_reducible refine (impl_EndOk.calls a0_0 a0_1 false _ A2.out).mono ?_); rintro e w16 ⟨rfl, hb⟩; refine ⟨_, rfl, ?_⟩; replace BK329 := bkB BK329 hb; replace HB := hbS HB hb; (try clear hb)))
  go_ret
  exact ⟨fi_, m2_⟩
end Go.Proofs.YtffmbccgcaghjaaGreatDoor.P
namespace Go.Proofs.YtffmbccgcaghjaaGreatDoor.P
open Go.RowKit Go.Proofs.YtffmbccgcaghjaaGreatDoorUFnBakRwr.PrintWords Go.Proofs.YtffmbccgcaghjaaGreatDoorUFnBakRwr.PrintLast Go.Proofs.YtffmbccgcaghjaaGreatDoorUFnBakRwr.PrintMore
set_option linter.unusedVariables false
set_option linter.unusedSimpArgs false
theorem set_ne {W : World} {g i k : Nat} {v : Value} (hk : k ≠ g) : (W.setCell ⟨g, i, none⟩ v).heap[k]? = W.heap[k]? := Below.heap_setCell W ⟨g, i, none⟩ v k hk
theorem put2 {W : World} {g : Nat} {t : TypeId} {c0 c1 : Value} (h : W.heap[g]? = some (.cells #[c0, c1] t (0, 0))) (v0 v1 : Value) {W' : World}
    (hw : W' = (W.setCell ⟨g, 0, none⟩ v0).setCell ⟨g, 1, none⟩ v1) :
    W'.heap[g]? = some (.cells #[v0, v1] t (0, 0)) ∧ (∀ k, k ≠ g → W'.heap[k]? = W.heap[k]?) ∧ (∀ w : World, w.heap.size ≤ g → Below w.heap.size w W → Below w.heap.size w W') := by
  subst hw
  refine ⟨?_, ?_, ?_⟩
  · refine blk_put (cs := #[v0, c1]) ?_ 1 _ rfl
    exact blk_put h 0 _ rfl
  · intro k hk
    simp only [set_ne hk]
  · intro w hg hb
    exact below_set (below_set hb hg) hg
theorem cell_lt {w : World} {g : Nat} {v : Value} (h : w.cell? ⟨g, 0, none⟩ = some v) : g < w.heap.size := by
  simp only [World.cell?] at h
  cases hk : w.heap[g]? with
  | none => rw [hk] at h; simp at h
  | some o => exact (Array.getElem?_eq_some_iff.1 hk).1
theorem cut_calls (s : ByteArray) (hs : s.size < 4294967281) (w : World) (hE : Env w) :
    Calls Tryz.prog 102 #[.string s, .string (⟨#[32]⟩ : ByteArray)] w fun e w' => ∃ fl : Bool, e = .returned (.tuple #[.string (cutW s).1, .string (cutW s).2, .bool fl]) ∧ Below w.heap.size w w' := by
  obtain ⟨m, hm⟩ := hE.max
  refine (Tryz.strings_Cut s _ m w hs hm).mono ?_
  rintro e w' ⟨rfl, n, rfl⟩
  exact ⟨_, rfl, Go.below_drewN (Below.refl _ _) n⟩
theorem cutW_size (s : ByteArray) : (cutW s).1.size ≤ s.size ∧ (cutW s).2.size ≤ s.size := by
  have hl : s.data.toList.length = s.size := by rw [Array.length_toList]; rfl
  unfold cutW Lib.cut
  by_cases h : 0 ≤ Lib.index s.data.toList [32]
  · rw [if_pos h]
    simp only [ByteArray.size, List.size_toArray, List.length_take, List.length_drop]
    rw [hl]
    show _ ≤ s.size ∧ _ ≤ s.size
    omega
  · rw [if_neg h]
    show s.data.toList.toArray.size ≤ s.size ∧ ([] : List UInt8).toArray.size ≤ s.size
    rw [List.size_toArray, hl]
    exact ⟨Nat.le_refl _, Nat.zero_le _⟩
theorem EndOk_f (a p : Int) : impl_EndOk.f a p = some (endOkB a p) := by
  unfold impl_EndOk.f endOkB
  simp only [inside_f, outside_f, portOk_f, Option.bind_some]
  by_cases h3 : a = 50 <;> cases inB a 1 9 <;> cases inB a 100 109 <;> cases inB p 1 999 <;> simp [h3]
theorem EndText_f (a p : Int) : impl_EndText.f a p = some (etext a p) := by
  unfold impl_EndText.f etext
  rw [EndOk_f, Option.bind_some]
  cases hk : endOkB a p with
  | false => simp
  | true =>
    have hb := endOkB_le hk
    have h1 := numB_size (n := a) (by omega) (by omega)
    have h2 := numB_size (n := p) (by omega) (by omega)
    have h3 : ((⟨#[32]⟩ : ByteArray)).size = 1 := rfl
    unfold strconv_Itoa_89.f
    rw [if_pos rfl, if_pos ⟨by omega, by omega⟩, Option.bind_some, if_pos (by omega), if_pos ⟨by omega, by omega⟩, Option.bind_some, if_pos (by rw [ByteArray.size_append]; omega)]
    rfl
set_option maxHeartbeats 8000000 in
set_option maxRecDepth 100000 in
theorem readEnd_noA (s : ByteArray) (hs : s.size ≤ 4000000000) (ha : atoiO (cutW s).1 = none) (w : World) (hE : EnvE w) :
    Calls Tryz.prog 83 #[.string s] w fun e w' => ∃ t p, e = .returned (.tuple #[.agg #[.int .i64 0, .int .i64 0], .iface t p]) ∧ Below w.heap.size w w' := by
  obtain ⟨te, pe, he⟩ := hE.err
  have herr : ∀ w' : World, Below w.heap.size w w' → w'.cell? ⟨0, 0, none⟩ = some (.iface te pe) := fun w' b => cell_below he b
  have HLT := Aside0.mk (cell_lt he)
  clear he
  have HS := Aside0.mk hs
  have HE := Aside0.mk hE
  have HZ := Aside0.mk (cutW_size s)
  have HB := Aside0.mk (Below.refl w.heap.size w)
  have hu := Tryz.underlying34
  have HA := Aside0.mk ha
  clear ha
  clear hs hE
  go_enter Tryz.func83, Tryz.ntmps83
  go_wp2_with (first
      | ((with_reducible refine gate_dst (N := 2) rfl ?_)
         refine box_event ?hg (N := 2) ?hd (cs := #[.int .i64 0, .int .i64 0]) (t := 34) ?hr ?_
         (case hd => rfl)
         (case hg => rfl)
         (case hr => first | (go_simp; done) | (go_simp; rfl))
         intro g2 hg w1 hbox hb
         have GE2 : Aside0 (w.heap.size ≤ g2) := ⟨by rw [hg]; exact below_size (bl HB)⟩
         have BK2 := Aside0.mk hbox
         have n0_ := Aside0.mk (below_step (bl HB) hb)
         clear HB 
         have HB := n0_
         clear n0_ 
         clear hb hbox hg)
      | (go_at_call 102; refine (cut_calls _ (by have := HS.out; omega) _ (Env.below HE.out.e (bl HB))).mono ?_; rintro e w2 ⟨fl, rfl, hb⟩
         have n0_ := Aside0.mk (below_step (bl HB) hb)
         have m0_ := bkB BK2 hb
         clear HB BK2
         have HB := n0_
         have BK2 := m0_
         clear n0_ m0_
         clear hb)
      | (go_at_call 110; (with_reducible refine (atoi_no (cutW s).1 (by have := HS.out; have := HZ.out; omega) HA.out _ (Env.below HE.out.e (bl HB))).mono ?_); rintro e w3 ⟨v1, t1, p1, rfl, hb⟩
         have n0_ := Aside0.mk (below_step (bl HB) hb)
         have m0_ := bkB BK2 hb
         clear HB BK2
         have HB := n0_
         have BK2 := m0_
         clear n0_ m0_
         clear hb)
      | (go_at_call 110; (with_reducible refine (atoi_calls (cutW s).2 (by have := HS.out; have := HZ.out; omega) _ (Env.below HE.out.e (bl HB))).mono ?_); rintro e w4 ⟨v2, ev2, rfl, hev, hb⟩
         have n0_ := Aside0.mk (below_step (bl HB) hb)
         have m0_ := bkB BK2 hb
         clear HB BK2
         have HB := n0_
         have BK2 := m0_
         clear n0_ m0_
         clear hb hev)
      | ((with_reducible refine gate_dst (N := 11) rfl ?_)
         refine box_event ?hg (N := 11) ?hd (cs := #[.int .i64 0, .int .i64 0]) (t := 34) ?hr ?_
         (case hd => rfl)
         (case hg => rfl)
         (case hr => first | (go_simp; done) | (go_simp; rfl))
         intro g11 hg w5 hbox hb
         have GE11 : Aside0 (w.heap.size ≤ g11) := ⟨by rw [hg]; exact below_size (bl HB)⟩
         have NE : Aside0 (g2 ≠ g11) := ⟨by rw [hg]; have := bkL BK2; omega⟩
         have BK11 := Aside0.mk hbox
         have zc0 := (blk_cell BK11.out 0).trans rfl
         have zf0 := blk_frozen BK11.out 0
         have zc1 := (blk_cell BK11.out 1).trans rfl
         have zf1 := blk_frozen BK11.out 1
         have n0_ := Aside0.mk (below_step (bl HB) hb)
         have m0_ := bkB BK2 hb
         clear HB BK2
         have HB := n0_
         have BK2 := m0_
         clear n0_ m0_
         clear hb hbox hg))
  have hp := put2 BK11.out (.int .i64 v1) (.int .i64 v2) rfl
  have kb := Aside0.mk (hp.2.2 w GE11.out HB.out)
  have k2 := (hp.2.1 _ NE.out).trans BK2.out
  have he2 := herr _ kb.out
  clear herr
  generalize (w5.setCell ⟨g11, 0, none⟩ (.int .i64 v1)).setCell ⟨g11, 1, none⟩ (.int .i64 v2) = X at kb k2 he2 ⊢
  have KB := Aside0.mk (blk_drew k2)
  have hne : g2 ≠ 0 := by have := GE2.out; have := HLT.out; omega
  have hne' := hne.symm
  have xc0 := (blk_cell k2 0).trans rfl
  have xc1 := (blk_cell k2 1).trans rfl
  have xf0 := blk_frozen k2 0
  have xf1 := blk_frozen k2 1
  clear k2
  go_region
  all_goals go_wp2
  all_goals
    have hq := put2 KB.out (.int .i64 0) (.int .i64 0) rfl
    refine bodyPost_ret (results_ct rfl _ _ g2 34 #[.int .i64 0, .int .i64 0] (0, 0) _ rfl hq.1 Tryz.underlying34 rfl (by kernel_rfl)) rfl ?_
    exact ⟨_, _, rfl, hq.2.2 w GE2.out (below_drew1 kb.out)⟩
set_option maxHeartbeats 8000000 in
set_option maxRecDepth 100000 in
theorem readEnd_noB (s : ByteArray) (hs : s.size ≤ 4000000000) (x : Int) (ha : atoiO (cutW s).1 = some x) (ha2 : atoiO (cutW s).2 = none) (w : World) (hE : EnvE w) :
    Calls Tryz.prog 83 #[.string s] w fun e w' => ∃ t p, e = .returned (.tuple #[.agg #[.int .i64 0, .int .i64 0], .iface t p]) ∧ Below w.heap.size w w' := by
  obtain ⟨te, pe, he⟩ := hE.err
  have herr : ∀ w' : World, Below w.heap.size w w' → w'.cell? ⟨0, 0, none⟩ = some (.iface te pe) := fun w' b => cell_below he b
  have HLT := Aside0.mk (cell_lt he)
  clear he
  have HS := Aside0.mk hs
  have HE := Aside0.mk hE
  have HZ := Aside0.mk (cutW_size s)
  have HB := Aside0.mk (Below.refl w.heap.size w)
  have hu := Tryz.underlying34
  have HA := Aside0.mk ha
  have HA2 := Aside0.mk ha2
  clear ha ha2
  clear hs hE
  go_enter Tryz.func83, Tryz.ntmps83
  go_wp2_with (first
      | ((with_reducible refine gate_dst (N := 2) rfl ?_)
         refine box_event ?hg (N := 2) ?hd (cs := #[.int .i64 0, .int .i64 0]) (t := 34) ?hr ?_
         (case hd => rfl)
         (case hg => rfl)
         (case hr => first | (go_simp; done) | (go_simp; rfl))
         intro g2 hg w1 hbox hb
         have GE2 : Aside0 (w.heap.size ≤ g2) := ⟨by rw [hg]; exact below_size (bl HB)⟩
         have BK2 := Aside0.mk hbox
         have n0_ := Aside0.mk (below_step (bl HB) hb)
         clear HB 
         have HB := n0_
         clear n0_ 
         clear hb hbox hg)
      | (go_at_call 102; refine (cut_calls _ (by have := HS.out; omega) _ (Env.below HE.out.e (bl HB))).mono ?_; rintro e w2 ⟨fl, rfl, hb⟩
         have n0_ := Aside0.mk (below_step (bl HB) hb)
         have m0_ := bkB BK2 hb
         clear HB BK2
         have HB := n0_
         have BK2 := m0_
         clear n0_ m0_
         clear hb)
      | (go_at_call 110; (with_reducible refine (atoi_ok (cutW s).1 (by have := HS.out; have := HZ.out; omega) x HA.out _ (Env.below HE.out.e (bl HB))).mono ?_); rintro e w3 ⟨rfl, hb⟩
         have n0_ := Aside0.mk (below_step (bl HB) hb)
         have m0_ := bkB BK2 hb
         clear HB BK2
         have HB := n0_
         have BK2 := m0_
         clear n0_ m0_
         clear hb)
      | (go_at_call 110; (with_reducible refine (atoi_no (cutW s).2 (by have := HS.out; have := HZ.out; omega) HA2.out _ (Env.below HE.out.e (bl HB))).mono ?_); rintro e w4 ⟨v2, t2, p2, rfl, hb⟩
         have n0_ := Aside0.mk (below_step (bl HB) hb)
         have m0_ := bkB BK2 hb
         clear HB BK2
         have HB := n0_
         have BK2 := m0_
         clear n0_ m0_
         clear hb)
      | ((with_reducible refine gate_dst (N := 11) rfl ?_)
         refine box_event ?hg (N := 11) ?hd (cs := #[.int .i64 0, .int .i64 0]) (t := 34) ?hr ?_
         (case hd => rfl)
         (case hg => rfl)
         (case hr => first | (go_simp; done) | (go_simp; rfl))
         intro g11 hg w5 hbox hb
         have GE11 : Aside0 (w.heap.size ≤ g11) := ⟨by rw [hg]; exact below_size (bl HB)⟩
         have NE : Aside0 (g2 ≠ g11) := ⟨by rw [hg]; have := bkL BK2; omega⟩
         have BK11 := Aside0.mk hbox
         have zc0 := (blk_cell BK11.out 0).trans rfl
         have zf0 := blk_frozen BK11.out 0
         have zc1 := (blk_cell BK11.out 1).trans rfl
         have zf1 := blk_frozen BK11.out 1
         have n0_ := Aside0.mk (below_step (bl HB) hb)
         have m0_ := bkB BK2 hb
         clear HB BK2
         have HB := n0_
         have BK2 := m0_
         clear n0_ m0_
         clear hb hbox hg))
  have hp := put2 BK11.out (.int .i64 x) (.int .i64 v2) rfl
  have kb := Aside0.mk (hp.2.2 w GE11.out HB.out)
  have k2 := (hp.2.1 _ NE.out).trans BK2.out
  have he2 := herr _ kb.out
  clear herr
  generalize (w5.setCell ⟨g11, 0, none⟩ (.int .i64 x)).setCell ⟨g11, 1, none⟩ (.int .i64 v2) = X at kb k2 he2 ⊢
  have KB := Aside0.mk (blk_drew k2)
  have hne : g2 ≠ 0 := by have := GE2.out; have := HLT.out; omega
  have hne' := hne.symm
  have xc0 := (blk_cell k2 0).trans rfl
  have xc1 := (blk_cell k2 1).trans rfl
  have xf0 := blk_frozen k2 0
  have xf1 := blk_frozen k2 1
  clear k2
  go_region
  all_goals go_wp2
  all_goals
    have hq := put2 KB.out (.int .i64 0) (.int .i64 0) rfl
    refine bodyPost_ret (results_ct rfl _ _ g2 34 #[.int .i64 0, .int .i64 0] (0, 0) _ rfl hq.1 Tryz.underlying34 rfl (by kernel_rfl)) rfl ?_
    exact ⟨_, _, rfl, hq.2.2 w GE2.out (below_drew1 kb.out)⟩
set_option maxHeartbeats 8000000 in
set_option maxRecDepth 100000 in
theorem readEnd_noC (s : ByteArray) (hs : s.size ≤ 4000000000) (x y : Int) (ha : atoiO (cutW s).1 = some x) (ha2 : atoiO (cutW s).2 = some y) (hq : etext x y ≠ s) (w : World) (hE : EnvE w) :
    Calls Tryz.prog 83 #[.string s] w fun e w' => ∃ t p, e = .returned (.tuple #[.agg #[.int .i64 0, .int .i64 0], .iface t p]) ∧ Below w.heap.size w w' := by
  obtain ⟨te, pe, he⟩ := hE.err
  have herr : ∀ w' : World, Below w.heap.size w w' → w'.cell? ⟨0, 0, none⟩ = some (.iface te pe) := fun w' b => cell_below he b
  have HLT := Aside0.mk (cell_lt he)
  clear he
  have HS := Aside0.mk hs
  have HE := Aside0.mk hE
  have HZ := Aside0.mk (cutW_size s)
  have HB := Aside0.mk (Below.refl w.heap.size w)
  have hu := Tryz.underlying34
  have HA := Aside0.mk ha
  have HA2 := Aside0.mk ha2
  obtain ⟨T, hT⟩ : ∃ T, etext x y = T := ⟨_, rfl⟩
  have HT := Aside0.mk (show impl_EndText.f x y = some T from hT ▸ EndText_f x y)
  rw [hT] at hq
  clear hT ha ha2
  have hq1 : (T.toList == s.toList) = false := beq_eq_false_iff_ne.mpr (fun e => hq (toList_inj e))
  have hq2 : (T.toList != s.toList) = true := by rw [bne, hq1]; rfl
  clear hq
  clear hs hE
  go_enter Tryz.func83, Tryz.ntmps83
  go_wp2_with (first
      | ((with_reducible refine gate_dst (N := 2) rfl ?_)
         refine box_event ?hg (N := 2) ?hd (cs := #[.int .i64 0, .int .i64 0]) (t := 34) ?hr ?_
         (case hd => rfl)
         (case hg => rfl)
         (case hr => first | (go_simp; done) | (go_simp; rfl))
         intro g2 hg w1 hbox hb
         have GE2 : Aside0 (w.heap.size ≤ g2) := ⟨by rw [hg]; exact below_size (bl HB)⟩
         have BK2 := Aside0.mk hbox
         have n0_ := Aside0.mk (below_step (bl HB) hb)
         clear HB 
         have HB := n0_
         clear n0_ 
         clear hb hbox hg)
      | (go_at_call 102; refine (cut_calls _ (by have := HS.out; omega) _ (Env.below HE.out.e (bl HB))).mono ?_; rintro e w2 ⟨fl, rfl, hb⟩
         have n0_ := Aside0.mk (below_step (bl HB) hb)
         have m0_ := bkB BK2 hb
         clear HB BK2
         have HB := n0_
         have BK2 := m0_
         clear n0_ m0_
         clear hb)
      | (go_at_call 110; (with_reducible refine (atoi_ok (cutW s).1 (by have := HS.out; have := HZ.out; omega) x HA.out _ (Env.below HE.out.e (bl HB))).mono ?_); rintro e w3 ⟨rfl, hb⟩
         have n0_ := Aside0.mk (below_step (bl HB) hb)
         have m0_ := bkB BK2 hb
         clear HB BK2
         have HB := n0_
         have BK2 := m0_
         clear n0_ m0_
         clear hb)
      | (go_at_call 110; (with_reducible refine (atoi_ok (cutW s).2 (by have := HS.out; have := HZ.out; omega) y HA2.out _ (Env.below HE.out.e (bl HB))).mono ?_); rintro e w4 ⟨rfl, hb⟩
         have n0_ := Aside0.mk (below_step (bl HB) hb)
         have m0_ := bkB BK2 hb
         clear HB BK2
         have HB := n0_
         have BK2 := m0_
         clear n0_ m0_
         clear hb)
      | ((with_reducible refine gate_dst (N := 11) rfl ?_)
         refine box_event ?hg (N := 11) ?hd (cs := #[.int .i64 0, .int .i64 0]) (t := 34) ?hr ?_
         (case hd => rfl)
         (case hg => rfl)
         (case hr => first | (go_simp; done) | (go_simp; rfl))
         intro g11 hg w5 hbox hb
         have GE11 : Aside0 (w.heap.size ≤ g11) := ⟨by rw [hg]; exact below_size (bl HB)⟩
         have NE : Aside0 (g2 ≠ g11) := ⟨by rw [hg]; have := bkL BK2; omega⟩
         have BK11 := Aside0.mk hbox
         have zc0 := (blk_cell BK11.out 0).trans rfl
         have zf0 := blk_frozen BK11.out 0
         have zc1 := (blk_cell BK11.out 1).trans rfl
         have zf1 := blk_frozen BK11.out 1
         have n0_ := Aside0.mk (below_step (bl HB) hb)
         have m0_ := bkB BK2 hb
         clear HB BK2
         have HB := n0_
         have BK2 := m0_
         clear n0_ m0_
         clear hb hbox hg)
      | (go_at_call 57; have hp := put2 BK11.out (.int .i64 x) (.int .i64 y) rfl; refine (impl_EndText.calls _ _ T _ HT.out (EnvT.below HE.out.e.t (hp.2.2 w GE11.out HB.out))).mono ?_; rintro e w6 ⟨rfl, hb⟩
         have n0_ := Aside0.mk (below_step (hp.2.2 w GE11.out HB.out) hb)
         have m0_ := Aside0.mk (blk_below ((hp.2.1 _ NE.out).trans BK2.out) hb)
         have m1_ := Aside0.mk (blk_below hp.1 hb)
         clear HB BK2 BK11 hp hb zc0 zf0 zc1 zf1
         have HB := n0_
         have BK2 := m0_
         have BK11 := m1_
         clear n0_ m0_ m1_))
  have kb := HB
  have k2 := BK2.out
  have he2 := herr _ kb.out
  clear herr
  generalize w6 = X at kb k2 he2 ⊢
  have KB := Aside0.mk (blk_drew k2)
  have hne : g2 ≠ 0 := by have := GE2.out; have := HLT.out; omega
  have hne' := hne.symm
  have xc0 := (blk_cell k2 0).trans rfl
  have xc1 := (blk_cell k2 1).trans rfl
  have xf0 := blk_frozen k2 0
  have xf1 := blk_frozen k2 1
  clear k2
  go_region
  all_goals go_wp2
  all_goals
    have hq := put2 KB.out (.int .i64 0) (.int .i64 0) rfl
    refine bodyPost_ret (results_ct rfl _ _ g2 34 #[.int .i64 0, .int .i64 0] (0, 0) _ rfl hq.1 Tryz.underlying34 rfl (by kernel_rfl)) rfl ?_
    exact ⟨_, _, rfl, hq.2.2 w GE2.out (below_drew1 kb.out)⟩
set_option maxHeartbeats 8000000 in
set_option maxRecDepth 100000 in
theorem readEnd_ok (s : ByteArray) (hs : s.size ≤ 4000000000) (x y : Int) (ha : atoiO (cutW s).1 = some x) (ha2 : atoiO (cutW s).2 = some y) (hq : etext x y = s) (w : World) (hE : EnvE w) :
    Calls Tryz.prog 83 #[.string s] w fun e w' => e = .returned (.tuple #[.agg #[.int .i64 x, .int .i64 y], .nilIface]) ∧ Below w.heap.size w w' := by
  obtain ⟨te, pe, he⟩ := hE.err
  have herr : ∀ w' : World, Below w.heap.size w w' → w'.cell? ⟨0, 0, none⟩ = some (.iface te pe) := fun w' b => cell_below he b
  have HLT := Aside0.mk (cell_lt he)
  clear he
  have HS := Aside0.mk hs
  have HE := Aside0.mk hE
  have HZ := Aside0.mk (cutW_size s)
  have HB := Aside0.mk (Below.refl w.heap.size w)
  have hu := Tryz.underlying34
  have HA := Aside0.mk ha
  have HA2 := Aside0.mk ha2
  obtain ⟨T, hT⟩ : ∃ T, etext x y = T := ⟨_, rfl⟩
  have HT := Aside0.mk (show impl_EndText.f x y = some T from hT ▸ EndText_f x y)
  rw [hT] at hq
  clear hT ha ha2
  have hq1 : (T.toList == s.toList) = true := by rw [hq]; exact beq_self_eq_true _
  have hq2 : (T.toList != s.toList) = false := by rw [bne, hq1]; rfl
  clear hq
  clear hs hE
  go_enter Tryz.func83, Tryz.ntmps83
  go_wp2_with (first
      | ((with_reducible refine gate_dst (N := 2) rfl ?_)
         refine box_event ?hg (N := 2) ?hd (cs := #[.int .i64 0, .int .i64 0]) (t := 34) ?hr ?_
         (case hd => rfl)
         (case hg => rfl)
         (case hr => first | (go_simp; done) | (go_simp; rfl))
         intro g2 hg w1 hbox hb
         have GE2 : Aside0 (w.heap.size ≤ g2) := ⟨by rw [hg]; exact below_size (bl HB)⟩
         have BK2 := Aside0.mk hbox
         have n0_ := Aside0.mk (below_step (bl HB) hb)
         clear HB 
         have HB := n0_
         clear n0_ 
         clear hb hbox hg)
      | (go_at_call 102; refine (cut_calls _ (by have := HS.out; omega) _ (Env.below HE.out.e (bl HB))).mono ?_; rintro e w2 ⟨fl, rfl, hb⟩
         have n0_ := Aside0.mk (below_step (bl HB) hb)
         have m0_ := bkB BK2 hb
         clear HB BK2
         have HB := n0_
         have BK2 := m0_
         clear n0_ m0_
         clear hb)
      | (go_at_call 110; (with_reducible refine (atoi_ok (cutW s).1 (by have := HS.out; have := HZ.out; omega) x HA.out _ (Env.below HE.out.e (bl HB))).mono ?_); rintro e w3 ⟨rfl, hb⟩
         have n0_ := Aside0.mk (below_step (bl HB) hb)
         have m0_ := bkB BK2 hb
         clear HB BK2
         have HB := n0_
         have BK2 := m0_
         clear n0_ m0_
         clear hb)
      | (go_at_call 110; (with_reducible refine (atoi_ok (cutW s).2 (by have := HS.out; have := HZ.out; omega) y HA2.out _ (Env.below HE.out.e (bl HB))).mono ?_); rintro e w4 ⟨rfl, hb⟩
         have n0_ := Aside0.mk (below_step (bl HB) hb)
         have m0_ := bkB BK2 hb
         clear HB BK2
         have HB := n0_
         have BK2 := m0_
         clear n0_ m0_
         clear hb)
      | ((with_reducible refine gate_dst (N := 11) rfl ?_)
         refine box_event ?hg (N := 11) ?hd (cs := #[.int .i64 0, .int .i64 0]) (t := 34) ?hr ?_
         (case hd => rfl)
         (case hg => rfl)
         (case hr => first | (go_simp; done) | (go_simp; rfl))
         intro g11 hg w5 hbox hb
         have GE11 : Aside0 (w.heap.size ≤ g11) := ⟨by rw [hg]; exact below_size (bl HB)⟩
         have NE : Aside0 (g2 ≠ g11) := ⟨by rw [hg]; have := bkL BK2; omega⟩
         have BK11 := Aside0.mk hbox
         have zc0 := (blk_cell BK11.out 0).trans rfl
         have zf0 := blk_frozen BK11.out 0
         have zc1 := (blk_cell BK11.out 1).trans rfl
         have zf1 := blk_frozen BK11.out 1
         have n0_ := Aside0.mk (below_step (bl HB) hb)
         have m0_ := bkB BK2 hb
         clear HB BK2
         have HB := n0_
         have BK2 := m0_
         clear n0_ m0_
         clear hb hbox hg)
      | (go_at_call 57; have hp := put2 BK11.out (.int .i64 x) (.int .i64 y) rfl; refine (impl_EndText.calls _ _ T _ HT.out (EnvT.below HE.out.e.t (hp.2.2 w GE11.out HB.out))).mono ?_; rintro e w6 ⟨rfl, hb⟩
         have n0_ := Aside0.mk (below_step (hp.2.2 w GE11.out HB.out) hb)
         have m0_ := Aside0.mk (blk_below ((hp.2.1 _ NE.out).trans BK2.out) hb)
         have m1_ := Aside0.mk (blk_below hp.1 hb)
         clear HB BK2 BK11 hp hb zc0 zf0 zc1 zf1
         have HB := n0_
         have BK2 := m0_
         have BK11 := m1_
         clear n0_ m0_ m1_
         have xc0 := (blk_cell BK2.out 0).trans rfl
         have xf0 := blk_frozen BK2.out 0
         have xc1 := (blk_cell BK2.out 1).trans rfl
         have xf1 := blk_frozen BK2.out 1
         have yc0 := (blk_cell BK11.out 0).trans rfl
         have yf0 := blk_frozen BK11.out 0
         have yc1 := (blk_cell BK11.out 1).trans rfl
         have yf1 := blk_frozen BK11.out 1))
  have hq := put2 BK2.out (.int .i64 x) (.int .i64 y) rfl
  refine bodyPost_ret (results_ct rfl _ _ g2 34 #[.int .i64 x, .int .i64 y] (0, 0) _ rfl hq.1 Tryz.underlying34 rfl (by kernel_rfl)) rfl ?_
  exact ⟨rfl, hq.2.2 w GE2.out HB.out⟩
theorem readEnd_some (s : ByteArray) (hs : s.size ≤ 4000000000) (x y : Int) (h : readEndW s = some (x, y)) (w : World) (hE : EnvE w) :
    Calls Tryz.prog 83 #[.string s] w fun e w' => e = .returned (.tuple #[.agg #[.int .i64 x, .int .i64 y], .nilIface]) ∧ Below w.heap.size w w' := by
  unfold readEndW at h
  simp only [Option.bind_eq_some_iff] at h
  obtain ⟨x', h1, y', h2, h3⟩ := h
  by_cases ht : etext x' y' = s
  · rw [if_pos ht] at h3
    cases h3
    exact readEnd_ok s hs x y h1 h2 ht w hE
  · rw [if_neg ht] at h3; cases h3
theorem readEnd_none (s : ByteArray) (hs : s.size ≤ 4000000000) (h : readEndW s = none) (w : World) (hE : EnvE w) :
    Calls Tryz.prog 83 #[.string s] w fun e w' => ∃ t p, e = .returned (.tuple #[.agg #[.int .i64 0, .int .i64 0], .iface t p]) ∧ Below w.heap.size w w' := by
  cases h1 : atoiO (cutW s).1 with
  | none => exact readEnd_noA s hs h1 w hE
  | some x =>
    cases h2 : atoiO (cutW s).2 with
    | none => exact readEnd_noB s hs x h1 h2 w hE
    | some y =>
      refine readEnd_noC s hs x y h1 h2 (fun e => ?_) w hE
      unfold readEndW at h
      rw [h1, h2] at h
      simp only [Option.bind_some] at h
      rw [if_pos e] at h
      cases h
theorem trim_size (s : ByteArray) : (trimW s).size ≤ s.size := by
  have hl : s.data.toList.length = s.size := by rw [Array.length_toList]; rfl
  unfold trimW Lib.trimPrefix
  show (List.toArray _).size ≤ s.size
  rw [List.size_toArray]
  split
  · rw [List.length_drop]; omega
  · omega
theorem prefix_calls (s : ByteArray) (w : World) :
    Calls Tryz.prog 82 #[.string s, .string (⟨#[112, 111, 114, 116, 32]⟩ : ByteArray)] w fun e w' => e = .returned (.tuple #[.string (trimW s), .bool (Lib.hasPrefix s.data.toList portL)]) ∧ w' = w := Tryz.strings_CutPrefix s _ w
def impl_said.f (s : ByteArray) : Option (Int × Int × Bool) := if s.size ≤ 4000000000 then some (saidW s) else none
set_option maxHeartbeats 8000000 in
set_option maxRecDepth 100000 in
theorem said_some_true (s : ByteArray) (hs : s.size ≤ 4000000000) (x y : Int) (ha : readEndW (trimW s) = some (x, y)) (hp0 : Lib.hasPrefix s.data.toList portL = true) (w : World) (hE : EnvE w) :
    Calls Tryz.prog 51 #[.string s] w fun e w' => e = .returned (.tuple #[.agg #[.int .i64 x, .int .i64 y], .bool true]) ∧ Below w.heap.size w w' := by
  have HS := Aside0.mk hs
  have HE := Aside0.mk hE
  have HA := Aside0.mk ha
  have HZ := Aside0.mk (trim_size s)
  have HP := Aside0.mk hp0
  have HB := Aside0.mk (Below.refl w.heap.size w)
  have hu := Tryz.underlying34
  clear hs hE ha hp0
  go_enter Tryz.func51, Tryz.ntmps51
  go_wp2_with (first
      | ((with_reducible refine gate_dst (N := 2) rfl ?_)
         refine box_event ?hg (N := 2) ?hd (cs := #[.int .i64 0, .int .i64 0]) (t := 34) ?hr ?_
         (case hd => rfl)
         (case hg => rfl)
         (case hr => first | (go_simp; done) | (go_simp; rfl))
         intro g2 hg w1 hbox hb
         have GE2 : Aside0 (w.heap.size ≤ g2) := ⟨by rw [hg]; exact below_size (bl HB)⟩
         have BK2 := Aside0.mk hbox
         have n0_ := Aside0.mk (below_step (bl HB) hb)
         clear HB 
         have HB := n0_
         clear n0_ 
         clear hb hbox hg)
      | (go_at_call 82; refine (prefix_calls s _).mono ?_; rw [HP.out]; rintro e w2 ⟨rfl, rfl⟩)
      | (go_at_call 83; refine (readEnd_some (trimW s) (by have := HS.out; have := HZ.out; omega) x y HA.out _ (EnvE.below HE.out (bl HB))).mono ?_; rintro e w4 ⟨rfl, hb⟩
         have n0_ := Aside0.mk (below_step (bl HB) hb)
         have m0_ := bkB BK2 hb
         clear HB BK2
         have HB := n0_
         have BK2 := m0_
         clear n0_ m0_
         clear hb)
      | ((with_reducible refine gate_dst (N := 6) rfl ?_)
         refine box_event ?hg (N := 6) ?hd (cs := #[.int .i64 0, .int .i64 0]) (t := 34) ?hr ?_
         (case hd => rfl)
         (case hg => rfl)
         (case hr => first | (go_simp; done) | (go_simp; rfl))
         intro g6 hg w5 hbox hb
         have GE6 : Aside0 (w.heap.size ≤ g6) := ⟨by rw [hg]; exact below_size (bl HB)⟩
         have NE : Aside0 (g2 ≠ g6) := ⟨by rw [hg]; have := bkL BK2; omega⟩
         have BK6 := Aside0.mk hbox
         have zc0 := (blk_cell BK6.out 0).trans rfl
         have zf0 := blk_frozen BK6.out 0
         have zc1 := (blk_cell BK6.out 1).trans rfl
         have zf1 := blk_frozen BK6.out 1
         have n0_ := Aside0.mk (below_step (bl HB) hb)
         have m0_ := bkB BK2 hb
         clear HB BK2
         have HB := n0_
         have BK2 := m0_
         clear n0_ m0_
         clear hb hbox hg))
  have hp := put2 BK6.out (.int .i64 x) (.int .i64 y) rfl
  have kb := Aside0.mk (hp.2.2 w GE6.out HB.out)
  have k2 := (hp.2.1 _ NE.out).trans BK2.out
  have k6 := hp.1
  generalize (w5.setCell ⟨g6, 0, none⟩ (.int .i64 x)).setCell ⟨g6, 1, none⟩ (.int .i64 y) = X at kb k2 k6 ⊢
  clear hp zc0 zc1 zf0 zf1
  have KB := Aside0.mk (blk_drew k2)
  have hne := NE.out
  have hne' := NE.out.symm
  have xc0 := (blk_cell k2 0).trans rfl
  have xc1 := (blk_cell k2 1).trans rfl
  have xf0 := blk_frozen k2 0
  have xf1 := blk_frozen k2 1
  have yc0 := (blk_cell k6 0).trans rfl
  have yc1 := (blk_cell k6 1).trans rfl
  clear k2 k6
  go_region
  all_goals go_wp2
  all_goals
    have hq := put2 KB.out (.int .i64 x) (.int .i64 y) rfl
    refine bodyPost_ret (results_ct rfl _ _ g2 34 #[.int .i64 x, .int .i64 y] (0, 0) _ rfl hq.1 Tryz.underlying34 rfl (by kernel_rfl)) rfl ?_
    exact ⟨rfl, hq.2.2 w GE2.out (below_drew1 kb.out)⟩
set_option maxHeartbeats 8000000 in
set_option maxRecDepth 100000 in
theorem said_none_true (s : ByteArray) (hs : s.size ≤ 4000000000) (ha : readEndW (trimW s) = none) (hp0 : Lib.hasPrefix s.data.toList portL = true) (w : World) (hE : EnvE w) :
    Calls Tryz.prog 51 #[.string s] w fun e w' => e = .returned (.tuple #[.agg #[.int .i64 0, .int .i64 0], .bool false]) ∧ Below w.heap.size w w' := by
  have HS := Aside0.mk hs
  have HE := Aside0.mk hE
  have HA := Aside0.mk ha
  have HZ := Aside0.mk (trim_size s)
  have HP := Aside0.mk hp0
  have HB := Aside0.mk (Below.refl w.heap.size w)
  have hu := Tryz.underlying34
  clear hs hE ha hp0
  go_enter Tryz.func51, Tryz.ntmps51
  go_wp2_with (first
      | ((with_reducible refine gate_dst (N := 2) rfl ?_)
         refine box_event ?hg (N := 2) ?hd (cs := #[.int .i64 0, .int .i64 0]) (t := 34) ?hr ?_
         (case hd => rfl)
         (case hg => rfl)
         (case hr => first | (go_simp; done) | (go_simp; rfl))
         intro g2 hg w1 hbox hb
         have GE2 : Aside0 (w.heap.size ≤ g2) := ⟨by rw [hg]; exact below_size (bl HB)⟩
         have BK2 := Aside0.mk hbox
         have n0_ := Aside0.mk (below_step (bl HB) hb)
         clear HB 
         have HB := n0_
         clear n0_ 
         clear hb hbox hg)
      | (go_at_call 82; refine (prefix_calls s _).mono ?_; rw [HP.out]; rintro e w2 ⟨rfl, rfl⟩)
      | (go_at_call 83; refine (readEnd_none (trimW s) (by have := HS.out; have := HZ.out; omega) HA.out _ (EnvE.below HE.out (bl HB))).mono ?_; rintro e w4 ⟨t1, p1, rfl, hb⟩
         have n0_ := Aside0.mk (below_step (bl HB) hb)
         have m0_ := bkB BK2 hb
         clear HB BK2
         have HB := n0_
         have BK2 := m0_
         clear n0_ m0_
         clear hb)
      | ((with_reducible refine gate_dst (N := 6) rfl ?_)
         refine box_event ?hg (N := 6) ?hd (cs := #[.int .i64 0, .int .i64 0]) (t := 34) ?hr ?_
         (case hd => rfl)
         (case hg => rfl)
         (case hr => first | (go_simp; done) | (go_simp; rfl))
         intro g6 hg w5 hbox hb
         have GE6 : Aside0 (w.heap.size ≤ g6) := ⟨by rw [hg]; exact below_size (bl HB)⟩
         have NE : Aside0 (g2 ≠ g6) := ⟨by rw [hg]; have := bkL BK2; omega⟩
         have BK6 := Aside0.mk hbox
         have zc0 := (blk_cell BK6.out 0).trans rfl
         have zf0 := blk_frozen BK6.out 0
         have zc1 := (blk_cell BK6.out 1).trans rfl
         have zf1 := blk_frozen BK6.out 1
         have n0_ := Aside0.mk (below_step (bl HB) hb)
         have m0_ := bkB BK2 hb
         clear HB BK2
         have HB := n0_
         have BK2 := m0_
         clear n0_ m0_
         clear hb hbox hg))
  have hp := put2 BK6.out (.int .i64 0) (.int .i64 0) rfl
  have kb := Aside0.mk (hp.2.2 w GE6.out HB.out)
  have k2 := (hp.2.1 _ NE.out).trans BK2.out
  have k6 := hp.1
  generalize (w5.setCell ⟨g6, 0, none⟩ (.int .i64 0)).setCell ⟨g6, 1, none⟩ (.int .i64 0) = X at kb k2 k6 ⊢
  clear hp zc0 zc1 zf0 zf1
  have KB := Aside0.mk (blk_drew k2)
  have hne := NE.out
  have hne' := NE.out.symm
  have xc0 := (blk_cell k2 0).trans rfl
  have xc1 := (blk_cell k2 1).trans rfl
  have xf0 := blk_frozen k2 0
  have xf1 := blk_frozen k2 1
  have yc0 := (blk_cell k6 0).trans rfl
  have yc1 := (blk_cell k6 1).trans rfl
  clear k2 k6
  go_region
  all_goals go_wp2
  all_goals
    have hq := put2 KB.out (.int .i64 0) (.int .i64 0) rfl
    refine bodyPost_ret (results_ct rfl _ _ g2 34 #[.int .i64 0, .int .i64 0] (0, 0) _ rfl hq.1 Tryz.underlying34 rfl (by kernel_rfl)) rfl ?_
    exact ⟨rfl, hq.2.2 w GE2.out (below_drew1 kb.out)⟩
set_option maxHeartbeats 8000000 in
set_option maxRecDepth 100000 in
theorem said_some_false (s : ByteArray) (hs : s.size ≤ 4000000000) (x y : Int) (ha : readEndW (trimW s) = some (x, y)) (hp0 : Lib.hasPrefix s.data.toList portL = false) (w : World) (hE : EnvE w) :
    Calls Tryz.prog 51 #[.string s] w fun e w' => e = .returned (.tuple #[.agg #[.int .i64 x, .int .i64 y], .bool false]) ∧ Below w.heap.size w w' := by
  have HS := Aside0.mk hs
  have HE := Aside0.mk hE
  have HA := Aside0.mk ha
  have HZ := Aside0.mk (trim_size s)
  have HP := Aside0.mk hp0
  have HB := Aside0.mk (Below.refl w.heap.size w)
  have hu := Tryz.underlying34
  clear hs hE ha hp0
  go_enter Tryz.func51, Tryz.ntmps51
  go_wp2_with (first
      | ((with_reducible refine gate_dst (N := 2) rfl ?_)
         refine box_event ?hg (N := 2) ?hd (cs := #[.int .i64 0, .int .i64 0]) (t := 34) ?hr ?_
         (case hd => rfl)
         (case hg => rfl)
         (case hr => first | (go_simp; done) | (go_simp; rfl))
         intro g2 hg w1 hbox hb
         have GE2 : Aside0 (w.heap.size ≤ g2) := ⟨by rw [hg]; exact below_size (bl HB)⟩
         have BK2 := Aside0.mk hbox
         have n0_ := Aside0.mk (below_step (bl HB) hb)
         clear HB 
         have HB := n0_
         clear n0_ 
         clear hb hbox hg)
      | (go_at_call 82; refine (prefix_calls s _).mono ?_; rw [HP.out]; rintro e w2 ⟨rfl, rfl⟩)
      | (go_at_call 83; refine (readEnd_some (trimW s) (by have := HS.out; have := HZ.out; omega) x y HA.out _ (EnvE.below HE.out (bl HB))).mono ?_; rintro e w4 ⟨rfl, hb⟩
         have n0_ := Aside0.mk (below_step (bl HB) hb)
         have m0_ := bkB BK2 hb
         clear HB BK2
         have HB := n0_
         have BK2 := m0_
         clear n0_ m0_
         clear hb)
      | ((with_reducible refine gate_dst (N := 6) rfl ?_)
         refine box_event ?hg (N := 6) ?hd (cs := #[.int .i64 0, .int .i64 0]) (t := 34) ?hr ?_
         (case hd => rfl)
         (case hg => rfl)
         (case hr => first | (go_simp; done) | (go_simp; rfl))
         intro g6 hg w5 hbox hb
         have GE6 : Aside0 (w.heap.size ≤ g6) := ⟨by rw [hg]; exact below_size (bl HB)⟩
         have NE : Aside0 (g2 ≠ g6) := ⟨by rw [hg]; have := bkL BK2; omega⟩
         have BK6 := Aside0.mk hbox
         have zc0 := (blk_cell BK6.out 0).trans rfl
         have zf0 := blk_frozen BK6.out 0
         have zc1 := (blk_cell BK6.out 1).trans rfl
         have zf1 := blk_frozen BK6.out 1
         have n0_ := Aside0.mk (below_step (bl HB) hb)
         have m0_ := bkB BK2 hb
         clear HB BK2
         have HB := n0_
         have BK2 := m0_
         clear n0_ m0_
         clear hb hbox hg))
  have hp := put2 BK6.out (.int .i64 x) (.int .i64 y) rfl
  have kb := Aside0.mk (hp.2.2 w GE6.out HB.out)
  have k2 := (hp.2.1 _ NE.out).trans BK2.out
  have k6 := hp.1
  generalize (w5.setCell ⟨g6, 0, none⟩ (.int .i64 x)).setCell ⟨g6, 1, none⟩ (.int .i64 y) = X at kb k2 k6 ⊢
  clear hp zc0 zc1 zf0 zf1
  have KB := Aside0.mk (blk_drew k2)
  have hne := NE.out
  have hne' := NE.out.symm
  have xc0 := (blk_cell k2 0).trans rfl
  have xc1 := (blk_cell k2 1).trans rfl
  have xf0 := blk_frozen k2 0
  have xf1 := blk_frozen k2 1
  have yc0 := (blk_cell k6 0).trans rfl
  have yc1 := (blk_cell k6 1).trans rfl
  clear k2 k6
  go_region
  all_goals go_wp2
  all_goals
    have hq := put2 KB.out (.int .i64 x) (.int .i64 y) rfl
    refine bodyPost_ret (results_ct rfl _ _ g2 34 #[.int .i64 x, .int .i64 y] (0, 0) _ rfl hq.1 Tryz.underlying34 rfl (by kernel_rfl)) rfl ?_
    exact ⟨rfl, hq.2.2 w GE2.out (below_drew1 kb.out)⟩
set_option maxHeartbeats 8000000 in
set_option maxRecDepth 100000 in
theorem said_none_false (s : ByteArray) (hs : s.size ≤ 4000000000) (ha : readEndW (trimW s) = none) (hp0 : Lib.hasPrefix s.data.toList portL = false) (w : World) (hE : EnvE w) :
    Calls Tryz.prog 51 #[.string s] w fun e w' => e = .returned (.tuple #[.agg #[.int .i64 0, .int .i64 0], .bool false]) ∧ Below w.heap.size w w' := by
  have HS := Aside0.mk hs
  have HE := Aside0.mk hE
  have HA := Aside0.mk ha
  have HZ := Aside0.mk (trim_size s)
  have HP := Aside0.mk hp0
  have HB := Aside0.mk (Below.refl w.heap.size w)
  have hu := Tryz.underlying34
  clear hs hE ha hp0
  go_enter Tryz.func51, Tryz.ntmps51
  go_wp2_with (first
      | ((with_reducible refine gate_dst (N := 2) rfl ?_)
         refine box_event ?hg (N := 2) ?hd (cs := #[.int .i64 0, .int .i64 0]) (t := 34) ?hr ?_
         (case hd => rfl)
         (case hg => rfl)
         (case hr => first | (go_simp; done) | (go_simp; rfl))
         intro g2 hg w1 hbox hb
         have GE2 : Aside0 (w.heap.size ≤ g2) := ⟨by rw [hg]; exact below_size (bl HB)⟩
         have BK2 := Aside0.mk hbox
         have n0_ := Aside0.mk (below_step (bl HB) hb)
         clear HB 
         have HB := n0_
         clear n0_ 
         clear hb hbox hg)
      | (go_at_call 82; refine (prefix_calls s _).mono ?_; rw [HP.out]; rintro e w2 ⟨rfl, rfl⟩)
      | (go_at_call 83; refine (readEnd_none (trimW s) (by have := HS.out; have := HZ.out; omega) HA.out _ (EnvE.below HE.out (bl HB))).mono ?_; rintro e w4 ⟨t1, p1, rfl, hb⟩
         have n0_ := Aside0.mk (below_step (bl HB) hb)
         have m0_ := bkB BK2 hb
         clear HB BK2
         have HB := n0_
         have BK2 := m0_
         clear n0_ m0_
         clear hb)
      | ((with_reducible refine gate_dst (N := 6) rfl ?_)
         refine box_event ?hg (N := 6) ?hd (cs := #[.int .i64 0, .int .i64 0]) (t := 34) ?hr ?_
         (case hd => rfl)
         (case hg => rfl)
         (case hr => first | (go_simp; done) | (go_simp; rfl))
         intro g6 hg w5 hbox hb
         have GE6 : Aside0 (w.heap.size ≤ g6) := ⟨by rw [hg]; exact below_size (bl HB)⟩
         have NE : Aside0 (g2 ≠ g6) := ⟨by rw [hg]; have := bkL BK2; omega⟩
         have BK6 := Aside0.mk hbox
         have zc0 := (blk_cell BK6.out 0).trans rfl
         have zf0 := blk_frozen BK6.out 0
         have zc1 := (blk_cell BK6.out 1).trans rfl
         have zf1 := blk_frozen BK6.out 1
         have n0_ := Aside0.mk (below_step (bl HB) hb)
         have m0_ := bkB BK2 hb
         clear HB BK2
         have HB := n0_
         have BK2 := m0_
         clear n0_ m0_
         clear hb hbox hg))
  have hp := put2 BK6.out (.int .i64 0) (.int .i64 0) rfl
  have kb := Aside0.mk (hp.2.2 w GE6.out HB.out)
  have k2 := (hp.2.1 _ NE.out).trans BK2.out
  have k6 := hp.1
  generalize (w5.setCell ⟨g6, 0, none⟩ (.int .i64 0)).setCell ⟨g6, 1, none⟩ (.int .i64 0) = X at kb k2 k6 ⊢
  clear hp zc0 zc1 zf0 zf1
  have KB := Aside0.mk (blk_drew k2)
  have hne := NE.out
  have hne' := NE.out.symm
  have xc0 := (blk_cell k2 0).trans rfl
  have xc1 := (blk_cell k2 1).trans rfl
  have xf0 := blk_frozen k2 0
  have xf1 := blk_frozen k2 1
  have yc0 := (blk_cell k6 0).trans rfl
  have yc1 := (blk_cell k6 1).trans rfl
  clear k2 k6
  go_region
  all_goals go_wp2
  all_goals
    have hq := put2 KB.out (.int .i64 0) (.int .i64 0) rfl
    refine bodyPost_ret (results_ct rfl _ _ g2 34 #[.int .i64 0, .int .i64 0] (0, 0) _ rfl hq.1 Tryz.underlying34 rfl (by kernel_rfl)) rfl ?_
    exact ⟨rfl, hq.2.2 w GE2.out (below_drew1 kb.out)⟩
theorem impl_said.calls (a0 : ByteArray) (r1 : Int) (r2 : Int) (r3 : Bool) (w : World) (h : impl_said.f a0 = some (r1, r2, r3)) (hE : EnvE w) :
    Calls Tryz.prog 51 #[.string a0] w fun e w' => e = .returned (.tuple #[.agg #[.int .i64 r1, .int .i64 r2], .bool r3]) ∧ Below w.heap.size w w' := by
  unfold impl_said.f at h
  by_cases hs : a0.size ≤ 4000000000
  · rw [if_pos hs] at h
    have h := Option.some.inj h
    unfold saidW at h
    cases hr : readEndW (trimW a0) with
    | none =>
      rw [hr] at h
      cases h
      cases hp : Lib.hasPrefix a0.data.toList portL with
      | true => exact said_none_true a0 hs hr hp w hE
      | false => exact said_none_false a0 hs hr hp w hE
    | some r =>
      obtain ⟨x, y⟩ := r
      rw [hr] at h
      cases h
      cases hp : Lib.hasPrefix a0.data.toList portL with
      | true => exact said_some_true a0 hs _ _ hr hp w hE
      | false => exact said_some_false a0 hs _ _ hr hp w hE
  · rw [if_neg hs] at h; cases h
end Go.Proofs.YtffmbccgcaghjaaGreatDoor.P
namespace Go.Proofs.YtffmbccgcaghjaaGreatDoor.P
open Go.RowKit Go.Proofs.YtffmbccgcaghjaaGreatDoorUFnBakRwr.PrintWords Go.Proofs.YtffmbccgcaghjaaGreatDoorUFnBakRwr.PrintLast Go.Proofs.YtffmbccgcaghjaaGreatDoorUFnBakRwr.PrintMore
attribute [local go_sem] max2_int min2_int max_two min_two max_three min_three max_four min_four
set_option linter.unusedVariables false
set_option linter.unusedSimpArgs false
def impl_LinSays.f (a0 : ByteArray) : Option (Int × Int × Bool) := (impl_said.f a0).bind fun bt352 => (if bt352.2.2 = true then ((impl_EndInside.f bt352.1 bt352.2.1).bind fun t356 => (if t356 = true then (some (bt352.1, bt352.2.1, true)) else (some (0, 0, false)))) else (some (0, 0, false)))
set_option maxHeartbeats 8000000 in
set_option maxRecDepth 100000 in
theorem impl_LinSays.calls (a0 : ByteArray) (r1 : Int) (r2 : Int) (r3 : Bool) (w : World) (h : impl_LinSays.f a0 = some (r1, r2, r3)) (hE : EnvE w) :
  Calls Tryz.prog 19 #[.string a0] w fun e w' => e = .returned (.tuple #[.agg #[.int .i64 r1, .int .i64 r2], .bool r3]) ∧ Below w.heap.size w w' := by
 have hu34 := Tryz.underlying34
 have HB := Aside0.mk (Below.refl w.heap.size w)
 have H : ((impl_said.f a0).bind fun bt352 => (if bt352.2.2 = true then ((impl_EndInside.f bt352.1 bt352.2.1).bind fun t356 => (if t356 = true then (some (bt352.1, bt352.2.1, true)) else (some (0, 0, false)))) else (some (0, 0, false)))) = some (r1, r2, r3) := h
 clear h
 replace H := Option.bind_eq_some_iff.mp H
 obtain ⟨⟨t352, t353, t354⟩, A20, H⟩ := H
 try dsimp only at H
 have A2 := Aside0.mk A20
 clear A20
 by_cases c3 : t354 = true
 ·subst c3
  have H1 : ((impl_EndInside.f t352 t353).bind fun t356 => (if t356 = true then (some (t352, t353, true)) else (some (0, 0, false)))) = some (r1, r2, r3) := by rw [if_pos rfl] at H; exact H
  clear H
  have H := H1
  clear H1
  replace H := Option.bind_eq_some_iff.mp H
  obtain ⟨t356, A40, H⟩ := H
  try dsimp only at H
  have A4 := Aside0.mk A40
  clear A40
  by_cases c5 : t356 = true
  ·subst c5
   have H1 : (some (t352, t353, true)) = some (r1, r2, r3) := by rw [if_pos rfl] at H; exact H
   clear H
   have H := H1
   clear H1
   simp only [Option.some.injEq, Prod.mk.injEq] at H
   obtain ⟨rfl, rfl, rfl⟩ := H
   go_enter Tryz.func19, Tryz.ntmps19
   go_wp2_with (first | ((with_reducible refine gate_dst (N := 2) rfl ?_); refine box_event rfl (N := 2) rfl (cs := #[.int .i64 0, .int .i64 0]) (t := 34) hr_ ?_; intro gb351 hg w6 hbox hb; have BK351 := Aside0.mk hbox; have GW351 := gwE HB hg; have GE351 := gwE HB hg; replace HB := hbS HB hb; clear hb hbox hg) | ((with_reducible refine gate_callee (f := 51) rfl ?_); refine gL (some 8) Tryz.func51 #[.string a0] ?_; (with_reducible refine (impl_said.calls a0 t352 t353 true _ A2.out (EnvE.below hE (bl HB))).mono ?_); rintro e w7 ⟨rfl, hb⟩; refine ⟨_, rfl, ?_⟩; replace BK351 := bkB BK351 hb; replace HB := hbS HB hb; (try clear hb)) | ((with_reducible refine gate_dst (N := 4) rfl ?_); refine box_event rfl (N := 4) rfl (cs := #[.int .i64 0, .int .i64 0]) (t := 34) hr_ ?_; intro gb355 hg w8 hbox hb; have BK355 := Aside0.mk hbox; have GW355 := gwE HB hg; have GE355 := gwE HB hg; replace HB := hbS HB hb; have NB351_355 := neL BK351 hg; have NB355_351 := neG BK351 hg; replace BK351 := bkB BK351 hb; clear hb hbox hg; have hnb9 := NB355_351.out; have hnc9 := NB351_355.out; have hcz10_0 := bcell BK355 0; have hcz10_1 := bcell BK355 1; have hfz10_0 := blk_frozen BK355.out 0; have hfz10_1 := blk_frozen BK355.out 1) | (go_at_call 52; (with_reducible refine (impl_EndInside.calls t352 t353 true _ A4.out).mono ?_); rintro e w11 ⟨rfl, hb⟩; replace BK351 := Aside0.mk (blk_below (g := gb351) (o := .cells #[.int .i64 0, .int .i64 0] 34 (0, 0)) (by (with_reducible repeat refine bu ?_); refine blk_far ?_ NB351_355.out _; (with_reducible repeat refine bu ?_); refine blk_far ?_ NB351_355.out _; (with_reducible repeat refine bu ?_); exact BK351.out) hb); replace BK355 := Aside0.mk (blk_below (g := gb355) (o := .cells #[.int .i64 t352, .int .i64 t353] 34 (0, 0)) (by (with_reducible repeat refine bu ?_); refine blk_put (cs := #[.int .i64 t352, .int .i64 0]) ?_ 1 _ rfl; (with_reducible repeat refine bu ?_); refine blk_put (cs := #[.int .i64 0, .int .i64 0]) ?_ 0 _ rfl; (with_reducible repeat refine bu ?_); exact BK355.out) hb); replace HB := hbS HB hb; (try clear hb); have hcz12_0 := bcell BK355 0; have hcz12_1 := bcell BK355 1; have hfz12_0 := blk_frozen BK355.out 0; have hfz12_1 := blk_frozen BK355.out 1; have hcz13_0 := bcell BK351 0; have hcz13_1 := bcell BK351 1; have hfz13_0 := blk_frozen BK351.out 0; have hfz13_1 := blk_frozen BK351.out 1))
   refine bodyPost_ret (results_ct rfl _ _ gb351 34 #[.int .i64 t352, .int .i64 t353] (0, 0) _ rfl (by (with_reducible repeat refine bu ?_); refine blk_put (cs := #[.int .i64 t352, .int .i64 0]) ?_ 1 _ rfl; (with_reducible repeat refine bu ?_); refine blk_put (cs := #[.int .i64 0, .int .i64 0]) ?_ 0 _ rfl; (with_reducible repeat refine bu ?_); exact BK351.out) Tryz.underlying34 rfl (by kernel_rfl)) rfl ?_
   exact ⟨fi_, m2_⟩
  ·replace c5 := Bool.eq_false_iff.mpr c5
   subst c5
   have H1 : (some (0, 0, false)) = some (r1, r2, r3) := by rw [if_neg (show ¬ (false = true) by decide)] at H; exact H
   clear H
   have H := H1
   clear H1
   simp only [Option.some.injEq, Prod.mk.injEq] at H
   obtain ⟨rfl, rfl, rfl⟩ := H
   go_enter Tryz.func19, Tryz.ntmps19
   go_wp2_with (first | ((with_reducible refine gate_dst (N := 2) rfl ?_); refine box_event rfl (N := 2) rfl (cs := #[.int .i64 0, .int .i64 0]) (t := 34) hr_ ?_; intro gb351 hg w14 hbox hb; have BK351 := Aside0.mk hbox; have GW351 := gwE HB hg; have GE351 := gwE HB hg; replace HB := hbS HB hb; clear hb hbox hg) | ((with_reducible refine gate_callee (f := 51) rfl ?_); refine gL (some 8) Tryz.func51 #[.string a0] ?_; (with_reducible refine (impl_said.calls a0 t352 t353 true _ A2.out (EnvE.below hE (bl HB))).mono ?_); rintro e w15 ⟨rfl, hb⟩; refine ⟨_, rfl, ?_⟩; replace BK351 := bkB BK351 hb; replace HB := hbS HB hb; (try clear hb)) | ((with_reducible refine gate_dst (N := 4) rfl ?_); refine box_event rfl (N := 4) rfl (cs := #[.int .i64 0, .int .i64 0]) (t := 34) hr_ ?_; intro gb355 hg w16 hbox hb; have BK355 := Aside0.mk hbox; have GW355 := gwE HB hg; have GE355 := gwE HB hg; replace HB := hbS HB hb; have NB351_355 := neL BK351 hg; have NB355_351 := neG BK351 hg; replace BK351 := bkB BK351 hb; clear hb hbox hg; have hnb17 := NB355_351.out; have hnc17 := NB351_355.out; have hcz18_0 := bcell BK355 0; have hcz18_1 := bcell BK355 1; have hfz18_0 := blk_frozen BK355.out 0; have hfz18_1 := blk_frozen BK355.out 1) | (go_at_call 52; (with_reducible refine (impl_EndInside.calls t352 t353 false _ A4.out).mono ?_); rintro e w19 ⟨rfl, hb⟩; replace BK351 := Aside0.mk (blk_below (g := gb351) (o := .cells #[.int .i64 0, .int .i64 0] 34 (0, 0)) (by (with_reducible repeat refine bu ?_); refine blk_far ?_ NB351_355.out _; (with_reducible repeat refine bu ?_); refine blk_far ?_ NB351_355.out _; (with_reducible repeat refine bu ?_); exact BK351.out) hb); replace BK355 := Aside0.mk (blk_below (g := gb355) (o := .cells #[.int .i64 t352, .int .i64 t353] 34 (0, 0)) (by (with_reducible repeat refine bu ?_); refine blk_put (cs := #[.int .i64 t352, .int .i64 0]) ?_ 1 _ rfl; (with_reducible repeat refine bu ?_); refine blk_put (cs := #[.int .i64 0, .int .i64 0]) ?_ 0 _ rfl; (with_reducible repeat refine bu ?_); exact BK355.out) hb); replace HB := hbS HB hb; (try clear hb); have hcz20_0 := bcell BK351 0; have hcz20_1 := bcell BK351 1; have hfz20_0 := blk_frozen BK351.out 0; have hfz20_1 := blk_frozen BK351.out 1))
   refine bodyPost_ret (results_ct rfl _ _ gb351 34 #[.int .i64 0, .int .i64 0] (0, 0) _ rfl (by (with_reducible repeat refine bu ?_); refine blk_put (cs := #[.int .i64 0, .int .i64 0]) ?_ 1 _ rfl; (with_reducible repeat refine bu ?_); refine blk_put (cs := #[.int .i64 0, .int .i64 0]) ?_ 0 _ rfl; (with_reducible repeat refine bu ?_); exact BK351.out) Tryz.underlying34 rfl (by kernel_rfl)) rfl ?_
   exact ⟨fi_, m2_⟩
 ·replace c3 := Bool.eq_false_iff.mpr c3
  subst c3
  have H1 : (some (0, 0, false)) = some (r1, r2, r3) := by rw [if_neg (show ¬ (false = true) by decide)] at H; exact H
  clear H
  have H := H1
  clear H1
  simp only [Option.some.injEq, Prod.mk.injEq] at H
  obtain ⟨rfl, rfl, rfl⟩ := H
  go_enter Tryz.func19, Tryz.ntmps19
  go_wp2_with (first | ((with_reducible refine gate_dst (N := 2) rfl ?_); refine box_event rfl (N := 2) rfl (cs := #[.int .i64 0, .int .i64 0]) (t := 34) hr_ ?_; intro gb351 hg w21 hbox hb; have BK351 := Aside0.mk hbox; have GW351 := gwE HB hg; have GE351 := gwE HB hg; replace HB := hbS HB hb; clear hb hbox hg) | ((with_reducible refine gate_callee (f := 51) rfl ?_); refine gL (some 8) Tryz.func51 #[.string a0] ?_; (with_reducible refine (impl_said.calls a0 t352 t353 false _ A2.out (EnvE.below hE (bl HB))).mono ?_); rintro e w22 ⟨rfl, hb⟩; refine ⟨_, rfl, ?_⟩; replace BK351 := bkB BK351 hb; replace HB := hbS HB hb; (try clear hb)) | ((with_reducible refine gate_dst (N := 4) rfl ?_); refine box_event rfl (N := 4) rfl (cs := #[.int .i64 0, .int .i64 0]) (t := 34) hr_ ?_; intro gb355 hg w23 hbox hb; have BK355 := Aside0.mk hbox; have GW355 := gwE HB hg; have GE355 := gwE HB hg; replace HB := hbS HB hb; have NB351_355 := neL BK351 hg; have NB355_351 := neG BK351 hg; replace BK351 := bkB BK351 hb; clear hb hbox hg; have hnb24 := NB355_351.out; have hnc24 := NB351_355.out; have hcz25_0 := bcell BK355 0; have hcz25_1 := bcell BK355 1; have hfz25_0 := blk_frozen BK355.out 0; have hfz25_1 := blk_frozen BK355.out 1; have hcz26_0 := bcell BK351 0; have hcz26_1 := bcell BK351 1; have hfz26_0 := blk_frozen BK351.out 0; have hfz26_1 := blk_frozen BK351.out 1))
  refine bodyPost_ret (results_ct rfl _ _ gb351 34 #[.int .i64 0, .int .i64 0] (0, 0) _ rfl (by (with_reducible repeat refine bu ?_); refine blk_put (cs := #[.int .i64 0, .int .i64 0]) ?_ 1 _ rfl; (with_reducible repeat refine bu ?_); refine blk_put (cs := #[.int .i64 0, .int .i64 0]) ?_ 0 _ rfl; (with_reducible repeat refine bu ?_); refine blk_far ?_ NB351_355.out _; (with_reducible repeat refine bu ?_); refine blk_far ?_ NB351_355.out _; (with_reducible repeat refine bu ?_); exact BK351.out) Tryz.underlying34 rfl (by kernel_rfl)) rfl ?_
  exact ⟨fi_, m2_⟩
def impl_LinPort.f (a0_0 : Int) (a0_1 : Int) : Option (ByteArray) := (impl_EndOk.f a0_0 a0_1).bind fun t358 => (if t358 = true then ((impl_EndText.f a0_0 a0_1).bind fun t359 => (if 5 + t359.size ≤ 9223372036854775807 then (some ((⟨#[112, 111, 114, 116, 32]⟩ : ByteArray) ++ t359)) else (none))) else (some (⟨#[]⟩ : ByteArray)))
set_option maxHeartbeats 8000000 in
set_option maxRecDepth 100000 in
theorem impl_LinPort.calls (a0_0 : Int) (a0_1 : Int) (r : ByteArray) (w : World) (h : impl_LinPort.f a0_0 a0_1 = some r) (hE : EnvT w) :
  Calls Tryz.prog 24 #[.agg #[.int .i64 a0_0, .int .i64 a0_1]] w fun e w' => e = .returned (.string r) ∧ Below w.heap.size w w' := by
 have hu34 := Tryz.underlying34
 have HB := Aside0.mk (Below.refl w.heap.size w)
 have H : ((impl_EndOk.f a0_0 a0_1).bind fun t358 => (if t358 = true then ((impl_EndText.f a0_0 a0_1).bind fun t359 => (if 5 + t359.size ≤ 9223372036854775807 then (some ((⟨#[112, 111, 114, 116, 32]⟩ : ByteArray) ++ t359)) else (none))) else (some (⟨#[]⟩ : ByteArray)))) = some r := h
 clear h
 replace H := Option.bind_eq_some_iff.mp H
 obtain ⟨t358, A20, H⟩ := H
 try dsimp only at H
 have A2 := Aside0.mk A20
 clear A20
 by_cases c3 : t358 = true
 ·subst c3
  have H1 : ((impl_EndText.f a0_0 a0_1).bind fun t359 => (if 5 + t359.size ≤ 9223372036854775807 then (some ((⟨#[112, 111, 114, 116, 32]⟩ : ByteArray) ++ t359)) else (none))) = some r := by rw [if_pos rfl] at H; exact H
  clear H
  have H := H1
  clear H1
  replace H := Option.bind_eq_some_iff.mp H
  obtain ⟨t359, A40, H⟩ := H
  try dsimp only at H
  have A4 := Aside0.mk A40
  clear A40
  by_cases c5 : 5 + t359.size ≤ 9223372036854775807
  ·rw [if_pos c5] at H
   have c5b0 := eq_true c5
   have c5b1 : decide (5 + t359.size ≤ 9223372036854775807) = true := decide_eq_true c5
   try have c5b2 : (9223372036854775807 < 5 + t359.size) = False := eq_false (Nat.not_lt.2 c5)
   obtain rfl := Option.some.inj H
   go_enter Tryz.func24, Tryz.ntmps24
   go_wp2_with (first | ((with_reducible refine gate_dst (N := 1) rfl ?_); refine box_event rfl (N := 1) rfl (cs := #[.int .i64 a0_0, .int .i64 a0_1]) (t := 34) hr_ ?_; intro gb357 hg w6 hbox hb; have BK357 := Aside0.mk hbox; have GW357 := gwE HB hg; have GE357 := gwE HB hg; replace HB := hbS HB hb; clear hb hbox hg; have hcz7_0 := bcell BK357 0; have hcz7_1 := bcell BK357 1; have hfz7_0 := blk_frozen BK357.out 0; have hfz7_1 := blk_frozen BK357.out 1) | ((with_reducible refine gate_callee (f := 56) rfl ?_); refine gL (some 4) Tryz.func56 #[.agg #[.int .i64 a0_0, .int .i64 a0_1]] ?_; (with_reducible refine (impl_EndOk.calls a0_0 a0_1 true _ A2.out).mono ?_); rintro e w8 ⟨rfl, hb⟩; refine ⟨_, rfl, ?_⟩; replace BK357 := bkB BK357 hb; replace HB := hbS HB hb; (try clear hb); have hcz9_0 := bcell BK357 0; have hcz9_1 := bcell BK357 1; have hfz9_0 := blk_frozen BK357.out 0; have hfz9_1 := blk_frozen BK357.out 1) | ((with_reducible refine gate_callee (f := 57) rfl ?_); refine gL (some 7) Tryz.func57 #[.agg #[.int .i64 a0_0, .int .i64 a0_1]] ?_; (with_reducible refine (impl_EndText.calls a0_0 a0_1 t359 _ A4.out (EnvT.below hE (bl HB))).mono ?_); rintro e w10 ⟨rfl, hb⟩; refine ⟨_, rfl, ?_⟩; replace BK357 := bkB BK357 hb; replace HB := hbS HB hb; (try clear hb)))
   go_ret
   exact ⟨fi_, m2_⟩
  ·rw [if_neg c5] at H
   exact absurd H (by simp)
 ·replace c3 := Bool.eq_false_iff.mpr c3
  subst c3
  have H1 : (some (⟨#[]⟩ : ByteArray)) = some r := by rw [if_neg (show ¬ (false = true) by decide)] at H; exact H
  clear H
  have H := H1
  clear H1
  obtain rfl := Option.some.inj H
  go_enter Tryz.func24, Tryz.ntmps24
  go_wp2_with (first | ((with_reducible refine gate_dst (N := 1) rfl ?_); refine box_event rfl (N := 1) rfl (cs := #[.int .i64 a0_0, .int .i64 a0_1]) (t := 34) hr_ ?_; intro gb357 hg w11 hbox hb; have BK357 := Aside0.mk hbox; have GW357 := gwE HB hg; have GE357 := gwE HB hg; replace HB := hbS HB hb; clear hb hbox hg; have hcz12_0 := bcell BK357 0; have hcz12_1 := bcell BK357 1; have hfz12_0 := blk_frozen BK357.out 0; have hfz12_1 := blk_frozen BK357.out 1) | ((with_reducible refine gate_callee (f := 56) rfl ?_); refine gL (some 4) Tryz.func56 #[.agg #[.int .i64 a0_0, .int .i64 a0_1]] ?_; (with_reducible refine (impl_EndOk.calls a0_0 a0_1 false _ A2.out).mono ?_); rintro e w13 ⟨rfl, hb⟩; refine ⟨_, rfl, ?_⟩; replace BK357 := bkB BK357 hb; replace HB := hbS HB hb; (try clear hb)))
  go_ret
  exact ⟨fi_, m2_⟩
end Go.Proofs.YtffmbccgcaghjaaGreatDoor.P
namespace Go.Proofs.YtffmbccgcaghjaaGreatDoor.P
open Go.RowKit Go.Proofs.YtffmbccgcaghjaaGreatDoorUFnBakRwr.PrintWords Go.Proofs.YtffmbccgcaghjaaGreatDoorUFnBakRwr.PrintLast Go.Proofs.YtffmbccgcaghjaaGreatDoorUFnBakRwr.PrintMore
set_option linter.unusedVariables false
set_option linter.unusedSimpArgs false
theorem R_clip {α : Type} {d : Kd α} {e n c : Nat} {w : World} {base : Nat} {ok : Nat → Prop} {A : Option Addr} {xs : List α} (h : d.R e w base ok (.slice A n c) xs) : d.R e w base ok (.slice A n n) xs := by
  obtain ⟨h0, inner, ho, hr⟩ := h
  have hb : ∀ x y : Nat, (Value.slice A x x).ownBlock = (Value.slice A n c).ownBlock := by intro x y; cases A <;> rfl
  have hn : n = xs.length := by
    obtain ⟨A', c', he⟩ := own_slice ho
    injection he
  refine ⟨fun k hk => h0 k (by rw [← hb n n]; exact hk), inner, ?_, by rw [hb n n]; exact hr⟩
  obtain ⟨hl, h2⟩ := ho
  refine ⟨hl, ?_⟩
  rcases h2 with ⟨hv, hx⟩ | ⟨g, cap, cur, hv, hbg, hh, hnc, hcm, hcs, ht⟩
  · injection hv with h1 h2 h3
    subst h1; subst h2
    exact .inl ⟨rfl, hx⟩
  · injection hv with h1 h2 h3
    subst h1; subst h2; subst h3
    exact .inr ⟨g, xs.length, cur, rfl, hbg, hh, Nat.le_refl _, Nat.le_trans hnc hcm, Nat.le_trans (Nat.mul_le_mul_right _ hnc) hcs, ht⟩
set_option maxHeartbeats 8000000 in
set_option maxRecDepth 100000 in
theorem clip_end (A : Option Addr) (n c : Nat) (h : n ≤ c) (w : World) : Calls Tryz.prog 105 #[.slice A n c] w fun e w' => ∃ v, e = .returned v ∧ v = .slice A n n ∧ w' = w := by
  go_enter Tryz.func105, Tryz.ntmps105
  go_wp2
  go_ret
  exact ⟨_, rfl, rfl, rfl⟩
set_option maxHeartbeats 8000000 in
set_option maxRecDepth 100000 in
theorem clone_end (A : Option Addr) (c : Nat) (l : List S34) (w : World) (hr : Kd.C k34 w A l.length l) (hc : l.length ≤ c) (hl : l.length < 1000000000000) :
    Calls Tryz.prog 106 #[.slice A l.length c] w fun e w' => ∃ v, e = .returned v ∧ Kd.R k34 34 w' w.heap.size (fun _ => True) v l ∧ Below w.heap.size w w' := by
  have HR := Aside0.mk hr
  have HL := Aside0.mk hl
  clear hl
  have HB := Aside0.mk (Below.refl w.heap.size w)
  cases A with
  | none =>
    have h0 : l.length = 0 := by
      rcases Nat.eq_zero_or_pos l.length with h | h
      · exact h
      · obtain ⟨x, hx, _⟩ := hr.2.2 h
        cases hx
    have hnil := Aside0.mk (List.eq_nil_of_length_eq_zero h0)
    clear hr h0
    have hq := fun w' : World => Lib.run_eql_slice_nil (P := Tryz.prog) w' 23 34 none l.length c 0 0 Tryz.underlying23
    go_enter Tryz.func106, Tryz.ntmps106
    go_wp2
    go_ret
    exact ⟨_, rfl, by rw [hnil.out]; exact Kd.R_nil _ _ _ _ _, HB.out⟩
  | some ad =>
    clear hr
    have hq := fun w' : World => Lib.run_eql_slice_nil (P := Tryz.prog) w' 23 34 (some ad) l.length c 0 0 Tryz.underlying23
    go_enter Tryz.func106, Tryz.ntmps106
    go_wp2_with (first
      | ((with_reducible refine gate_dst (N := 5) rfl ?_)
         refine Kd.R_lit k34 _ 34 ?hg (N := 5) ?hd (xs := ([] : List (S34))) (inner := []) (ok := fun _ => True) (okp := fun _ => True) ?hr ?hp (fun _ hk => hk) trivial (Below.refl _ _) (Nat.le_refl _) (by simp) ?_
         (case hd => rfl)
         (case hg => rfl)
         (case hr => first | (go_simp; done) | (go_simp; rfl))
         (case hp => exact (Reps.none _ _))
         intro v5 w5 ho5 hb hg_ hnew_
         clear hg_ hnew_
         have HO := Aside0.mk (Kd.R_lower ho5 (below_size (bl HB)))
         have n3_ := Aside0.mk (below_step (bl HB) hb)
         clear HB
         have HB := n3_
         clear n3_ hb ho5)
      | ((with_reducible refine gate_builtin (b := .append) (xs := #[.tmp 5, .tmp 6]) rfl ?_)
         at_builtin
         refine Kd.R_append_rows k34 (w0 := w) w.heap.size rfl (.tmp 5) (.tmp 6) 23 34 (.agg #[(.int .i64 0), (.int .i64 0)]) 16 rfl Tryz.underlying23 info34 rfl (by decide) (by omega) v5 [] l _ _ _ (fun _ => True) (fun _ => False) rfl rfl ?aO ?aR (fun _ _ h => h) (fun _ h => h.elim) ?aF ?aB ?aS ?aL ?_
         (case aR => repeat (first | exact (Kd.C_below HR.out HB.out) | (with_reducible refine Kd.C_alloc ?_ _) | (with_reducible refine Kd.C_drewN ?_ _) | (with_reducible refine Kd.C_drew ?_)))
         (case aB => exact (bl HB))
         (case aF => exact (fun _ _ => trivial))
         (case aO => exact (rs HO))
         (case aS => exact (below_size (bl HB)))
         (case aL => have := HL.out; simp only [List.length_nil]; omega)
         intro v7 w7 ho hb hg hat
         have n2_ := Aside0.mk hb
         clear HB HO
         have HB := n2_
         have HO := Aside0.mk ho
         clear n2_ ho hb hg hat))
    go_ret
    exact ⟨_, rfl, HO.out, HB.out⟩
def impl_EndPoint_106.f (l : List S34) : Option (List S34) := if l.length < 1000000000000 then some l else none
theorem impl_EndPoint_106.calls (A0 : Option Addr) (c0 : Nat) (l0 : List (S34)) (r : List (S34)) (w : World) (hr0 : Kd.C k34 w A0 l0.length l0) (hc0 : l0.length ≤ c0) (h : impl_EndPoint_106.f l0 = some r) :
    Calls Tryz.prog 106 #[.slice A0 l0.length c0] w fun e w' => ∃ v0_ : Value, e = .returned (v0_) ∧ Kd.R k34 34 w' w.heap.size (fun _ => True) v0_ r ∧ Below w.heap.size w w' := by
  unfold impl_EndPoint_106.f at h
  by_cases hl : l0.length < 1000000000000
  · rw [if_pos hl] at h
    obtain rfl := Option.some.inj h
    exact clone_end A0 c0 l0 w hr0 hc0 hl
  · rw [if_neg hl] at h
    cases h
def impl_EndPoint_105.f (l : List S34) : Option (List S34 × List S34) := some (l, [])
theorem bkW {w W w' : World} {g : Nat} {o : Obj} (b : Aside0 (w.heap[g]? = some o)) (hw : w' = W) (s : w.heap[g]? = some o → W.heap[g]? = some o := by intro h; (with_reducible repeat refine bu ?_); exact h) : Aside0 (w'.heap[g]? = some o) := ⟨by rw [hw]; exact s b.out⟩
theorem blW {w W W' w' : World} {n : Nat} (b : Aside0 (Below n w W)) (hw : w' = W') (s : Below n w W → Below n w W' := by intro h; repeat (first | (with_reducible first | exact h | apply below_alloc | apply pw_below_drewN | apply below_drew1 | refine below_set ?_ (Aside0.out (by with_reducible assumption))) | exact h)) : Aside0 (Below n w w') := ⟨by rw [hw]; exact s b.out⟩
theorem clipNil {α : Type} {d : Kd α} {e : Nat} {w : World} {base : Nat} {ok : Nat → Prop} {u : Value} {xs r1 r2 : List α} (h : Aside0 (Kd.R d e w base ok u xs)) (w' : World) (hf : some (xs, ([] : List α)) = some (r1, r2)) : Aside0 (Kd.R d e w' base ok (.slice none 0 0) r2) := by
  injection hf with hf
  injection hf with _ h2
  subst h2
  exact ⟨Kd.R_nil _ _ _ _ _⟩
theorem clipR {α : Type} {d : Kd α} {e n c : Nat} {w W w' : World} {base : Nat} {ok ok' : Nat → Prop} {A : Option Addr} {v : Value} {xs r1 r2 : List α} (h : Aside0 (Kd.R d e w base ok (.slice A n c) xs)) (hv : v = .slice A n n) (hw : w' = W) (hf : some (xs, ([] : List α)) = some (r1, r2)) (hok : ∀ k, ok k → ok' k)
    (s : Kd.R d e w base ok (.slice A n c) xs → Kd.R d e W base ok (.slice A n c) xs := by intro h; (with_reducible repeat apply ru); exact h) : Aside0 (Kd.R d e w' base ok' v r1) := by
  injection hf with hf
  injection hf with h1 _
  subst h1
  subst hv
  subst hw
  exact ⟨Kd.R_mono (R_clip (s h.out)) hok⟩
end Go.Proofs.YtffmbccgcaghjaaGreatDoor.P
namespace Go.Proofs.YtffmbccgcaghjaaGreatDoor.P
open Go.RowKit Go.Proofs.YtffmbccgcaghjaaGreatDoorUFnBakRwr.PrintWords Go.Proofs.YtffmbccgcaghjaaGreatDoorUFnBakRwr.PrintLast Go.Proofs.YtffmbccgcaghjaaGreatDoorUFnBakRwr.PrintMore
attribute [local go_sem] max2_int min2_int max_two min_two max_three min_three max_four min_four
set_option linter.unusedVariables false
set_option linter.unusedSimpArgs false
def impl_MapTab_copied.f (l0_0 : List (S34)) : Option ((List (S34))) := (impl_EndPoint_106.f l0_0).bind fun t362 => ((impl_EndPoint_105.f t362).bind fun bt365 => (some bt365.1))
set_option maxHeartbeats 8000000 in
set_option maxRecDepth 100000 in
theorem impl_MapTab_copied.calls (A0_0 : Option Addr) (c0_0 : Nat) (l0_0 : List (S34)) (r : List (S34)) (w : World) (hr0_0 : Kd.C k34 w A0_0 l0_0.length l0_0) (hc0_0 : l0_0.length ≤ c0_0) (h : impl_MapTab_copied.f l0_0 = some r) :
  Calls Tryz.prog 77 #[.agg #[.slice A0_0 l0_0.length c0_0]] w fun e w' => ∃ v0_ : Value, e = .returned (.agg #[v0_]) ∧ Kd.R k34 34 w' w.heap.size (fun _ => True) v0_ r ∧ Below w.heap.size w w' := by
 have hu25 := Tryz.underlying25
 have HR0_0 := Aside0.mk hr0_0
 have HC0_0 := Aside0.mk hc0_0
 clear hr0_0 hc0_0
 have HB := Aside0.mk (Below.refl w.heap.size w)
 have H : ((impl_EndPoint_106.f l0_0).bind fun t362 => ((impl_EndPoint_105.f t362).bind fun bt365 => (some bt365.1))) = some r := h
 clear h
 replace H := Option.bind_eq_some_iff.mp H
 obtain ⟨t362, A20, H⟩ := H
 try dsimp only at H
 have A2 := Aside0.mk A20
 clear A20
 replace H := Option.bind_eq_some_iff.mp H
 obtain ⟨⟨t365, t368⟩, A30, H⟩ := H
 try dsimp only at H
 have A3 := Aside0.mk A30
 clear A30
 obtain rfl := Option.some.inj H
 go_enter Tryz.func77, Tryz.ntmps77
 go_wp2_with (first | ((with_reducible refine gate_dst (N := 1) rfl ?_); refine box_event rfl (N := 1) rfl (cs := #[.slice A0_0 l0_0.length c0_0]) (t := 25) hr_ ?_; intro gb360 hg w4 hbox hb; have BK360 := Aside0.mk hbox; have GW360 := gwE HB hg; have GE360 := gwE HB hg; replace HB := hbS HB hb; clear hb hbox hg) | ((with_reducible refine gate_dst (N := 2) rfl ?_); refine box_event rfl (N := 2) rfl (cs := #[.slice none 0 0]) (t := 25) hr_ ?_; intro gb361 hg w5 hbox hb; have BK361 := Aside0.mk hbox; have GW361 := gwE HB hg; have GE361 := gwE HB hg; replace HB := hbS HB hb; have NB360_361 := neL BK360 hg; have NB361_360 := neG BK360 hg; replace BK360 := bkB BK360 hb; clear hb hbox hg; have hnb6 := NB360_361.out; have hnc6 := NB361_360.out; have hcz7_0 := bcell BK360 0; have hfz7_0 := blk_frozen BK360.out 0) | ((with_reducible refine gate_callee (f := 106) rfl ?_); refine gL (some 5) Tryz.func106 #[.slice A0_0 l0_0.length c0_0] ?_; (with_reducible refine (impl_EndPoint_106.calls _ _ l0_0 t362 _ ?side1 ?side2 A2.out).mono ?_); (case side1 => exact m4_); (case side2 => exact HC0_0.out); rintro e w8 ⟨v363, rfl, ho0, hb⟩; refine ⟨_, rfl, ?_⟩; have HO364 := Aside0.mk (Kd.R_lower ho0 (below_size (bl HB))); replace BK360 := bkB BK360 hb; replace BK361 := bkB BK361 hb; replace HB := hbS HB hb; (try clear hb); (try clear ho0); obtain ⟨Ao9, co9, eo9⟩ := Kd.R_slice HO364.out; subst eo9) | ((with_reducible refine gate_callee (f := 105) rfl ?_); refine gL (some 6) Tryz.func105 #[.slice Ao9 t362.length co9] ?_; (with_reducible refine (clip_end Ao9 t362.length co9 (Kd.R_reads' HO364.out).2.1 _).mono ?_); rintro e w10 ⟨v366, rfl, hv_, hw_⟩; refine ⟨_, rfl, ?_⟩; replace BK360 := bkW BK360 hw_; replace BK361 := bkW BK361 hw_; have HO367 := clipR (ok' := fun k_ => some k_ ≠ (.slice none 0 0 : Value).ownBlock) HO364 hv_ hw_ A3.out (fun k_ hk_ => by first | exact ⟨by simp [Value.ownBlock], hk_⟩ | (simp [Value.ownBlock]; done) | exact hk_); replace HO364 := clipNil HO364 w10 A3.out; replace HB := blW HB hw_; clear hv_ hw_; obtain ⟨Ao11, co11, eo11⟩ := Kd.R_slice HO367.out; subst eo11; have hcz12_0 := bcell BK361 0; have hfz12_0 := blk_frozen BK361.out 0))
 refine bodyPost_ret (results_cell_row rfl _ _ gb361 25 #[.slice Ao11 t365.length co11] (0, 0) _ rfl (by (with_reducible repeat refine bu ?_); refine blk_put (cs := #[.slice none 0 0]) ?_ 0 _ rfl; (with_reducible repeat refine bu ?_); exact BK361.out) Tryz.underlying25 rfl (by kernel_rfl)) rfl ?_
 exact ⟨_, fi_, by (with_reducible repeat apply ru); exact Kd.R_mono (Kd.R_far (p := ⟨gb361, 0, none⟩) (Kd.R_types HO367.out BK361.out (by decide)) (fun _ hk => hk.2) (.slice Ao11 t365.length co11)) (fun _ hk => trivial), m2_⟩
end Go.Proofs.YtffmbccgcaghjaaGreatDoor.P
namespace Go.Proofs.YtffmbccgcaghjaaGreatDoor.P
open Go.RowKit Go.Proofs.YtffmbccgcaghjaaGreatDoorUFnBakRwr.PrintWords Go.Proofs.YtffmbccgcaghjaaGreatDoorUFnBakRwr.PrintLast Go.Proofs.YtffmbccgcaghjaaGreatDoorUFnBakRwr.PrintMore
set_option linter.unusedVariables false
set_option linter.unusedSimpArgs false
def I64 (n : Int) : Prop := (Lit.int .i64 n).wf = true
theorem i64_iff (n : Int) : I64 n ↔ -9223372036854775808 ≤ n ∧ n ≤ 9223372036854775807 := by
  unfold I64
  simp [Lit.wf, IntKind.min, IntKind.max, IntKind.signed, IntKind.bits]
theorem mapLaid : laidOutB Tryz.prog = true := by kernel_rfl
theorem endKeyed : Maps.Keyed Tryz.prog 34 := Maps.Keyed.of_law (deep_law_laid mapLaid (m := 2) (by omega) (of_decide_eq_true (by kernel_rfl)) (by kernel_rfl) (by rw [Tryz.underlying34]))
theorem intKeyed : Maps.Keyed Tryz.prog 3 := Maps.int_keyed Tryz.underlying3
def eK (a b : Int) : Lit := .string (keyBytes [.int .i64 a, .int .i64 b])
theorem eK_key (a b : Int) : WideAt.IsKeyLit (eK a b) := trivial
theorem pK_key (n : Int) : WideAt.IsKeyLit (Lit.int .i64 n) := trivial
theorem endKey {a b : Int} (wa : I64 a) (wb : I64 b) : keyOf Tryz.prog 34 (.agg #[.int .i64 a, .int .i64 b]) = some (eK a b) := by
  have hk : Tryz.prog.keyType 34 = true := by kernel_rfl
  have hc : Tryz.prog.cellsOf 34 = 2 := by kernel_rfl
  have hc3 : Tryz.prog.cellsOf 3 = 1 := by kernel_rfl
  obtain ⟨m, hm⟩ : ∃ m, Tryz.prog.types.size = m + 2 := ⟨Tryz.prog.types.size - 2, by kernel_rfl⟩
  unfold I64 at wa wb
  unfold keyOf eK
  simp only [Tryz.underlying34]
  rw [if_pos (by simp [hk, Value.formed, Tryz.underlying34, hc]), hm]
  unfold Program.keyLits
  simp only [Tryz.underlying34, Value.cells]
  rw [if_pos (by rw [hc]; exact ⟨rfl, by simp⟩)]
  simp [hc3, Program.keyLits, Tryz.underlying3, wa, wb]
theorem intKey {n : Int} (w : I64 n) : keyOf Tryz.prog 3 (.int .i64 n) = some (.int .i64 n) := by
  unfold I64 at w
  simp [keyOf, mapKey, Tryz.underlying3, w]
theorem eK_inj {a b c d : Int} (wa : I64 a) (wb : I64 b) (wc : I64 c) (wd : I64 d) (h : eK a b = eK c d) : a = c ∧ b = d := by
  have := endKeyed.inj (endKey wa wb) (by rw [h]; exact endKey wc wd)
  simpa using this
def endD (a b : Int) : DataW Unit := .map [(.int .i64 0, .lit (.int .i64 a)), (.int .i64 0, .lit (.int .i64 b))]
def endR (v : Value) : Option (DataW Unit × List MemPlace) := match v with
  | .agg cs => (match cs.toList with
    | [.int .i64 a, .int .i64 b] => some (endD a b, [])
    | _ => none)
  | _ => none
theorem endR_mk (a b : Int) : endR (.agg #[.int .i64 a, .int .i64 b]) = some (endD a b, []) := rfl
theorem endR_inv {v : Value} {z : DataW Unit × List MemPlace} (h : endR v = some z) : ∃ a b, v = .agg #[.int .i64 a, .int .i64 b] ∧ z.1 = endD a b := by
  unfold endR at h
  split at h
  · rename_i cs
    split at h
    · rename_i a b he
      obtain ⟨l⟩ := cs
      simp at he
      subst he
      injection h with h
      subst h
      exact ⟨a, b, rfl, rfl⟩
    · cases h
  · cases h
theorem endD_inj {a b c d : Int} (h : endD a b = endD c d) : a = c ∧ b = d := by
  unfold endD at h
  simpa using h
def fnd (l : List S34) (a b : Int) : Option Nat := l.findIdx? (fun x => x.f0 == a && x.f1 == b)
theorem fnd_snoc (l : List S34) (x : S34) (a b : Int) : fnd (l ++ [x]) a b = (match fnd l a b with | some i => some i | none => if x.f0 = a ∧ x.f1 = b then some l.length else none) := by
  unfold fnd
  rw [List.findIdx?_append]
  cases l.findIdx? (fun x => x.f0 == a && x.f1 == b) with
  | some i => simp
  | none => by_cases h : x.f0 = a ∧ x.f1 = b <;> simp [List.findIdx?_cons, h]
def Says1 (l : List S34) (D : DataW Unit) : Prop := ∀ a b, I64 a → I64 b → ∀ z, D.atKey (eK a b) z = (match fnd l a b with | none => z | some i => .lit (.int .i64 (500 + i)))
def Says2 (l : List S34) (D : DataW Unit) : Prop := ∀ n, I64 n → ∀ z, D.atKey (.int .i64 n) z = (match (if 500 ≤ n then l[(n - 500).toNat]? else none) with | none => z | some x => endD x.f0 x.f1)
theorem says1_nil : Says1 [] (.map []) := fun a b _ _ z => rfl
theorem says2_nil : Says2 [] (.map []) := fun n _ z => by
  have : (if 500 ≤ n then ([] : List S34)[(n - 500).toNat]? else none) = none := by split <;> rfl
  rw [this]; rfl
theorem says1_has {l : List S34} {D : DataW Unit} (h : Says1 l D) {a b : Int} (wa : I64 a) (wb : I64 b) : Maps.has D (eK a b) = (fnd l a b).isSome := by
  cases hf : fnd l a b with
  | none => exact Maps.has_false_of_atKey (fun z => by rw [h a b wa wb z, hf])
  | some i => exact Maps.has_true_of_atKey (fun z => by rw [h a b wa wb z, hf])
theorem says1_old {l : List S34} {D : DataW Unit} (h : Says1 l D) (x : S34) (wx : I64 x.f0 ∧ I64 x.f1) (hx : Maps.has D (eK x.f0 x.f1) = true) : Says1 (l ++ [x]) D := by
  intro a b wa wb z
  rw [h a b wa wb z, fnd_snoc]
  cases hf : fnd l a b with
  | some i => rfl
  | none =>
    have hne : ¬ (x.f0 = a ∧ x.f1 = b) := by
      rintro ⟨rfl, rfl⟩
      rw [says1_has h wx.1 wx.2, hf] at hx
      cases hx
    simp [hne]
theorem says1_new {l : List S34} {D : DataW Unit} (h : Says1 l D) (hD : Maps.IsMap D) (x : S34) (wx : I64 x.f0 ∧ I64 x.f1) (hx : Maps.has D (eK x.f0 x.f1) = false) : Says1 (l ++ [x]) (D.put (eK x.f0 x.f1) (.lit (.int .i64 (500 + l.length)))) := by
  intro a b wa wb z
  rw [fnd_snoc]
  by_cases he : x.f0 = a ∧ x.f1 = b
  · obtain ⟨rfl, rfl⟩ := he
    rw [says1_has h wx.1 wx.2] at hx
    cases hf : fnd l x.f0 x.f1 with
    | some i => rw [hf] at hx; cases hx
    | none =>
      rw [Maps.atKey_put_same hD (eK_key _ _)]
      simp
  · have hne : eK a b ≠ eK x.f0 x.f1 := fun e => he (by obtain ⟨h1, h2⟩ := eK_inj wa wb wx.1 wx.2 e; exact ⟨h1.symm, h2.symm⟩)
    rw [Maps.atKey_put_other hne, h a b wa wb z]
    cases fnd l a b <;> simp [he]
theorem says2_has {l : List S34} {D : DataW Unit} (h : Says2 l D) (hl : l.length < 1000000000) : Maps.has D (.int .i64 (500 + l.length)) = false :=
  Maps.has_false_of_atKey (fun z => by
    rw [h _ ((i64_iff _).mpr (by omega)) z]
    have : (if 500 ≤ (500 + (l.length : Int)) then l[((500 + (l.length : Int)) - 500).toNat]? else none) = none := by
      rw [if_pos (by omega)]
      exact List.getElem?_eq_none (by omega)
    rw [this])
theorem says2_put {l : List S34} {D : DataW Unit} (h : Says2 l D) (hD : Maps.IsMap D) (x : S34) (hl : l.length < 1000000000) : Says2 (l ++ [x]) (D.put (.int .i64 (500 + l.length)) (endD x.f0 x.f1)) := by
  intro n wn z
  by_cases he : n = 500 + l.length
  · subst he
    rw [Maps.atKey_put_same hD (pK_key _)]
    have : (if 500 ≤ (500 + (l.length : Int)) then (l ++ [x])[((500 + (l.length : Int)) - 500).toNat]? else none) = some x := by
      rw [if_pos (by omega), show ((500 + (l.length : Int)) - 500).toNat = l.length by omega]
      simp
    rw [this]
  · have hne : (Lit.int .i64 n) ≠ Lit.int .i64 (500 + l.length) := fun e => he (by injection e)
    rw [Maps.atKey_put_other hne, h n wn z]
    have : (if 500 ≤ n then (l ++ [x])[(n - 500).toNat]? else none) = (if 500 ≤ n then l[(n - 500).toNat]? else none) := by
      by_cases h5 : 500 ≤ n
      · rw [if_pos h5, if_pos h5]
        rw [List.getElem?_append]
        split
        · rfl
        · rename_i hge
          rw [List.getElem?_eq_none (by simp; omega), List.getElem?_eq_none (by omega)]
      · rw [if_neg h5, if_neg h5]
    rw [this]
theorem says2_again {l : List S34} {D : DataW Unit} {x : S34} (h : Says2 (l ++ [x]) D) (hD : Maps.IsMap D) (hl : l.length < 1000000000) : Says2 (l ++ [x]) (D.put (.int .i64 (500 + l.length)) (endD x.f0 x.f1)) := by
  intro n wn z
  by_cases he : n = 500 + l.length
  · subst he
    rw [Maps.atKey_put_same hD (pK_key _)]
    have : (if 500 ≤ (500 + (l.length : Int)) then (l ++ [x])[((500 + (l.length : Int)) - 500).toNat]? else none) = some x := by
      rw [if_pos (by omega), show ((500 + (l.length : Int)) - 500).toNat = l.length by omega]
      simp
    rw [this]
  · have hne : (Lit.int .i64 n) ≠ Lit.int .i64 (500 + l.length) := fun e => he (by injection e)
    rw [Maps.atKey_put_other hne, h n wn z]
end Go.Proofs.YtffmbccgcaghjaaGreatDoor.P
namespace Go.Proofs.YtffmbccgcaghjaaGreatDoor.P
open Go.RowKit Go.Proofs.YtffmbccgcaghjaaGreatDoorUFnBakRwr.PrintWords Go.Proofs.YtffmbccgcaghjaaGreatDoorUFnBakRwr.PrintLast Go.Proofs.YtffmbccgcaghjaaGreatDoorUFnBakRwr.PrintMore
set_option linter.unusedVariables false
set_option linter.unusedSimpArgs false
theorem zero3 (w : World) : (zeroValue 3).run Tryz.prog w = .ok (.int .i64 0) w := by kernel_rfl
theorem zeroEnd (w : World) : (zeroValue 34).run Tryz.prog w = .ok (.agg #[.int .i64 0, .int .i64 0]) w := by kernel_rfl
structure Fr (w w' : World) (b1 b2 : Nat) : Prop where
  os : w'.os = w.os
  tape : w'.tape = w.tape
  output : w'.output = w.output
  size : w.heap.size ≤ w'.heap.size
  block : ∀ i, i < w.heap.size → i ≠ b1 → i ≠ b2 → w'.heap[i]? = w.heap[i]?
theorem Fr.refl (w : World) (b1 b2 : Nat) : Fr w w b1 b2 := ⟨rfl, rfl, rfl, Nat.le_refl _, fun _ _ _ _ => rfl⟩
theorem Fr.trans {w w' w'' : World} {b1 b2 : Nat} (h : Fr w w' b1 b2) (k : Fr w' w'' b1 b2) : Fr w w'' b1 b2 :=
  ⟨k.os.trans h.os, k.tape.trans h.tape, k.output.trans h.output, Nat.le_trans h.size k.size, fun i hi h1 h2 => (k.block i (Nat.lt_of_lt_of_le hi h.size) h1 h2).trans (h.block i hi h1 h2)⟩
theorem Fr.below {w w' w'' : World} {b1 b2 : Nat} (h : Fr w w' b1 b2) (k : Below w'.heap.size w' w'') : Fr w w'' b1 b2 :=
  h.trans ⟨k.os, k.tape, k.output, k.size, fun i hi _ _ => k.block i hi⟩
theorem Fr.one {w w' w'' : World} {b1 b2 : Nat} (h : Fr w w' b1 b2) (k : w'.grownBy w'' (some b1)) : Fr w w'' b1 b2 :=
  h.trans ⟨k.os, k.tape, k.output, k.size, fun i hi h1 _ => k.block i hi (by simpa using h1)⟩
theorem Fr.two {w w' w'' : World} {b1 b2 : Nat} (h : Fr w w' b1 b2) (k : w'.grownBy w'' (some b2)) : Fr w w'' b1 b2 :=
  h.trans ⟨k.os, k.tape, k.output, k.size, fun i hi _ h2 => k.block i hi (by simpa using h2)⟩
theorem Fr.set {w w' : World} {b1 b2 g j : Nat} {v : Value} (h : Fr w w' b1 b2) (hg : w.heap.size ≤ g) : Fr w (w'.setCell ⟨g, j, none⟩ v) b1 b2 :=
  ⟨h.os, h.tape, h.output, by simpa [World.setCell] using h.size, fun i hi h1 h2 => (heap_setCell_other w' ⟨g, j, none⟩ i v (fun e => by simp at e; omega)).trans (h.block i hi h1 h2)⟩
theorem om_below {k : TypeId} {R : Value → Option (DataW Unit × List MemPlace)} {w w' : World} {b n : Nat} {D : DataW Unit} (h : w.ownsMap Tryz.prog k R b n D) (hb : Below w.heap.size w w') : w'.ownsMap Tryz.prog k R b n D := by
  have hlt := h.lt
  obtain ⟨es, c, h1, h2⟩ := h
  exact ⟨es, c, (hb.block b hlt).trans h1, h2⟩
theorem om_ne {k : TypeId} {R : Value → Option (DataW Unit × List MemPlace)} {w : World} {b n g : Nat} {D : DataW Unit} {cs : Array Value} {t : TypeId} (h : w.ownsMap Tryz.prog k R b n D) (hg : w.heap[g]? = some (.cells cs t (0, 0))) : g ≠ b := by
  rintro rfl
  obtain ⟨es, c, h1, h2⟩ := h
  rw [hg] at h1
  cases h1
set_option maxHeartbeats 8000000 in
set_option maxRecDepth 100000 in
theorem set_old (b1 b2 n1 n2 : Nat) (D1 D2 : DataW Unit) (a b n : Int) (wa : I64 a) (wb : I64 b) (wn : I64 n) (w : World) (hne : b1 ≠ b2)
    (h1 : w.ownsMap Tryz.prog 34 (plainElem Tryz.prog 3) b1 n1 D1) (h2 : w.ownsMap Tryz.prog 3 endR b2 n2 D2) (hn1 : n1 < 1000000000) (hn2 : n2 < 1000000000)
    (f1 : Maps.has D1 (eK a b) = true) (f2 : Maps.has D2 (.int .i64 n) = false) :
    Calls Tryz.prog 87 #[.agg #[.map (some b1), .map (some b2)], .agg #[.int .i64 a, .int .i64 b], .int .i64 n] w fun e w' =>
      e = .returned (.tuple #[]) ∧ w'.ownsMap Tryz.prog 34 (plainElem Tryz.prog 3) b1 n1 D1 ∧ w'.ownsMap Tryz.prog 3 endR b2 (n2 + 1) (D2.put (.int .i64 n) (endD a b)) ∧ Fr w w' b1 b2 := by
  have H1 := Aside0.mk h1
  have H2 := Aside0.mk h2
  have F1 := Aside0.mk f1
  have F2 := Aside0.mk f2
  have HNE := Aside0.mk hne
  have HF := Aside0.mk (Fr.refl w b1 b2)
  have HN1 := Aside0.mk (show n1 < maxLen by simp only [maxLen]; omega)
  have HN2 := Aside0.mk (show n2 < maxLen by simp only [maxLen]; omega)
  clear h1 h2 f1 f2 hne hn1 hn2
  go_enter Tryz.func87, Tryz.ntmps87
  go_wp2_with (first
    | ((with_reducible refine gate_dst (N := 3) rfl ?_)
       refine box_event ?hg (N := 3) ?hd (cs := #[.map (some b1), .map (some b2)]) (t := 70) ?hr ?_
       (case hd => rfl)
       (case hg => rfl)
       (case hr => first | (go_simp; done) | (go_simp; rfl))
       intro g3 hg w3 hbox hb
       have n1_ := Aside0.mk (om_below (w' := w3) H1.out hb)
       have n2_ := Aside0.mk (om_below (w' := w3) H2.out hb)
       have n3_ := Aside0.mk (Fr.below HF.out (w'' := w3) hb)
       have BK3 := Aside0.mk hbox
       clear H1 H2 HF
       have H1 := n1_
       have H2 := n2_
       have HF := n3_
       clear n1_ n2_ n3_ hb hbox hg)
    | ((with_reducible refine gate_dst (N := 4) rfl ?_)
       refine box_event ?hg (N := 4) ?hd (cs := #[.int .i64 a, .int .i64 b]) (t := 34) ?hr ?_
       (case hd => rfl)
       (case hg => rfl)
       (case hr => first | (go_simp; done) | (go_simp; rfl))
       intro g4 hg w4 hbox hb
       have n1_ := Aside0.mk (om_below (w' := w4) H1.out hb)
       have n2_ := Aside0.mk (om_below (w' := w4) H2.out hb)
       have n3_ := Aside0.mk (Fr.below HF.out (w'' := w4) hb)
       have n4_ := bkB BK3 hb
       have BK4 := Aside0.mk hbox
       have NB := Aside0.mk (show g3 ≠ g4 from by rw [hg]; exact Nat.ne_of_lt (bkL BK3))
       clear H1 H2 HF BK3
       have H1 := n1_
       have H2 := n2_
       have HF := n3_
       have BK3 := n4_
       clear n1_ n2_ n3_ n4_ hb hbox hg
       have c30 : w4.cell? ⟨g3, 0, none⟩ = some (.map (some b1)) := (blk_cell BK3.out 0).trans rfl
       have c31 : w4.cell? ⟨g3, 1, none⟩ = some (.map (some b2)) := (blk_cell BK3.out 1).trans rfl
       have c40 : w4.cell? ⟨g4, 0, none⟩ = some (.int .i64 a) := (blk_cell BK4.out 0).trans rfl
       have c41 : w4.cell? ⟨g4, 1, none⟩ = some (.int .i64 b) := (blk_cell BK4.out 1).trans rfl)
    | ((with_reducible refine gate_dst (N := 14) rfl ?_)
       at_lookup
       refine wpList_lookup_own_ok_int _ rfl _ _ 67 rfl 34 3 .i64 endKeyed Tryz.underlying67 Tryz.underlying3 (zero3 _) b1 n1 D1 rfl H1.out _ _ rfl (endKey wa wb) ?_
       intro c14 hat hwc
       rw [F1.out]
       clear hat hwc)
    | ((with_reducible refine gate_dst (N := 27) rfl ?_)
       at_lookup
       refine wpList_lookup_own_ok _ rfl _ _ 68 rfl 3 34 intKeyed Tryz.underlying68 _ (zeroEnd _) (endD 0 0) [] (endR_mk 0 0) b2 n2 D2 rfl H2.out _ _ rfl (intKey wn) ?_
       intro v27 ps27 hv27
       rw [F2.out]
       obtain ⟨xa, xb, rfl, _⟩ := endR_inv hv27
       clear hv27)
    | ((with_reducible refine gate_dst (N := 8) rfl ?_)
       refine box_event ?hg (N := 8) ?hd (cs := #[.int .i64 0, .int .i64 0]) (t := 34) ?hr ?_
       (case hd => rfl)
       (case hg => rfl)
       (case hr => first | (go_simp; done) | (go_simp; rfl))
       intro g8 hg w8 hbox hb
       have n1_ := Aside0.mk (om_below (w' := w8) H1.out hb)
       have n2_ := Aside0.mk (om_below (w' := w8) H2.out hb)
       have n3_ := Aside0.mk (Fr.below HF.out (w'' := w8) hb)
       have n4_ := bkB BK3 hb
       have n5_ := bkB BK4 hb
       have BK8 := Aside0.mk hbox
       have GE8 := Aside0.mk (show w.heap.size ≤ g8 from by rw [hg]; exact HF.out.size)
       have e38 : g3 ≠ g8 := by rw [hg]; exact Nat.ne_of_lt (bkL BK3)
       have e48 : g4 ≠ g8 := by rw [hg]; exact Nat.ne_of_lt (bkL BK4)
       have e83 := e38.symm
       have e84 := e48.symm
       clear H1 H2 HF BK3 BK4 c30 c31 c40 c41
       have H1 := n1_
       have H2 := n2_
       have HF := n3_
       have BK3 := n4_
       have BK4 := n5_
       clear n1_ n2_ n3_ n4_ n5_ hb hbox hg
       have c30 : w8.cell? ⟨g3, 0, none⟩ = some (.map (some b1)) := (blk_cell BK3.out 0).trans rfl
       have c31 : w8.cell? ⟨g3, 1, none⟩ = some (.map (some b2)) := (blk_cell BK3.out 1).trans rfl
       have c40 : w8.cell? ⟨g4, 0, none⟩ = some (.int .i64 a) := (blk_cell BK4.out 0).trans rfl
       have c41 : w8.cell? ⟨g4, 1, none⟩ = some (.int .i64 b) := (blk_cell BK4.out 1).trans rfl
       have c80 : w8.cell? ⟨g8, 0, none⟩ = some (.int .i64 0) := (blk_cell BK8.out 0).trans rfl
       have c81 : w8.cell? ⟨g8, 1, none⟩ = some (.int .i64 0) := (blk_cell BK8.out 1).trans rfl
       have z80 := blk_frozen BK8.out 0
       have z81 := blk_frozen BK8.out 1)
    | (at_mapUpdate
       refine wpList_mapUpdate_own _ rfl _ _ _ 68 rfl 3 34 intKeyed Tryz.underlying68 _ b2 n2 D2 rfl ((H2.out.setCell (om_ne H2.out BK8.out).symm _).setCell (om_ne H2.out BK8.out).symm _) HN2.out _ _ _ rfl rfl (intKey wn) _ _ (endR_mk a b) ?_
       intro w33 hm hg
       have n1_ := Aside0.mk (((H1.out.setCell (om_ne H1.out BK8.out).symm _).setCell (om_ne H1.out BK8.out).symm _).kept hg (by simpa using HNE.out))
       have n2_ := Aside0.mk hm
       have n3_ := Aside0.mk (((HF.out.set GE8.out).set GE8.out).two hg)
       clear H1 H2 HF BK3 BK4 BK8 c30 c31 c40 c41 c80 c81 z80 z81 hm hg
       have H1 := n1_
       have H2 := n2_
       have HF := n3_
       clear n1_ n2_ n3_))
  first | go_end0 | ((try simp only [Exit.inBlock, Exit.then]); refine bodyPost_ret (results_none rfl _ _ _) rfl ?_)
  exact ⟨rfl, H1.out, H2.out, HF.out⟩
set_option maxHeartbeats 8000000 in
set_option maxRecDepth 100000 in
theorem set_new (b1 b2 n1 n2 : Nat) (D1 D2 : DataW Unit) (a b n : Int) (wa : I64 a) (wb : I64 b) (wn : I64 n) (w : World) (hne : b1 ≠ b2)
    (h1 : w.ownsMap Tryz.prog 34 (plainElem Tryz.prog 3) b1 n1 D1) (h2 : w.ownsMap Tryz.prog 3 endR b2 n2 D2) (hn1 : n1 < 1000000000) (hn2 : n2 < 1000000000)
    (f1 : Maps.has D1 (eK a b) = false) (f2 : Maps.has D2 (.int .i64 n) = false) :
    Calls Tryz.prog 87 #[.agg #[.map (some b1), .map (some b2)], .agg #[.int .i64 a, .int .i64 b], .int .i64 n] w fun e w' =>
      e = .returned (.tuple #[]) ∧ w'.ownsMap Tryz.prog 34 (plainElem Tryz.prog 3) b1 (n1 + 1) (D1.put (eK a b) (.lit (.int .i64 n))) ∧ w'.ownsMap Tryz.prog 3 endR b2 (n2 + 1) (D2.put (.int .i64 n) (endD a b)) ∧ Fr w w' b1 b2 := by
  have H1 := Aside0.mk h1
  have H2 := Aside0.mk h2
  have F1 := Aside0.mk f1
  have F2 := Aside0.mk f2
  have HNE := Aside0.mk hne
  have HF := Aside0.mk (Fr.refl w b1 b2)
  have HN1 := Aside0.mk (show n1 < maxLen by simp only [maxLen]; omega)
  have HN2 := Aside0.mk (show n2 < maxLen by simp only [maxLen]; omega)
  clear h1 h2 f1 f2 hne hn1 hn2
  go_enter Tryz.func87, Tryz.ntmps87
  go_wp2_with (first
    | ((with_reducible refine gate_dst (N := 3) rfl ?_)
       refine box_event ?hg (N := 3) ?hd (cs := #[.map (some b1), .map (some b2)]) (t := 70) ?hr ?_
       (case hd => rfl)
       (case hg => rfl)
       (case hr => first | (go_simp; done) | (go_simp; rfl))
       intro g3 hg w3 hbox hb
       have n1_ := Aside0.mk (om_below (w' := w3) H1.out hb)
       have n2_ := Aside0.mk (om_below (w' := w3) H2.out hb)
       have n3_ := Aside0.mk (Fr.below HF.out (w'' := w3) hb)
       have BK3 := Aside0.mk hbox
       clear H1 H2 HF
       have H1 := n1_
       have H2 := n2_
       have HF := n3_
       clear n1_ n2_ n3_ hb hbox hg)
    | ((with_reducible refine gate_dst (N := 4) rfl ?_)
       refine box_event ?hg (N := 4) ?hd (cs := #[.int .i64 a, .int .i64 b]) (t := 34) ?hr ?_
       (case hd => rfl)
       (case hg => rfl)
       (case hr => first | (go_simp; done) | (go_simp; rfl))
       intro g4 hg w4 hbox hb
       have n1_ := Aside0.mk (om_below (w' := w4) H1.out hb)
       have n2_ := Aside0.mk (om_below (w' := w4) H2.out hb)
       have n3_ := Aside0.mk (Fr.below HF.out (w'' := w4) hb)
       have n4_ := bkB BK3 hb
       have BK4 := Aside0.mk hbox
       have NB := Aside0.mk (show g3 ≠ g4 from by rw [hg]; exact Nat.ne_of_lt (bkL BK3))
       clear H1 H2 HF BK3
       have H1 := n1_
       have H2 := n2_
       have HF := n3_
       have BK3 := n4_
       clear n1_ n2_ n3_ n4_ hb hbox hg
       have c30 : w4.cell? ⟨g3, 0, none⟩ = some (.map (some b1)) := (blk_cell BK3.out 0).trans rfl
       have c31 : w4.cell? ⟨g3, 1, none⟩ = some (.map (some b2)) := (blk_cell BK3.out 1).trans rfl
       have c40 : w4.cell? ⟨g4, 0, none⟩ = some (.int .i64 a) := (blk_cell BK4.out 0).trans rfl
       have c41 : w4.cell? ⟨g4, 1, none⟩ = some (.int .i64 b) := (blk_cell BK4.out 1).trans rfl)
    | ((with_reducible refine gate_dst (N := 14) rfl ?_)
       at_lookup
       refine wpList_lookup_own_ok_int _ rfl _ _ 67 rfl 34 3 .i64 endKeyed Tryz.underlying67 Tryz.underlying3 (zero3 _) b1 n1 D1 rfl H1.out _ _ rfl (endKey wa wb) ?_
       intro c14 hat hwc
       rw [F1.out]
       clear hat hwc)
    | (at_mapUpdate
       refine wpList_mapUpdate_own _ rfl _ _ _ 67 rfl 34 3 endKeyed Tryz.underlying67 _ b1 n1 D1 rfl H1.out HN1.out _ _ _ rfl rfl (endKey wa wb) _ _ (plainElem_int Tryz.underlying3 wn) ?_
       intro w20 hm hg
       have n1_ := Aside0.mk hm
       have n2_ := Aside0.mk (H2.out.kept hg (by simpa using HNE.out.symm))
       have n3_ := Aside0.mk (HF.out.one hg)
       have n4_ : Aside0 (w20.heap[g3]? = some (.cells #[.map (some b1), .map (some b2)] 70 (0, 0))) := ⟨(hg.block g3 (blk_lt BK3.out) (by simpa using om_ne H1.out BK3.out)).trans BK3.out⟩
       have n5_ : Aside0 (w20.heap[g4]? = some (.cells #[.int .i64 a, .int .i64 b] 34 (0, 0))) := ⟨(hg.block g4 (blk_lt BK4.out) (by simpa using om_ne H1.out BK4.out)).trans BK4.out⟩
       clear H1 H2 HF BK3 BK4 c30 c31 c40 c41
       have H1 := n1_
       have H2 := n2_
       have HF := n3_
       have BK3 := n4_
       have BK4 := n5_
       clear n1_ n2_ n3_ n4_ n5_ hm hg
       have c30 : w20.cell? ⟨g3, 0, none⟩ = some (.map (some b1)) := (blk_cell BK3.out 0).trans rfl
       have c31 : w20.cell? ⟨g3, 1, none⟩ = some (.map (some b2)) := (blk_cell BK3.out 1).trans rfl
       have c40 : w20.cell? ⟨g4, 0, none⟩ = some (.int .i64 a) := (blk_cell BK4.out 0).trans rfl
       have c41 : w20.cell? ⟨g4, 1, none⟩ = some (.int .i64 b) := (blk_cell BK4.out 1).trans rfl)
    | ((with_reducible refine gate_dst (N := 27) rfl ?_)
       at_lookup
       refine wpList_lookup_own_ok _ rfl _ _ 68 rfl 3 34 intKeyed Tryz.underlying68 _ (zeroEnd _) (endD 0 0) [] (endR_mk 0 0) b2 n2 D2 rfl H2.out _ _ rfl (intKey wn) ?_
       intro v27 ps27 hv27
       rw [F2.out]
       obtain ⟨xa, xb, rfl, _⟩ := endR_inv hv27
       clear hv27)
    | ((with_reducible refine gate_dst (N := 8) rfl ?_)
       refine box_event ?hg (N := 8) ?hd (cs := #[.int .i64 0, .int .i64 0]) (t := 34) ?hr ?_
       (case hd => rfl)
       (case hg => rfl)
       (case hr => first | (go_simp; done) | (go_simp; rfl))
       intro g8 hg w8 hbox hb
       have n1_ := Aside0.mk (om_below (w' := w8) H1.out hb)
       have n2_ := Aside0.mk (om_below (w' := w8) H2.out hb)
       have n3_ := Aside0.mk (Fr.below HF.out (w'' := w8) hb)
       have n4_ := bkB BK3 hb
       have n5_ := bkB BK4 hb
       have BK8 := Aside0.mk hbox
       have GE8 := Aside0.mk (show w.heap.size ≤ g8 from by rw [hg]; exact HF.out.size)
       have e38 : g3 ≠ g8 := by rw [hg]; exact Nat.ne_of_lt (bkL BK3)
       have e48 : g4 ≠ g8 := by rw [hg]; exact Nat.ne_of_lt (bkL BK4)
       have e83 := e38.symm
       have e84 := e48.symm
       clear H1 H2 HF BK3 BK4 c30 c31 c40 c41
       have H1 := n1_
       have H2 := n2_
       have HF := n3_
       have BK3 := n4_
       have BK4 := n5_
       clear n1_ n2_ n3_ n4_ n5_ hb hbox hg
       have c30 : w8.cell? ⟨g3, 0, none⟩ = some (.map (some b1)) := (blk_cell BK3.out 0).trans rfl
       have c31 : w8.cell? ⟨g3, 1, none⟩ = some (.map (some b2)) := (blk_cell BK3.out 1).trans rfl
       have c40 : w8.cell? ⟨g4, 0, none⟩ = some (.int .i64 a) := (blk_cell BK4.out 0).trans rfl
       have c41 : w8.cell? ⟨g4, 1, none⟩ = some (.int .i64 b) := (blk_cell BK4.out 1).trans rfl
       have c80 : w8.cell? ⟨g8, 0, none⟩ = some (.int .i64 0) := (blk_cell BK8.out 0).trans rfl
       have c81 : w8.cell? ⟨g8, 1, none⟩ = some (.int .i64 0) := (blk_cell BK8.out 1).trans rfl
       have z80 := blk_frozen BK8.out 0
       have z81 := blk_frozen BK8.out 1)
    | (at_mapUpdate
       refine wpList_mapUpdate_own _ rfl _ _ _ 68 rfl 3 34 intKeyed Tryz.underlying68 _ b2 n2 D2 rfl ((H2.out.setCell (om_ne H2.out BK8.out).symm _).setCell (om_ne H2.out BK8.out).symm _) HN2.out _ _ _ rfl rfl (intKey wn) _ _ (endR_mk a b) ?_
       intro w33 hm hg
       have n1_ := Aside0.mk (((H1.out.setCell (om_ne H1.out BK8.out).symm _).setCell (om_ne H1.out BK8.out).symm _).kept hg (by simpa using HNE.out))
       have n2_ := Aside0.mk hm
       have n3_ := Aside0.mk (((HF.out.set GE8.out).set GE8.out).two hg)
       clear H1 H2 HF BK3 BK4 BK8 c30 c31 c40 c41 c80 c81 z80 z81 hm hg
       have H1 := n1_
       have H2 := n2_
       have HF := n3_
       clear n1_ n2_ n3_))
  first | go_end0 | ((try simp only [Exit.inBlock, Exit.then]); refine bodyPost_ret (results_none rfl _ _ _) rfl ?_)
  exact ⟨rfl, H1.out, H2.out, HF.out⟩
end Go.Proofs.YtffmbccgcaghjaaGreatDoor.P
namespace Go.Proofs.YtffmbccgcaghjaaGreatDoor.P
open Go.RowKit Go.Proofs.YtffmbccgcaghjaaGreatDoorUFnBakRwr.PrintWords Go.Proofs.YtffmbccgcaghjaaGreatDoorUFnBakRwr.PrintLast Go.Proofs.YtffmbccgcaghjaaGreatDoorUFnBakRwr.PrintMore
set_option linter.unusedVariables false
set_option linter.unusedSimpArgs false
def Tab (w : World) (l : List S34) (b1 b2 : Nat) : Prop := ∃ n1 n2 D1 D2, w.ownsMap Tryz.prog 34 (plainElem Tryz.prog 3) b1 n1 D1 ∧ w.ownsMap Tryz.prog 3 endR b2 n2 D2 ∧ n1 ≤ l.length ∧ n2 ≤ 2 * l.length ∧ Says1 l D1 ∧ Says2 l D2
def Wf (x : S34) : Prop := I64 x.f0 ∧ I64 x.f1
theorem Tab.kept {w w' : World} {l : List S34} {b1 b2 : Nat} (h : Tab w l b1 b2) (hk : ∀ i, i < w.heap.size → i = b1 ∨ i = b2 → w'.heap[i]? = w.heap[i]?) : Tab w' l b1 b2 := by
  obtain ⟨n1, n2, D1, D2, h1, h2, r⟩ := h
  have l1 := h1.lt
  have l2 := h2.lt
  obtain ⟨es, c, q1, q2⟩ := h1
  obtain ⟨es', c', q1', q2'⟩ := h2
  exact ⟨n1, n2, D1, D2, ⟨es, c, (hk b1 l1 (.inl rfl)).trans q1, q2⟩, ⟨es', c', (hk b2 l2 (.inr rfl)).trans q1', q2'⟩, r⟩
theorem Tab.below {w w' : World} {l : List S34} {b1 b2 : Nat} (h : Tab w l b1 b2) (hb : Below w.heap.size w w') : Tab w' l b1 b2 := h.kept fun i hi _ => hb.block i hi
theorem Tab.ne {w : World} {l : List S34} {b1 b2 g : Nat} {cs : Array Value} {t : TypeId} (h : Tab w l b1 b2) (hg : w.heap[g]? = some (.cells cs t (0, 0))) : g ≠ b1 ∧ g ≠ b2 := by
  obtain ⟨n1, n2, D1, D2, h1, h2, r⟩ := h
  exact ⟨om_ne h1 hg, om_ne h2 hg⟩
theorem Tab.set {w : World} {l : List S34} {b1 b2 g j : Nat} {v : Value} {cs : Array Value} {t : TypeId} (h : Tab w l b1 b2) (hg : w.heap[g]? = some (.cells cs t (0, 0))) : Tab (w.setCell ⟨g, j, none⟩ v) l b1 b2 :=
  h.kept fun i _ hi => heap_setCell_other w ⟨g, j, none⟩ i v (fun e => by
    have := h.ne hg
    simp at e
    rcases hi with rfl | rfl
    · exact this.1 e.symm
    · exact this.2 e.symm)
theorem set_tab (b1 b2 : Nat) (l : List S34) (x : S34) (p : Int) (w : World) (hne : b1 ≠ b2) (hx : Wf x) (hl : l.length < 100000000) (hp : p = 500 + l.length) (h : Tab w l b1 b2) :
    Calls Tryz.prog 87 #[.agg #[.map (some b1), .map (some b2)], .agg #[.int .i64 x.f0, .int .i64 x.f1], .int .i64 p] w fun e w' =>
      e = .returned (.tuple #[]) ∧ (∃ n1 n2 D1 D2, w'.ownsMap Tryz.prog 34 (plainElem Tryz.prog 3) b1 n1 D1 ∧ w'.ownsMap Tryz.prog 3 endR b2 n2 D2 ∧ n1 ≤ l.length + 1 ∧ n2 ≤ 2 * l.length + 1 ∧ Says1 (l ++ [x]) D1 ∧ Says2 (l ++ [x]) D2) ∧ Fr w w' b1 b2 := by
  subst hp
  obtain ⟨n1, n2, D1, D2, h1, h2, hn1, hn2, s1, s2⟩ := h
  have wn : I64 (500 + l.length) := (i64_iff _).mpr (by omega)
  have f2 := says2_has s2 (by omega)
  have s2' := says2_put s2 h2.isMap x (by omega)
  cases hf : Maps.has D1 (eK x.f0 x.f1) with
  | true =>
    refine (set_old b1 b2 n1 n2 D1 D2 x.f0 x.f1 _ hx.1 hx.2 wn w hne h1 h2 (by omega) (by omega) hf f2).mono ?_
    rintro e w' ⟨rfl, k1, k2, k3⟩
    exact ⟨rfl, ⟨_, _, _, _, k1, k2, by omega, by omega, says1_old s1 x hx hf, s2'⟩, k3⟩
  | false =>
    refine (set_new b1 b2 n1 n2 D1 D2 x.f0 x.f1 _ hx.1 hx.2 wn w hne h1 h2 (by omega) (by omega) hf f2).mono ?_
    rintro e w' ⟨rfl, k1, k2, k3⟩
    exact ⟨rfl, ⟨_, _, _, _, k1, k2, by omega, by omega, says1_new s1 h1.isMap x hx hf, s2'⟩, k3⟩
theorem mk_event {P : Program} {w : World} {ops : Array Oper} {rest : List Oper} {o : Oper} {a : Act} {Q : Exit → Act → World → Prop} (hgd : o.guard = none) {N : Tmp} (_hd : o.dst = some N) (t : TypeId) (hop : o.op = Op.makeMap t none)
    (h : ∀ g w1, g = w.heap.size → w1.heap[g]? = some (.map #[] 0) → Below w.heap.size w w1 → wpList P ops Q rest (a.put o.dst (.map (some g))) w1) : wpList P ops Q (o :: rest) a w := by
  refine Kd.event_run hgd (v := .map (some w.heap.size)) (w1 := w.alloc (.map #[] 0)) ?_ (h _ _ rfl (heap_alloc_new w _) (below_alloc (Below.refl _ _) _))
  simp [execOp, hop, run_makeMap, Result.andThen]
theorem tab_made {w : World} {b1 b2 : Nat} (h1 : w.heap[b1]? = some (.map #[] 0)) (h2 : w.heap[b2]? = some (.map #[] 0)) : Tab w [] b1 b2 := by
  have q1 : ∀ (k : TypeId) (R : Value → Option (DataW Unit × List MemPlace)) (b : Nat), w.heap[b]? = some (.map #[] 0) → w.ownsMap Tryz.prog k R b 0 (.map []) := by
    intro k R b hb
    obtain ⟨es, c, z1, z2, z3, z4⟩ := World.ownsMap_made (default : World) Tryz.prog k R
    rw [heap_alloc_new] at z1
    injection z1 with z1
    injection z1 with z1 z1'
    subst z1; subst z1'
    exact ⟨_, _, hb, z2, z3, z4⟩
  exact ⟨0, 0, _, _, q1 _ _ _ h1, q1 _ _ _ h2, Nat.le_refl _, Nat.le_refl _, says1_nil, says2_nil⟩
theorem fr_blk {W w' : World} {b1 b2 g : Nat} {o : Obj} (hF : Fr W w' b1 b2) (h : W.heap[g]? = some o) (n : g ≠ b1 ∧ g ≠ b2) : w'.heap[g]? = some o := (hF.block g (blk_lt h) n.1 n.2).trans h
theorem below_fr {w W w' : World} {b1 b2 : Nat} (h : Below w.heap.size w W) (hF : Fr W w' b1 b2) (h1 : w.heap.size ≤ b1) (h2 : w.heap.size ≤ b2) : Below w.heap.size w w' :=
  ⟨hF.os.trans h.os, hF.tape.trans h.tape, hF.output.trans h.output, Nat.le_trans h.size hF.size, fun i hi => (hF.block i (Nat.lt_of_lt_of_le hi h.size) (by omega) (by omega)).trans (h.block i hi)⟩
theorem rd29_get {l : List S34} {i : Nat} (h : i < l.length) : rd_T34 l (i : Int) = l[i] := by
  unfold rd_T34
  simp [List.getD, h]
theorem map_below {w w' : World} {b : Nat} {o : Obj} (h : w.heap[b]? = some o) (hb : Below w.heap.size w w') : w'.heap[b]? = some o := blk_below h hb
theorem map_ne {w : World} {b g : Nat} {cs : Array Value} {t : TypeId} (h : w.heap[b]? = some (.map #[] 0)) (hg : w.heap[g]? = some (.cells cs t (0, 0))) : g ≠ b := by
  rintro rfl
  rw [h] at hg
  cases hg
set_option maxHeartbeats 8000000 in
set_option maxRecDepth 100000 in
theorem portsOf_walk (A : Option Addr) (c : Nat) (l : List S34) (w : World) (hr : Kd.C k34 w A l.length l) (hc : l.length ≤ c) (hl : l.length < 1000000) (hw : ∀ x ∈ l, Wf x) :
    Calls Tryz.prog 55 #[.agg #[.slice A l.length c]] w fun e w' => ∃ b1 b2, e = .returned (.agg #[.map (some b1), .map (some b2)]) ∧ Tab w' l b1 b2 ∧ Below w.heap.size w w' := by
  have HR := Aside0.mk hr
  have HW := Aside0.mk hw
  have HL := Aside0.mk hl
  clear hr hw hl hc
  have HB := Aside0.mk (Below.refl w.heap.size w)
  go_enter Tryz.func55, Tryz.ntmps55
  go_wp2_with (first
    | ((with_reducible refine gate_dst (N := 1) rfl ?_)
       refine box_event ?hg (N := 1) ?hd (cs := #[.slice A l.length c]) (t := 25) ?hr ?_
       (case hd => rfl)
       (case hg => rfl)
       (case hr => first | (go_simp; done) | (go_simp; rfl))
       intro g1 hg w3 hbox hb
       have n1_ := Aside0.mk (below_step (bl HB) hb)
       have G1 := Aside0.mk (show w.heap.size ≤ g1 from by rw [hg]; exact below_size (bl HB))
       have BK1 := Aside0.mk hbox
       clear HB
       have HB := n1_
       clear n1_ hg hbox hb)
    | ((with_reducible refine gate_dst (N := 2) rfl ?_)
       refine box_event ?hg (N := 2) ?hd (cs := #[.map none, .map none]) (t := 70) ?hr ?_
       (case hd => rfl)
       (case hg => rfl)
       (case hr => first | (go_simp; done) | (go_simp; rfl))
       intro g2 hg w4 hbox hb
       have n1_ := Aside0.mk (below_step (bl HB) hb)
       have n2_ := bkB BK1 hb
       have G2 := Aside0.mk (show w.heap.size ≤ g2 from by rw [hg]; exact below_size (bl HB))
       have E12 := Aside0.mk (show g1 ≠ g2 from by rw [hg]; exact Nat.ne_of_lt (bkL BK1))
       have BK2 := Aside0.mk hbox
       clear HB BK1
       have HB := n1_
       have BK1 := n2_
       clear n1_ n2_ hg hbox hb)
    | ((with_reducible refine gate_dst (N := 6) rfl ?_)
       refine mk_event ?hg (N := 6) ?hd _ rfl ?_
       (case hd => rfl)
       (case hg => rfl)
       intro b1 w5 hg hbox hb
       have n1_ := Aside0.mk (below_step (bl HB) hb)
       have n2_ := bkB BK1 hb
       have n3_ := bkB BK2 hb
       have GM1 := Aside0.mk (show w.heap.size ≤ b1 from by rw [hg]; exact below_size (bl HB))
       have MK1 := Aside0.mk hbox
       clear HB BK1 BK2
       have HB := n1_
       have BK1 := n2_
       have BK2 := n3_
       clear n1_ n2_ n3_ hg hbox hb)
    | ((with_reducible refine gate_dst (N := 7) rfl ?_)
       refine mk_event ?hg (N := 7) ?hd _ rfl ?_
       (case hd => rfl)
       (case hg => rfl)
       intro b2 w6 hg hbox hb
       have n1_ := Aside0.mk (below_step (bl HB) hb)
       have n2_ := bkB BK1 hb
       have n3_ := bkB BK2 hb
       have n4_ := bkB MK1 hb
       have GM2 := Aside0.mk (show w.heap.size ≤ b2 from by rw [hg]; exact below_size (bl HB))
       have HNE := Aside0.mk (show b1 ≠ b2 from by rw [hg]; exact Nat.ne_of_lt (bkL MK1))
       have MK2 := Aside0.mk hbox
       clear HB BK1 BK2 MK1
       have HB := n1_
       have BK1 := n2_
       have BK2 := n3_
       have MK1 := n4_
       clear n1_ n2_ n3_ n4_ hg hbox hb)
    | ((with_reducible refine gate_dst (N := 3) rfl ?_)
       refine box_event ?hg (N := 3) ?hd (cs := #[.map none, .map none]) (t := 70) ?hr ?_
       (case hd => rfl)
       (case hg => rfl)
       (case hr => first | (go_simp; done) | (go_simp; rfl))
       intro g3 hg w7 hbox hb
       have n1_ := Aside0.mk (below_step (bl HB) hb)
       have n2_ := bkB BK1 hb
       have n3_ := bkB BK2 hb
       have n4_ := bkB MK1 hb
       have n5_ := bkB MK2 hb
       have G3 := Aside0.mk (show w.heap.size ≤ g3 from by rw [hg]; exact below_size (bl HB))
       have e13 : g1 ≠ g3 := by rw [hg]; exact Nat.ne_of_lt (bkL BK1)
       have e31 := e13.symm
       have E23 := Aside0.mk (show g2 ≠ g3 from by rw [hg]; exact Nat.ne_of_lt (bkL BK2))
       have BK3 := Aside0.mk hbox
       clear HB BK1 BK2 MK1 MK2
       have HB := n1_
       have BK1 := n2_
       have BK2 := n3_
       have MK1 := n4_
       have MK2 := n5_
       clear n1_ n2_ n3_ n4_ n5_ hg hbox hb
       have c10 : w7.cell? ⟨g1, 0, none⟩ = some (.slice A l.length c) := (blk_cell BK1.out 0).trans rfl
       have c30 : w7.cell? ⟨g3, 0, none⟩ = some (.map none) := (blk_cell BK3.out 0).trans rfl
       have c31 : w7.cell? ⟨g3, 1, none⟩ = some (.map none) := (blk_cell BK3.out 1).trans rfl
       have z30 := blk_frozen BK3.out 0
       have z31 := blk_frozen BK3.out 1))
  have n1_ : Aside0 (((w7.setCell ⟨g3, 0, none⟩ (.map (some b1))).setCell ⟨g3, 1, none⟩ (.map (some b2))).heap[g1]? = some (.cells #[.slice A l.length c] 25 (0, 0))) := ⟨blk_far (blk_far BK1.out e13 _) e13 _⟩
  have n2_ : Aside0 (((w7.setCell ⟨g3, 0, none⟩ (.map (some b1))).setCell ⟨g3, 1, none⟩ (.map (some b2))).heap[g2]? = some (.cells #[.map none, .map none] 70 (0, 0))) := ⟨blk_far (blk_far BK2.out E23.out _) E23.out _⟩
  have n3_ : Aside0 (((w7.setCell ⟨g3, 0, none⟩ (.map (some b1))).setCell ⟨g3, 1, none⟩ (.map (some b2))).heap[g3]? = some (.cells #[.map (some b1), .map (some b2)] 70 (0, 0))) := ⟨by
    have z := blk_set (blk_set BK3.out 0 (.map (some b1))) 1 (.map (some b2))
    simpa using z⟩
  have n4_ : Aside0 (Tab ((w7.setCell ⟨g3, 0, none⟩ (.map (some b1))).setCell ⟨g3, 1, none⟩ (.map (some b2))) (l.take 0) b1 b2) := ⟨by
    have z := (tab_made MK1.out MK2.out).set (j := 0) (v := .map (some b1)) BK3.out
    exact z.set (j := 1) (v := .map (some b2)) (blk_set BK3.out 0 (.map (some b1)))⟩
  have n5_ : Aside0 (Below w.heap.size w ((w7.setCell ⟨g3, 0, none⟩ (.map (some b1))).setCell ⟨g3, 1, none⟩ (.map (some b2)))) := ⟨below_set (below_set HB.out G3.out) G3.out⟩
  clear c10 c30 c31 z30 z31 BK1 BK2 BK3 MK1 MK2 HB
  generalize (w7.setCell ⟨g3, 0, none⟩ (.map (some b1))).setCell ⟨g3, 1, none⟩ (.map (some b2)) = w8 at n1_ n2_ n3_ n4_ n5_ ⊢
  go_loopg [12] l.length (fun kq v12 w' => ∃ (x : Int) (m : Nat), v12 = .int .i64 x ∧ Aside0 (x = m) ∧ Aside0 (m + kq = l.length) ∧ Aside0 (w'.heap[g1]? = some (.cells #[.slice A l.length c] 25 (0, 0))) ∧ Aside0 (w'.heap[g2]? = some (.cells #[.map none, .map none] 70 (0, 0))) ∧ Aside0 (w'.heap[g3]? = some (.cells #[.map (some b1), .map (some b2)] 70 (0, 0))) ∧ Aside0 (Tab w' (l.take m) b1 b2) ∧ Aside0 (Below w.heap.size w w'))
  case atStart => exact ⟨0, 0, (by first | rfl | (simp; done)), ⟨rfl⟩, ⟨by omega⟩, n1_, n2_, n3_, n4_, n5_⟩
  case round =>
    clear n1_ n2_ n3_ n4_ n5_
    obtain ⟨x, m, rfl, HX, HM, BK1, BK2, BK3, HT, HB⟩ := hrel
    cases gk with
    | zero =>
      have hm : m = l.length := by have := HM.out; omega
      have HE := Aside0.mk hm
      have c0 : decide (x < (l.length : Int)) = false := by have := HX.out; simp; omega
      clear hm
      have c30 : wr.cell? ⟨g3, 0, none⟩ = some (.map (some b1)) := (blk_cell BK3.out 0).trans rfl
      have c31 : wr.cell? ⟨g3, 1, none⟩ = some (.map (some b2)) := (blk_cell BK3.out 1).trans rfl
      have c20 : wr.cell? ⟨g2, 0, none⟩ = some (.map none) := (blk_cell BK2.out 0).trans rfl
      have c21 : wr.cell? ⟨g2, 1, none⟩ = some (.map none) := (blk_cell BK2.out 1).trans rfl
      have z20 := blk_frozen BK2.out 0
      have z21 := blk_frozen BK2.out 1
      go_wp2
      refine bodyPost_ret (results_cell_row rfl _ _ g2 70 #[.map (some b1), .map (some b2)] (0, 0) _ rfl (by (with_reducible repeat refine bu ?_); refine blk_put (cs := #[.map (some b1), .map none]) ?_ 1 _ rfl; (with_reducible repeat refine bu ?_); refine blk_put (cs := #[.map none, .map none]) ?_ 0 _ rfl; (with_reducible repeat refine bu ?_); exact BK2.out) Tryz.underlying70 rfl (by kernel_rfl)) rfl ?_
      refine ⟨b1, b2, rfl, ?_, below_set (below_set HB.out G2.out) G2.out⟩
      have z := HT.out
      rw [HE.out, List.take_length] at z
      exact (z.set BK2.out).set (blk_set BK2.out 0 (.map (some b1)))
    | succ k1 =>
      have hm : m < l.length := by have := HM.out; omega
      have hx0 : (0 : Int) ≤ x := by have := HX.out; omega
      have hx1 : x < (l.length : Int) := by have := HX.out; omega
      have c0 : decide (x < (l.length : Int)) = true := decide_eq_true hx1
      obtain ⟨ad, e_, hc0, hc1⟩ := at_T34 (Kd.C_below HR.out HB.out) x hx0 hx1
      cases e_
      have WX := Aside0.mk (show Wf (rd_T34 l x) from by rw [HX.out, rd29_get hm]; exact HW.out _ (List.getElem_mem hm))
      have HTK := Aside0.mk (show l.take (m + 1) = l.take m ++ [rd_T34 l x] from by rw [HX.out, rd29_get hm]; exact List.take_succ_eq_append_getElem hm)
      have MM := Aside0.mk hm
      obtain ⟨p, hp⟩ : ∃ p : Int, p = 500 + ((l.take m).length : Int) := ⟨_, rfl⟩
      have hpw : IntKind.i64.wrap (500 + x) = p := by
        have := HX.out
        have hl' := HL.out
        rw [i64_w, hp, List.length_take]
        unfold wrap64
        omega
      have HP := Aside0.mk hp
      have HLT := Aside0.mk (show (l.take m).length < 100000000 from by have := HL.out; rw [List.length_take]; omega)
      clear hp hm
      replace hx0 := eq_true hx0
      replace hx1 := eq_true hx1
      go_wp2_with (first
        | ((with_reducible refine gate_dst (N := 5) rfl ?_)
           refine box_event ?hg (N := 5) ?hd (cs := #[.int .i64 0, .int .i64 0]) (t := 34) ?hr ?_
           (case hd => rfl)
           (case hg => rfl)
           (case hr => first | (go_simp; done) | (go_simp; rfl))
           intro g5 hg w9 hbox hb
           have n1_ := Aside0.mk (below_step (bl HB) hb)
           have n2_ := bkB BK1 hb
           have n3_ := bkB BK2 hb
           have n4_ := bkB BK3 hb
           have n5_ := Aside0.mk (Tab.below HT.out (w' := w9) hb)
           have G5 := Aside0.mk (show w.heap.size ≤ g5 from by rw [hg]; exact below_size (bl HB))
           have e15 : g1 ≠ g5 := by rw [hg]; exact Nat.ne_of_lt (bkL BK1)
           have e25 : g2 ≠ g5 := by rw [hg]; exact Nat.ne_of_lt (bkL BK2)
           have e35 : g3 ≠ g5 := by rw [hg]; exact Nat.ne_of_lt (bkL BK3)
           have e53 := e35.symm
           have BK5 := Aside0.mk hbox
           clear HB BK1 BK2 BK3 HT
           have HB := n1_
           have BK1 := n2_
           have BK2 := n3_
           have BK3 := n4_
           have HT := n5_
           clear n1_ n2_ n3_ n4_ n5_ hg hbox hb
           have c30 : w9.cell? ⟨g3, 0, none⟩ = some (.map (some b1)) := (blk_cell BK3.out 0).trans rfl
           have c31 : w9.cell? ⟨g3, 1, none⟩ = some (.map (some b2)) := (blk_cell BK3.out 1).trans rfl
           have c50 : w9.cell? ⟨g5, 0, none⟩ = some (.int .i64 0) := (blk_cell BK5.out 0).trans rfl
           have c51 : w9.cell? ⟨g5, 1, none⟩ = some (.int .i64 0) := (blk_cell BK5.out 1).trans rfl
           have z50 := blk_frozen BK5.out 0
           have z51 := blk_frozen BK5.out 1)
        | ((with_reducible refine gate_callee (f := 87) rfl ?_)
           refine goesL_ _ rfl rfl Tryz.func87 (by kernel_rfl) rfl #[.agg #[.map (some b1), .map (some b2)], .agg #[.int .i64 ((rd_T34 l x).f0), .int .i64 ((rd_T34 l x).f1)], .int .i64 p] rfl (by (try simp only [List.map_toArray, List.map_cons, List.map_nil]); first | done | rfl) ?_
           (with_reducible refine (set_tab b1 b2 (l.take m) (rd_T34 l x) p _ HNE.out WX.out HLT.out HP.out ?side).mono ?_)
           (case side => exact (HT.out.set BK5.out).set (blk_set BK5.out 0 (.int .i64 ((rd_T34 l x).f0))))
           rintro e w10 ⟨rfl, hT, hF⟩
           refine ⟨_, rfl, ?_⟩
           have n1_ := Aside0.mk (fr_blk hF (blk_far (blk_far BK1.out e15 _) e15 _) (HT.out.ne BK1.out))
           have n2_ := Aside0.mk (fr_blk hF (blk_far (blk_far BK2.out e25 _) e25 _) (HT.out.ne BK2.out))
           have n3_ := Aside0.mk (fr_blk hF (blk_far (blk_far BK3.out e35 _) e35 _) (HT.out.ne BK3.out))
           have n5_ : Aside0 (w10.heap[g5]? = some (.cells #[.int .i64 ((rd_T34 l x).f0), .int .i64 ((rd_T34 l x).f1)] 34 (0, 0))) := ⟨fr_blk hF (by
             have z := blk_set (blk_set BK5.out 0 (.int .i64 ((rd_T34 l x).f0))) 1 (.int .i64 ((rd_T34 l x).f1))
             simpa using z) (HT.out.ne BK5.out)⟩
           have n6_ := Aside0.mk (below_fr (below_set (below_set HB.out G5.out) G5.out) hF GM1.out GM2.out)
           have HT2 := Aside0.mk hT
           clear HT HB BK1 BK2 BK3 BK5 c30 c31 c50 c51 z50 z51 hT hF
           have BK1 := n1_
           have BK2 := n2_
           have BK3 := n3_
           have BK5 := n5_
           have HB := n6_
           clear n1_ n2_ n3_ n5_ n6_
           have c30 : w10.cell? ⟨g3, 0, none⟩ = some (.map (some b1)) := (blk_cell BK3.out 0).trans rfl
           have c31 : w10.cell? ⟨g3, 1, none⟩ = some (.map (some b2)) := (blk_cell BK3.out 1).trans rfl
           have c50 : w10.cell? ⟨g5, 0, none⟩ = some (.int .i64 ((rd_T34 l x).f0)) := (blk_cell BK5.out 0).trans rfl
           have c51 : w10.cell? ⟨g5, 1, none⟩ = some (.int .i64 ((rd_T34 l x).f1)) := (blk_cell BK5.out 1).trans rfl
           obtain ⟨n1, n2, D1, D2, h1, h2, hn1, hn2, s1, s2⟩ := HT2.out
           clear HT2
           have M1 := Aside0.mk h1
           have M2 := Aside0.mk h2
           have N1 := Aside0.mk hn1
           have N2 := Aside0.mk hn2
           have S1 := Aside0.mk s1
           have S2 := Aside0.mk s2
           clear h1 h2 hn1 hn2 s1 s2)
        | (at_mapUpdate
           refine wpList_mapUpdate_own _ rfl _ _ _ 68 rfl 3 34 intKeyed Tryz.underlying68 _ b2 n2 D2 rfl M2.out (by have := N2.out; have := HLT.out; simp only [maxLen]; omega) _ _ _ rfl rfl (intKey ((i64_iff _).mpr (by have := HP.out; have := HLT.out; omega))) _ _ (endR_mk _ _) ?_
           intro w33 hm hg
           have F : Fr w10 w33 b1 b2 := Fr.two (Fr.refl _ _ _) hg
           have TN : ∀ {g : Nat} {cs : Array Value} {t : TypeId}, w10.heap[g]? = some (.cells cs t (0, 0)) → g ≠ b1 ∧ g ≠ b2 := fun hg => ⟨om_ne M1.out hg, om_ne M2.out hg⟩
           have n1_ := Aside0.mk (fr_blk F BK1.out (TN BK1.out))
           have n2_ := Aside0.mk (fr_blk F BK2.out (TN BK2.out))
           have n3_ := Aside0.mk (fr_blk F BK3.out (TN BK3.out))
           have n6_ := Aside0.mk (below_fr HB.out F GM1.out GM2.out)
           have n7_ : Aside0 (Tab w33 (l.take (m + 1)) b1 b2) := ⟨by
             rw [HTK.out]
             refine ⟨n1, n2 + 1, D1, _, M1.out.kept hg (by simpa using HNE.out), hm, by have := N1.out; simp only [List.length_append, List.length_cons, List.length_nil]; omega, by have := N2.out; simp only [List.length_append, List.length_cons, List.length_nil]; omega, S1.out, ?_⟩
             rw [HP.out]
             exact says2_again S2.out M2.out.isMap (by have := HLT.out; omega)⟩
           clear HB BK1 BK2 BK3 BK5 c30 c31 c50 c51 M1 M2 N1 N2 S1 S2 hm hg F TN
           have BK1 := n1_
           have BK2 := n2_
           have BK3 := n3_
           have HB := n6_
           have HT := n7_
           clear n1_ n2_ n3_ n6_ n7_))
      go_roundg k1
      case measure => omega
      case rel => exact ⟨x + 1, m + 1, (by
        have := HX.out
        have := HL.out
        have := MM.out
        have e : wrap64 (x + 1) = x + 1 := by unfold wrap64; omega
        simp only [i64_w, e]), ⟨by have := HX.out; push_cast; omega⟩, ⟨by have := HM.out; omega⟩, BK1, BK2, BK3, HT, HB⟩
end Go.Proofs.YtffmbccgcaghjaaGreatDoor.P
