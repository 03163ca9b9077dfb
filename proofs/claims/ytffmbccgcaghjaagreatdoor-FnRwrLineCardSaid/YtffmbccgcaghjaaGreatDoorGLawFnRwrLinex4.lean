import Derived.Test.YtffmbccgcaghjaaGreatDoorGLawFnRwrLinex3
import Derived.Lib.SplitLaws
namespace Go.Proofs.YtffmbccgcaghjaaGreatDoor.P
open Go.RowKit Go.Proofs.YtffmbccgcaghjaaGreatDoorUFnRwrLine.PrintWords Go.Proofs.YtffmbccgcaghjaaGreatDoorUFnRwrLine.PrintLast Go.Proofs.YtffmbccgcaghjaaGreatDoorUFnRwrLine.PrintMore
attribute [local go_sem] max2_int min2_int max_two min_two max_three min_three max_four min_four
set_option linter.unusedVariables false
set_option linter.unusedSimpArgs false
def spec_l3Line.f (k : Nat) (l0_0 : List (S34)) (a1 : ByteArray) : Option ((List (S34)) × ByteArray) := (spec_LinSays.f k a1).bind fun bt436 => (if bt436.2.2 = true then ((spec_l3Put.f k l0_0 bt436.1 bt436.2.1).bind fun bt440 => (if bt440.2 = 0 then (some (bt440.1, (⟨#[110, 111, 110, 101]⟩ : ByteArray))) else ((spec_LinPort.f k 50 bt440.2).bind fun t445 => (some (bt440.1, t445))))) else (some (l0_0, a1)))
theorem spec_l3Line.mono : ∀ a0 a1 k, LeO (spec_l3Line.f k a0 a1) (spec_l3Line.f (k + 1) a0 a1) := by
 intro a0 a1 k
 unfold spec_l3Line.f
 repeat' first | (with_reducible first | exact spec_LinPort.mono _ _ _ | exact spec_LinSays.mono _ _ | exact spec_l3Put.mono _ _ _ _ | exact LeO.refl _ | exact LeO.none _ | refine LeO.ite ?_ ?_ | refine LeO.bind ?_ (fun _ => ?_)) | exact spec_LinPort.mono _ _ _ | exact spec_LinSays.mono _ _ | exact spec_l3Put.mono _ _ _ _ | exact LeO.none _ | refine LeO.ite ?_ ?_ | refine LeO.bind ?_ (fun _ => ?_)
set_option maxHeartbeats 8000000 in
set_option maxRecDepth 100000 in
theorem spec_l3Line.calls (k : Nat) (P0_0_ : Nat → Prop) (u9000_ : Value) (l0_0 : List (S34)) (a1 : ByteArray) (r1 : List (S34)) (r2 : ByteArray) (w0 w : World) (hB : Below w0.heap.size w0 w) (ho0_0 : Kd.R k34 34 w w0.heap.size P0_0_ u9000_ l0_0) (h : spec_l3Line.f k l0_0 a1 = some (r1, r2)) :
  Calls Tryz.prog 46 #[.agg #[u9000_], .string a1] w fun e w' => ∃ v0_ : Value, e = .returned (.tuple #[.agg #[v0_], .string r2]) ∧ Kd.R k34 34 w' w0.heap.size (fun k_ => (P0_0_ k_ ∨ w.heap.size ≤ k_)) v0_ r1 ∧ Below w0.heap.size w0 w' ∧ Kept w w' (fun k_ => P0_0_ k_) := by
 have hu25 := Tryz.underlying25
 have hu34 := Tryz.underlying34
 have HO0_0 := Aside0.mk (show Kd.R k34 34 w w0.heap.size (fun k_ => (P0_0_ k_ ∨ w.heap.size ≤ k_)) u9000_ l0_0 from Kd.R_mono ho0_0 (fun k_ hk => (.inl hk)))
 have HK := Aside0.mk (Kept.refl w (fun k_ => P0_0_ k_))
 have HW0 := Aside0.mk hB.size
 have HB := Aside0.mk hB
 clear hB
 have H : ((spec_LinSays.f k a1).bind fun bt436 => (if bt436.2.2 = true then ((spec_l3Put.f k l0_0 bt436.1 bt436.2.1).bind fun bt440 => (if bt440.2 = 0 then (some (bt440.1, (⟨#[110, 111, 110, 101]⟩ : ByteArray))) else ((spec_LinPort.f k 50 bt440.2).bind fun t445 => (some (bt440.1, t445))))) else (some (l0_0, a1)))) = some (r1, r2) := h
 clear h
 replace H := Option.bind_eq_some_iff.mp H
 obtain ⟨⟨t436, t437, t438⟩, A30, H⟩ := H
 try dsimp only at H
 have A3 := Aside0.mk A30
 clear A30
 by_cases c4 : t438 = true
 ·subst c4
  have H1 : ((spec_l3Put.f k l0_0 t436 t437).bind fun bt440 => (if bt440.2 = 0 then (some (bt440.1, (⟨#[110, 111, 110, 101]⟩ : ByteArray))) else ((spec_LinPort.f k 50 bt440.2).bind fun t445 => (some (bt440.1, t445))))) = some (r1, r2) := by rw [if_pos rfl] at H; exact H
  clear H
  have H := H1
  clear H1
  replace H := Option.bind_eq_some_iff.mp H
  obtain ⟨⟨t440, t443⟩, A50, H⟩ := H
  try dsimp only at H
  have A5 := Aside0.mk A50
  clear A50
  by_cases c6 : t443 = 0
  ·rw [if_pos c6] at H
   have c6b0 : (t443 == 0) = true := beq_iff_eq.mpr c6
   have c6b1 : (t443 != 0) = false := bne_eq_false_iff_eq.mpr c6
   clear c6
   simp only [Option.some.injEq, Prod.mk.injEq] at H
   obtain ⟨rfl, rfl⟩ := H
   obtain ⟨Ao7, co7, eo7⟩ := Kd.R_slice HO0_0.out
   subst eo7
   go_enter Tryz.func46, Tryz.ntmps46
   go_wp2_with (first | ((with_reducible refine gate_dst (N := 2) rfl ?_); refine box_event rfl (N := 2) rfl (cs := #[.slice Ao7 l0_0.length co7]) (t := 25) hr_ ?_; intro gb434 hg w8 hbox hb; replace HO0_0 := Aside0.mk (Kd.R_below (rs HO0_0) hb); have BK434 := Aside0.mk hbox; have GW434 := Aside0.mk ((by rw [hg]; exact (by first | exact HK.out.1 | exact (show Kept w _ (fun k_ => P0_0_ k_) from m15_).1) : w.heap.size ≤ gb434)); replace HK := Aside0.mk (Kept.below (S := (fun k_ => P0_0_ k_)) m15_ hb); have GE434 := gwE HB hg; replace HB := hbS HB hb; clear hb hbox hg) | ((with_reducible refine gate_dst (N := 4) rfl ?_); refine box_event rfl (N := 4) rfl (cs := #[.slice none 0 0]) (t := 25) hr_ ?_; intro gb435 hg w9 hbox hb; replace HO0_0 := Aside0.mk (Kd.R_below (rs HO0_0) hb); have BK435 := Aside0.mk hbox; have GW435 := Aside0.mk ((by rw [hg]; exact (by first | exact HK.out.1 | exact (show Kept w _ (fun k_ => P0_0_ k_) from m16_).1) : w.heap.size ≤ gb435)); replace HK := Aside0.mk (Kept.below (S := (fun k_ => P0_0_ k_)) m16_ hb); have GE435 := gwE HB hg; replace HB := hbS HB hb; have NB434_435 := neL BK434 hg; have NB435_434 := neG BK434 hg; replace BK434 := bkB BK434 hb; clear hb hbox hg) | ((with_reducible refine gate_callee (f := 79) rfl ?_); refine gL (some 12) Tryz.func79 #[.string a1] ?_; (with_reducible refine (spec_LinSays.calls k a1 t436 t437 true _ A3.out).mono ?_); rintro e w10 ⟨rfl, hb⟩; refine ⟨_, rfl, ?_⟩; replace HO0_0 := Aside0.mk (Kd.R_below (rs HO0_0) hb); replace BK434 := bkB BK434 hb; replace BK435 := bkB BK435 hb; replace HK := Aside0.mk (Kept.below (S := (fun k_ => P0_0_ k_)) m16_ hb); replace HB := hbS HB hb; (try clear hb)) | ((with_reducible refine gate_dst (N := 6) rfl ?_); refine box_event rfl (N := 6) rfl (cs := #[.int .i64 0, .int .i64 0]) (t := 34) hr_ ?_; intro gb439 hg w11 hbox hb; replace HO0_0 := Aside0.mk (Kd.R_below (Kd.R_elderB (rs HO0_0) gb439 (Nat.le_of_eq hg.symm)) hb); have BK439 := Aside0.mk hbox; have GW439 := Aside0.mk ((by rw [hg]; exact (by first | exact HK.out.1 | exact (show Kept w _ (fun k_ => P0_0_ k_) from m16_).1) : w.heap.size ≤ gb439)); replace HK := Aside0.mk (Kept.below (S := (fun k_ => P0_0_ k_)) m16_ hb); have GE439 := gwE HB hg; replace HB := hbS HB hb; have NB434_439 := neL BK434 hg; have NB439_434 := neG BK434 hg; replace BK434 := bkB BK434 hb; have NB435_439 := neL BK435 hg; have NB439_435 := neG BK435 hg; replace BK435 := bkB BK435 hb; clear hb hbox hg; have hnb12 := NB439_434.out; have hnc12 := NB434_439.out; have hnb13 := NB439_435.out; have hnc13 := NB435_439.out; have hcz14_0 := bcell BK439 0; have hcz14_1 := bcell BK439 1; have hfz14_0 := blk_frozen BK439.out 0; have hfz14_1 := blk_frozen BK439.out 1) | ((with_reducible refine gate_store (t := 34) (p := 6) rfl ?_); refine store_event (t := 34) (p := 6) (v := ?vo_w15) (w1 := ((w11.setCell ⟨gb439, 0, none⟩ (.int .i64 t436)).setCell ⟨gb439, 1, none⟩ (.int .i64 t437))) ?hg ?ho ?hn ?hr ?_; (case ho => rfl); (case hg => rfl); (case hn => rfl); (case hr => first | (go_simp; done) | (go_simp; rfl)); intro w15 hw; have n0_ : Aside0 (Kd.R k34 34 w15 w0.heap.size (fun k_ => (P0_0_ k_ ∨ w.heap.size ≤ k_) ∧ k_ ≠ gb439) (.slice Ao7 l0_0.length co7) l0_0) := ⟨(by rw [hw]; exact (by (with_reducible repeat apply ru); exact Kd.R_mono (Kd.R_far (p := ⟨gb439, 1, none⟩) (Kd.R_far (p := ⟨gb439, 0, none⟩) (Kd.R_mono HO0_0.out (fun k_ hk => (⟨hk, hk.2⟩ : _ ∧ k_ ≠ gb439))) (fun _ hk => hk.2) (.int .i64 t436)) (fun _ hk => hk.2) (.int .i64 t437)) (fun _ hk => ⟨hk.1.1, hk.1.2⟩)))⟩; have n1_ : Aside0 (w15.heap[gb434]? = some (.cells #[.slice Ao7 l0_0.length co7] 25 (0, 0))) := ⟨(by rw [hw]; exact (by (with_reducible repeat refine bu ?_); refine blk_far ?_ NB434_439.out _; (with_reducible repeat refine bu ?_); refine blk_far ?_ NB434_439.out _; (with_reducible repeat refine bu ?_); exact BK434.out))⟩; have n2_ : Aside0 (w15.heap[gb435]? = some (.cells #[.slice none 0 0] 25 (0, 0))) := ⟨(by rw [hw]; exact (by (with_reducible repeat refine bu ?_); refine blk_far ?_ NB435_439.out _; (with_reducible repeat refine bu ?_); refine blk_far ?_ NB435_439.out _; (with_reducible repeat refine bu ?_); exact BK435.out))⟩; have n3_ : Aside0 (w15.heap[gb439]? = some (.cells #[.int .i64 t436, .int .i64 t437] 34 (0, 0))) := ⟨(by rw [hw]; exact (by (with_reducible repeat refine bu ?_); refine blk_put (cs := #[.int .i64 t436, .int .i64 0]) ?_ 1 _ rfl; (with_reducible repeat refine bu ?_); refine blk_put (cs := #[.int .i64 0, .int .i64 0]) ?_ 0 _ rfl; (with_reducible repeat refine bu ?_); exact BK439.out))⟩; have n4_ : Aside0 (Kept w w15 (fun k_ => P0_0_ k_)) := ⟨(by rw [hw]; exact m16_)⟩; have n5_ : Aside0 (Below w0.heap.size w0 w15) := ⟨(by rw [hw]; exact (bl HB))⟩; clear hw; clear HO0_0; clear BK434; clear BK435; clear BK439; clear HK; clear HB; have HO0_0 := n0_; have BK434 := n1_; have BK435 := n2_; have BK439 := n3_; have HK := n4_; have HB := n5_; clear n0_ n1_ n2_ n3_ n4_ n5_; have hnb16 := NB434_435.out; have hnc16 := NB435_434.out; have hcz17_0 := bcell BK434 0; have hfz17_0 := blk_frozen BK434.out 0; have hcz18_0 := bcell BK439 0; have hcz18_1 := bcell BK439 1; have hfz18_0 := blk_frozen BK439.out 0; have hfz18_1 := blk_frozen BK439.out 1) | ((with_reducible refine gate_callee (f := 80) rfl ?_); refine gL (some 22) Tryz.func80 #[.agg #[.slice Ao7 l0_0.length co7], .agg #[.int .i64 t436, .int .i64 t437]] ?_; (with_reducible refine (spec_l3Put.calls k (fun k_ => some k_ = (.slice Ao7 l0_0.length co7 : Value).ownBlock) (.slice Ao7 l0_0.length co7) l0_0 t436 t437 t440 t443 w0 _ ?side1 ?side2 A5.out).mono ?_); (case side1 => exact m2_); (case side2 => exact Kd.R_tight rfl HO0_0.out); rintro e w19 ⟨v441, rfl, ho0, hb, hkp⟩; refine ⟨_, rfl, ?_⟩; replace BK434 := Aside0.mk (blk_kept (bk BK434) hkp (fun hs_ => (fun e_ => (Kd.R_ne HO0_0.out BK434.out (by decide)) e_) hs_)); replace BK435 := Aside0.mk (blk_kept (bk BK435) hkp (fun hs_ => (fun e_ => (Kd.R_ne HO0_0.out BK435.out (by decide)) e_) hs_)); have HO442 := Aside0.mk (Kd.R_mono (ok' := fun k_ => (P0_0_ k_ ∨ w.heap.size ≤ k_) ∧ k_ ≠ gb439) ho0 (fun k_ hk_ => ⟨Or.elim hk_ (fun hs_ => (HO0_0.out.1 k_ (hs_).symm).1) (fun hn_ => (.inr (Nat.le_trans (by first | exact HK.out.1 | exact (show Kept w _ (fun k_ => P0_0_ k_) from m16_).1) hn_))), Or.elim hk_ (fun hs_ => fun e_ => (Kd.R_away HO0_0.out (fun _ hk => hk.2)) (by rw [← e_]; exact hs_)) (fun hn_ => (Kd.freshB (g := gb439) (o := .cells #[.int .i64 t436, .int .i64 t437] 34 (0, 0)) (bk BK439) k_ hn_))⟩)); replace BK439 := Aside0.mk (blk_kept (bk BK439) hkp (fun hs_ => (fun e_ => (Kd.R_away HO0_0.out (fun _ hk => hk.2)) e_) hs_)); replace HK := Aside0.mk (Kept.then_ (S := (fun k_ => P0_0_ k_)) m16_ hkp (fun k_ hs_ => (fun e_ => (HO0_0.out.1 k_ e_.symm).1) hs_)); replace HB := Aside0.mk hb; clear HO0_0; (try clear hb); (try clear hkp); (try clear ho0)) | ((with_reducible refine gate_dst (N := 8) rfl ?_); refine box_event rfl (N := 8) rfl (cs := #[.slice none 0 0]) (t := 25) hr_ ?_; intro gb444 hg w20 hbox hb; replace HO442 := Aside0.mk (Kd.R_below (rs HO442) hb); have BK444 := Aside0.mk hbox; have GW444 := Aside0.mk ((by rw [hg]; exact (by first | exact HK.out.1 | exact (show Kept w _ (fun k_ => P0_0_ k_) from m16_).1) : w.heap.size ≤ gb444)); replace HK := Aside0.mk (Kept.below (S := (fun k_ => P0_0_ k_)) m16_ hb); have GE444 := gwE HB hg; replace HB := hbS HB hb; have NB434_444 := neL BK434 hg; have NB444_434 := neG BK434 hg; replace BK434 := bkB BK434 hb; have NB435_444 := neL BK435 hg; have NB444_435 := neG BK435 hg; replace BK435 := bkB BK435 hb; have NB439_444 := neL BK439 hg; have NB444_439 := neG BK439 hg; replace BK439 := bkB BK439 hb; clear hb hbox hg; obtain ⟨Ao21, co21, eo21⟩ := Kd.R_slice HO442.out; subst eo21; have hnb22 := NB444_434.out; have hnc22 := NB434_444.out; have hnb23 := NB444_435.out; have hnc23 := NB435_444.out; have hnb24 := NB444_439.out; have hnc24 := NB439_444.out; have hcz25_0 := bcell BK444 0; have hfz25_0 := blk_frozen BK444.out 0; have hcz26_0 := bcell BK435 0; have hfz26_0 := blk_frozen BK435.out 0))
   refine bodyPost_ret (results_ct rfl _ _ gb435 25 #[.slice Ao21 t440.length co21] (0, 0) _ rfl (by (with_reducible repeat refine bu ?_); refine blk_put (cs := #[.slice none 0 0]) ?_ 0 _ rfl; (with_reducible repeat refine bu ?_); refine blk_far ?_ NB435_444.out _; (with_reducible repeat refine bu ?_); exact BK435.out) Tryz.underlying25 rfl (by kernel_rfl)) rfl ?_
   exact ⟨_, fi_, by (with_reducible repeat apply ru); exact Kd.R_mono (Kd.R_far (p := ⟨gb435, 0, none⟩) (Kd.R_far (p := ⟨gb444, 0, none⟩) (Kd.R_types (Kd.R_types HO442.out BK444.out (by decide)) BK435.out (by decide)) (fun _ hk => hk.1.2) (.slice Ao21 t440.length co21)) (fun _ hk => hk.2) (.slice Ao21 t440.length co21)) (fun _ hk => hk.1.1.1), m2_, m16_⟩
  ·rw [if_neg c6] at H
   have c6b0 : (t443 == 0) = false := beq_eq_false_iff_ne.mpr c6
   have c6b1 : (t443 != 0) = true := bne_iff_ne.mpr c6
   replace H := Option.bind_eq_some_iff.mp H
   obtain ⟨t445, A270, H⟩ := H
   try dsimp only at H
   have A27 := Aside0.mk A270
   clear A270
   simp only [Option.some.injEq, Prod.mk.injEq] at H
   obtain ⟨rfl, rfl⟩ := H
   obtain ⟨Ao28, co28, eo28⟩ := Kd.R_slice HO0_0.out
   subst eo28
   go_enter Tryz.func46, Tryz.ntmps46
   try go_wp2_with (first | ((with_reducible refine gate_dst (N := 2) rfl ?_); refine box_event rfl (N := 2) rfl (cs := #[.slice Ao28 l0_0.length co28]) (t := 25) hr_ ?_; intro gb434 hg w29 hbox hb; replace HO0_0 := Aside0.mk (Kd.R_below (rs HO0_0) hb); have BK434 := Aside0.mk hbox; have GW434 := Aside0.mk ((by rw [hg]; exact (by first | exact HK.out.1 | exact (show Kept w _ (fun k_ => P0_0_ k_) from m15_).1) : w.heap.size ≤ gb434)); replace HK := Aside0.mk (Kept.below (S := (fun k_ => P0_0_ k_)) m15_ hb); have GE434 := gwE HB hg; replace HB := hbS HB hb; clear hb hbox hg) | ((with_reducible refine gate_dst (N := 4) rfl ?_); refine box_event rfl (N := 4) rfl (cs := #[.slice none 0 0]) (t := 25) hr_ ?_; intro gb435 hg w30 hbox hb; replace HO0_0 := Aside0.mk (Kd.R_below (rs HO0_0) hb); have BK435 := Aside0.mk hbox; have GW435 := Aside0.mk ((by rw [hg]; exact (by first | exact HK.out.1 | exact (show Kept w _ (fun k_ => P0_0_ k_) from m16_).1) : w.heap.size ≤ gb435)); replace HK := Aside0.mk (Kept.below (S := (fun k_ => P0_0_ k_)) m16_ hb); have GE435 := gwE HB hg; replace HB := hbS HB hb; have NB434_435 := neL BK434 hg; have NB435_434 := neG BK434 hg; replace BK434 := bkB BK434 hb; clear hb hbox hg) | ((with_reducible refine gate_callee (f := 79) rfl ?_); refine gL (some 12) Tryz.func79 #[.string a1] ?_; (with_reducible refine (spec_LinSays.calls k a1 t436 t437 true _ A3.out).mono ?_); rintro e w31 ⟨rfl, hb⟩; refine ⟨_, rfl, ?_⟩; replace HO0_0 := Aside0.mk (Kd.R_below (rs HO0_0) hb); replace BK434 := bkB BK434 hb; replace BK435 := bkB BK435 hb; replace HK := Aside0.mk (Kept.below (S := (fun k_ => P0_0_ k_)) m16_ hb); replace HB := hbS HB hb; (try clear hb)) | ((with_reducible refine gate_dst (N := 6) rfl ?_); refine box_event rfl (N := 6) rfl (cs := #[.int .i64 0, .int .i64 0]) (t := 34) hr_ ?_; intro gb439 hg w32 hbox hb; replace HO0_0 := Aside0.mk (Kd.R_below (Kd.R_elderB (rs HO0_0) gb439 (Nat.le_of_eq hg.symm)) hb); have BK439 := Aside0.mk hbox; have GW439 := Aside0.mk ((by rw [hg]; exact (by first | exact HK.out.1 | exact (show Kept w _ (fun k_ => P0_0_ k_) from m16_).1) : w.heap.size ≤ gb439)); replace HK := Aside0.mk (Kept.below (S := (fun k_ => P0_0_ k_)) m16_ hb); have GE439 := gwE HB hg; replace HB := hbS HB hb; have NB434_439 := neL BK434 hg; have NB439_434 := neG BK434 hg; replace BK434 := bkB BK434 hb; have NB435_439 := neL BK435 hg; have NB439_435 := neG BK435 hg; replace BK435 := bkB BK435 hb; clear hb hbox hg; have hnb33 := NB439_434.out; have hnc33 := NB434_439.out; have hnb34 := NB439_435.out; have hnc34 := NB435_439.out; have hcz35_0 := bcell BK439 0; have hcz35_1 := bcell BK439 1; have hfz35_0 := blk_frozen BK439.out 0; have hfz35_1 := blk_frozen BK439.out 1) | ((with_reducible refine gate_store (t := 34) (p := 6) rfl ?_); refine store_event (t := 34) (p := 6) (v := ?vo_w36) (w1 := ((w32.setCell ⟨gb439, 0, none⟩ (.int .i64 t436)).setCell ⟨gb439, 1, none⟩ (.int .i64 t437))) ?hg ?ho ?hn ?hr ?_; (case ho => rfl); (case hg => rfl); (case hn => rfl); (case hr => first | (go_simp; done) | (go_simp; rfl)); intro w36 hw; have n0_ : Aside0 (Kd.R k34 34 w36 w0.heap.size (fun k_ => (P0_0_ k_ ∨ w.heap.size ≤ k_) ∧ k_ ≠ gb439) (.slice Ao28 l0_0.length co28) l0_0) := ⟨(by rw [hw]; exact (by (with_reducible repeat apply ru); exact Kd.R_mono (Kd.R_far (p := ⟨gb439, 1, none⟩) (Kd.R_far (p := ⟨gb439, 0, none⟩) (Kd.R_mono HO0_0.out (fun k_ hk => (⟨hk, hk.2⟩ : _ ∧ k_ ≠ gb439))) (fun _ hk => hk.2) (.int .i64 t436)) (fun _ hk => hk.2) (.int .i64 t437)) (fun _ hk => ⟨hk.1.1, hk.1.2⟩)))⟩; have n1_ : Aside0 (w36.heap[gb434]? = some (.cells #[.slice Ao28 l0_0.length co28] 25 (0, 0))) := ⟨(by rw [hw]; exact (by (with_reducible repeat refine bu ?_); refine blk_far ?_ NB434_439.out _; (with_reducible repeat refine bu ?_); refine blk_far ?_ NB434_439.out _; (with_reducible repeat refine bu ?_); exact BK434.out))⟩; have n2_ : Aside0 (w36.heap[gb435]? = some (.cells #[.slice none 0 0] 25 (0, 0))) := ⟨(by rw [hw]; exact (by (with_reducible repeat refine bu ?_); refine blk_far ?_ NB435_439.out _; (with_reducible repeat refine bu ?_); refine blk_far ?_ NB435_439.out _; (with_reducible repeat refine bu ?_); exact BK435.out))⟩; have n3_ : Aside0 (w36.heap[gb439]? = some (.cells #[.int .i64 t436, .int .i64 t437] 34 (0, 0))) := ⟨(by rw [hw]; exact (by (with_reducible repeat refine bu ?_); refine blk_put (cs := #[.int .i64 t436, .int .i64 0]) ?_ 1 _ rfl; (with_reducible repeat refine bu ?_); refine blk_put (cs := #[.int .i64 0, .int .i64 0]) ?_ 0 _ rfl; (with_reducible repeat refine bu ?_); exact BK439.out))⟩; have n4_ : Aside0 (Kept w w36 (fun k_ => P0_0_ k_)) := ⟨(by rw [hw]; exact m16_)⟩; have n5_ : Aside0 (Below w0.heap.size w0 w36) := ⟨(by rw [hw]; exact (bl HB))⟩; clear hw; clear HO0_0; clear BK434; clear BK435; clear BK439; clear HK; clear HB; have HO0_0 := n0_; have BK434 := n1_; have BK435 := n2_; have BK439 := n3_; have HK := n4_; have HB := n5_; clear n0_ n1_ n2_ n3_ n4_ n5_; have hnb37 := NB434_435.out; have hnc37 := NB435_434.out; have hcz38_0 := bcell BK434 0; have hfz38_0 := blk_frozen BK434.out 0; have hcz39_0 := bcell BK439 0; have hcz39_1 := bcell BK439 1; have hfz39_0 := blk_frozen BK439.out 0; have hfz39_1 := blk_frozen BK439.out 1) | ((with_reducible refine gate_callee (f := 80) rfl ?_); refine gL (some 22) Tryz.func80 #[.agg #[.slice Ao28 l0_0.length co28], .agg #[.int .i64 t436, .int .i64 t437]] ?_; (with_reducible refine (spec_l3Put.calls k (fun k_ => some k_ = (.slice Ao28 l0_0.length co28 : Value).ownBlock) (.slice Ao28 l0_0.length co28) l0_0 t436 t437 t440 t443 w0 _ ?side1 ?side2 A5.out).mono ?_); (case side1 => exact m2_); (case side2 => exact Kd.R_tight rfl HO0_0.out); rintro e w40 ⟨v441, rfl, ho0, hb, hkp⟩; refine ⟨_, rfl, ?_⟩; replace BK434 := Aside0.mk (blk_kept (bk BK434) hkp (fun hs_ => (fun e_ => (Kd.R_ne HO0_0.out BK434.out (by decide)) e_) hs_)); replace BK435 := Aside0.mk (blk_kept (bk BK435) hkp (fun hs_ => (fun e_ => (Kd.R_ne HO0_0.out BK435.out (by decide)) e_) hs_)); have HO442 := Aside0.mk (Kd.R_mono (ok' := fun k_ => (P0_0_ k_ ∨ w.heap.size ≤ k_) ∧ k_ ≠ gb439) ho0 (fun k_ hk_ => ⟨Or.elim hk_ (fun hs_ => (HO0_0.out.1 k_ (hs_).symm).1) (fun hn_ => (.inr (Nat.le_trans (by first | exact HK.out.1 | exact (show Kept w _ (fun k_ => P0_0_ k_) from m16_).1) hn_))), Or.elim hk_ (fun hs_ => fun e_ => (Kd.R_away HO0_0.out (fun _ hk => hk.2)) (by rw [← e_]; exact hs_)) (fun hn_ => (Kd.freshB (g := gb439) (o := .cells #[.int .i64 t436, .int .i64 t437] 34 (0, 0)) (bk BK439) k_ hn_))⟩)); replace BK439 := Aside0.mk (blk_kept (bk BK439) hkp (fun hs_ => (fun e_ => (Kd.R_away HO0_0.out (fun _ hk => hk.2)) e_) hs_)); replace HK := Aside0.mk (Kept.then_ (S := (fun k_ => P0_0_ k_)) m16_ hkp (fun k_ hs_ => (fun e_ => (HO0_0.out.1 k_ e_.symm).1) hs_)); replace HB := Aside0.mk hb; clear HO0_0; (try clear hb); (try clear hkp); (try clear ho0)) | ((with_reducible refine gate_dst (N := 8) rfl ?_); refine box_event rfl (N := 8) rfl (cs := #[.slice none 0 0]) (t := 25) hr_ ?_; intro gb444 hg w41 hbox hb; replace HO442 := Aside0.mk (Kd.R_below (rs HO442) hb); have BK444 := Aside0.mk hbox; have GW444 := Aside0.mk ((by rw [hg]; exact (by first | exact HK.out.1 | exact (show Kept w _ (fun k_ => P0_0_ k_) from m16_).1) : w.heap.size ≤ gb444)); replace HK := Aside0.mk (Kept.below (S := (fun k_ => P0_0_ k_)) m16_ hb); have GE444 := gwE HB hg; replace HB := hbS HB hb; have NB434_444 := neL BK434 hg; have NB444_434 := neG BK434 hg; replace BK434 := bkB BK434 hb; have NB435_444 := neL BK435 hg; have NB444_435 := neG BK435 hg; replace BK435 := bkB BK435 hb; have NB439_444 := neL BK439 hg; have NB444_439 := neG BK439 hg; replace BK439 := bkB BK439 hb; clear hb hbox hg; obtain ⟨Ao42, co42, eo42⟩ := Kd.R_slice HO442.out; subst eo42; have hnb43 := NB444_434.out; have hnc43 := NB434_444.out; have hnb44 := NB444_435.out; have hnc44 := NB435_444.out; have hnb45 := NB444_439.out; have hnc45 := NB439_444.out; have hcz46_0 := bcell BK444 0; have hfz46_0 := blk_frozen BK444.out 0))
   have n0_ : Aside0 (Kd.R k34 34 (w41.setCell ⟨gb444, 0, none⟩ (.slice Ao42 t440.length co42)) w0.heap.size (fun k_ => (P0_0_ k_ ∨ w.heap.size ≤ k_) ∧ k_ ≠ gb439) (.slice Ao42 t440.length co42) t440) := ⟨by (with_reducible repeat apply ru); exact Kd.R_mono (Kd.R_far (p := ⟨gb444, 0, none⟩) (Kd.R_types HO442.out BK444.out (by decide)) (fun _ hk => hk.2) (.slice Ao42 t440.length co42)) (fun _ hk => ⟨hk.1.1, hk.1.2⟩)⟩
   have n1_ : Aside0 ((w41.setCell ⟨gb444, 0, none⟩ (.slice Ao42 t440.length co42)).heap[gb434]? = some (.cells #[.slice Ao28 l0_0.length co28] 25 (0, 0))) := ⟨by (with_reducible repeat refine bu ?_); refine blk_far ?_ NB434_444.out _; (with_reducible repeat refine bu ?_); exact BK434.out⟩
   have n2_ : Aside0 ((w41.setCell ⟨gb444, 0, none⟩ (.slice Ao42 t440.length co42)).heap[gb435]? = some (.cells #[.slice none 0 0] 25 (0, 0))) := ⟨by (with_reducible repeat refine bu ?_); refine blk_far ?_ NB435_444.out _; (with_reducible repeat refine bu ?_); exact BK435.out⟩
   have n3_ : Aside0 ((w41.setCell ⟨gb444, 0, none⟩ (.slice Ao42 t440.length co42)).heap[gb439]? = some (.cells #[.int .i64 t436, .int .i64 t437] 34 (0, 0))) := ⟨by (with_reducible repeat refine bu ?_); refine blk_far ?_ NB439_444.out _; (with_reducible repeat refine bu ?_); exact BK439.out⟩
   have n4_ : Aside0 ((w41.setCell ⟨gb444, 0, none⟩ (.slice Ao42 t440.length co42)).heap[gb444]? = some (.cells #[.slice Ao42 t440.length co42] 25 (0, 0))) := ⟨by (with_reducible repeat refine bu ?_); refine blk_put (cs := #[.slice none 0 0]) ?_ 0 _ rfl; (with_reducible repeat refine bu ?_); exact BK444.out⟩
   have n5_ : Aside0 (Kept w (w41.setCell ⟨gb444, 0, none⟩ (.slice Ao42 t440.length co42)) (fun k_ => P0_0_ k_)) := ⟨m16_⟩
   have n6_ : Aside0 (Below w0.heap.size w0 (w41.setCell ⟨gb444, 0, none⟩ (.slice Ao42 t440.length co42))) := ⟨m2_⟩
   (try clear HO442)
   (try clear BK434)
   (try clear BK435)
   (try clear BK439)
   (try clear BK444)
   (try clear HK)
   (try clear HB)
   generalize (w41.setCell ⟨gb444, 0, none⟩ (.slice Ao42 t440.length co42)) = w47 at n0_ n1_ n2_ n3_ n4_ n5_ n6_ ⊢
   have HO442 := n0_
   have BK434 := n1_
   have BK435 := n2_
   have BK439 := n3_
   have BK444 := n4_
   have HK := n5_
   have HB := n6_
   clear n0_ n1_ n2_ n3_ n4_ n5_ n6_
   replace HO442 := Aside0.mk (Kd.R_drew HO442.out)
   replace BK434 := Aside0.mk (blk_drew BK434.out)
   replace BK435 := Aside0.mk (blk_drew BK435.out)
   replace BK439 := Aside0.mk (blk_drew BK439.out)
   replace BK444 := Aside0.mk (blk_drew BK444.out)
   replace HK := Aside0.mk (Kept.drew HK.out)
   replace HB := Aside0.mk (below_drew1 HB.out)
   refine start_ (n := 6) (S := fun w' => w'.cell? ⟨gb444, 0, none⟩ = some (.slice Ao42 t440.length co42)) (ds := []) #[false, false, false, false, false, false] (by kernel_rfl) rfl rfl (bcell BK444 0) (fun hHeld => ?_)
   generalize w47.drew = w48 at HO442 BK434 BK435 BK439 BK444 HK HB hHeld ⊢
   refine pu_ 1 (some 29) #[false, true, false, false, false, false] ?_
   refine pu_ 2 (some 30) #[false, true, true, false, false, false] ?_
   refine take_ (i := 0) (N := some 28) (v := ?_) (a' := ?_) #[true, true, true, false, false, false] rfl rfl (by kernel_rfl) (fun _ _ _ h => h) (Or.inl ⟨by rfl, ?_⟩) hHeld ?_ ?_
   rotate_left
   ·intro w' s0
    go_simp
    with_reducible rfl
   rotate_left
   ·simp only [Act.put, List.setIfInBounds_toArray, List.set_cons_zero, List.set_cons_succ, i64_w, i32_w]
    rfl
   refine one_ (i := 3) (N := some 31) #[true, true, true, true, false, false] rfl rfl (by kernel_rfl) (by decide) (fun K hK => ?_)
   refine gR Tryz.func64 #[.agg #[.int .i64 50, .int .i64 t443]] ?_
   with_reducible refine (spec_LinPort.calls k 50 t443 t445 _ A27.out).mono ?_
   rintro e w49 ⟨rfl, hb⟩
   refine ⟨_, rfl, ?_⟩
   replace HO442 := Aside0.mk (Kd.R_below (rs HO442) hb)
   replace BK434 := bkB BK434 hb
   replace BK435 := bkB BK435 hb
   replace BK439 := bkB BK439 hb
   replace BK444 := bkB BK444 hb
   replace HK := Aside0.mk (Kept.below (S := (fun k_ => P0_0_ k_)) m16_ hb)
   replace HB := hbS HB hb
   (try clear hb)
   (try clear hb2)
   (try clear hk)
   (try clear hi)
   refine hK.out _ _ (bcell BK444 0) (fun hHeld => ?_)
   clear hK K
   refine nm_ ?_
   refine one_ (i := 4) (N := none) #[true, true, true, true, true, false] rfl rfl (by kernel_rfl) (by decide) (fun K hK => ?_)
   have hs50 : w49.cell? ⟨gb435, 0, none⟩ = some (.slice none 0 0) := bcell BK435 0
   have hfs50 := blk_frozen BK435.out 0
   have hns50_0 := NB434_435.out
   have hns50_2 := NB439_435.out
   have hns50_3 := NB444_435.out
   have hms50_0 := NB435_434.out
   have hms50_2 := NB435_439.out
   have hms50_3 := NB435_444.out
   refine skip_ (w1 := ?_) (by rfl) rfl ?_ ?_
   rotate_left
   ·go_simp
    rfl
   refine hK.out _ _ (((cell_far (p := ⟨gb435, _, none⟩) NB444_435.out _).trans (hHeld))) (fun hHeld => ?_)
   clear hK K
   refine pu_ 5 (some 5) #[true, true, true, true, true, true] ?_
   refine done_ (by kernel_rfl) ?_
   try go_wp2
   refine bodyPost_ret (results_ct rfl _ _ gb435 25 #[.slice Ao42 t440.length co42] (0, 0) _ rfl (by (with_reducible repeat refine bu ?_); refine blk_put (cs := #[.slice none 0 0]) ?_ 0 _ rfl; (with_reducible repeat refine bu ?_); exact BK435.out) Tryz.underlying25 rfl (by kernel_rfl)) rfl ?_
   exact ⟨_, fi_, by (with_reducible repeat apply ru); exact Kd.R_mono (Kd.R_far (p := ⟨gb435, 0, none⟩) (Kd.R_types HO442.out BK435.out (by decide)) (fun _ hk => hk.2) (.slice Ao42 t440.length co42)) (fun _ hk => hk.1.1), m2_, m16_⟩
 ·replace c4 := Bool.eq_false_iff.mpr c4
  subst c4
  have H1 : (some (l0_0, a1)) = some (r1, r2) := by rw [if_neg (show ¬ (false = true) by decide)] at H; exact H
  clear H
  have H := H1
  clear H1
  simp only [Option.some.injEq, Prod.mk.injEq] at H
  obtain ⟨rfl, rfl⟩ := H
  obtain ⟨Ao51, co51, eo51⟩ := Kd.R_slice HO0_0.out
  subst eo51
  go_enter Tryz.func46, Tryz.ntmps46
  go_wp2_with (first | ((with_reducible refine gate_dst (N := 2) rfl ?_); refine box_event rfl (N := 2) rfl (cs := #[.slice Ao51 l0_0.length co51]) (t := 25) hr_ ?_; intro gb434 hg w52 hbox hb; replace HO0_0 := Aside0.mk (Kd.R_below (rs HO0_0) hb); have BK434 := Aside0.mk hbox; have GW434 := Aside0.mk ((by rw [hg]; exact (by first | exact HK.out.1 | exact (show Kept w _ (fun k_ => P0_0_ k_) from m15_).1) : w.heap.size ≤ gb434)); replace HK := Aside0.mk (Kept.below (S := (fun k_ => P0_0_ k_)) m15_ hb); have GE434 := gwE HB hg; replace HB := hbS HB hb; clear hb hbox hg) | ((with_reducible refine gate_dst (N := 4) rfl ?_); refine box_event rfl (N := 4) rfl (cs := #[.slice none 0 0]) (t := 25) hr_ ?_; intro gb435 hg w53 hbox hb; replace HO0_0 := Aside0.mk (Kd.R_below (rs HO0_0) hb); have BK435 := Aside0.mk hbox; have GW435 := Aside0.mk ((by rw [hg]; exact (by first | exact HK.out.1 | exact (show Kept w _ (fun k_ => P0_0_ k_) from m16_).1) : w.heap.size ≤ gb435)); replace HK := Aside0.mk (Kept.below (S := (fun k_ => P0_0_ k_)) m16_ hb); have GE435 := gwE HB hg; replace HB := hbS HB hb; have NB434_435 := neL BK434 hg; have NB435_434 := neG BK434 hg; replace BK434 := bkB BK434 hb; clear hb hbox hg) | ((with_reducible refine gate_callee (f := 79) rfl ?_); refine gL (some 12) Tryz.func79 #[.string a1] ?_; (with_reducible refine (spec_LinSays.calls k a1 t436 t437 false _ A3.out).mono ?_); rintro e w54 ⟨rfl, hb⟩; refine ⟨_, rfl, ?_⟩; replace HO0_0 := Aside0.mk (Kd.R_below (rs HO0_0) hb); replace BK434 := bkB BK434 hb; replace BK435 := bkB BK435 hb; replace HK := Aside0.mk (Kept.below (S := (fun k_ => P0_0_ k_)) m16_ hb); replace HB := hbS HB hb; (try clear hb)) | ((with_reducible refine gate_dst (N := 6) rfl ?_); refine box_event rfl (N := 6) rfl (cs := #[.int .i64 0, .int .i64 0]) (t := 34) hr_ ?_; intro gb439 hg w55 hbox hb; replace HO0_0 := Aside0.mk (Kd.R_below (Kd.R_elderB (rs HO0_0) gb439 (Nat.le_of_eq hg.symm)) hb); have BK439 := Aside0.mk hbox; have GW439 := Aside0.mk ((by rw [hg]; exact (by first | exact HK.out.1 | exact (show Kept w _ (fun k_ => P0_0_ k_) from m16_).1) : w.heap.size ≤ gb439)); replace HK := Aside0.mk (Kept.below (S := (fun k_ => P0_0_ k_)) m16_ hb); have GE439 := gwE HB hg; replace HB := hbS HB hb; have NB434_439 := neL BK434 hg; have NB439_434 := neG BK434 hg; replace BK434 := bkB BK434 hb; have NB435_439 := neL BK435 hg; have NB439_435 := neG BK435 hg; replace BK435 := bkB BK435 hb; clear hb hbox hg; have hnb56 := NB439_434.out; have hnc56 := NB434_439.out; have hnb57 := NB439_435.out; have hnc57 := NB435_439.out; have hcz58_0 := bcell BK439 0; have hcz58_1 := bcell BK439 1; have hfz58_0 := blk_frozen BK439.out 0; have hfz58_1 := blk_frozen BK439.out 1; have hnb59 := NB434_435.out; have hnc59 := NB435_434.out; have hcz60_0 := bcell BK434 0; have hfz60_0 := blk_frozen BK434.out 0; have hcz61_0 := bcell BK435 0; have hfz61_0 := blk_frozen BK435.out 0))
  refine bodyPost_ret (results_ct rfl _ _ gb435 25 #[.slice Ao51 l0_0.length co51] (0, 0) _ rfl (by (with_reducible repeat refine bu ?_); refine blk_put (cs := #[.slice none 0 0]) ?_ 0 _ rfl; (with_reducible repeat refine bu ?_); refine blk_far ?_ NB435_439.out _; (with_reducible repeat refine bu ?_); refine blk_far ?_ NB435_439.out _; (with_reducible repeat refine bu ?_); exact BK435.out) Tryz.underlying25 rfl (by kernel_rfl)) rfl ?_
  exact ⟨_, fi_, by (with_reducible repeat apply ru); exact Kd.R_mono (Kd.R_far (p := ⟨gb435, 0, none⟩) (Kd.R_far (p := ⟨gb439, 1, none⟩) (Kd.R_far (p := ⟨gb439, 0, none⟩) (Kd.R_types (Kd.R_mono HO0_0.out (fun k_ hk => (⟨hk, hk.2⟩ : _ ∧ k_ ≠ gb439))) BK435.out (by decide)) (fun _ hk => hk.1.2) (.int .i64 t436)) (fun _ hk => hk.1.2) (.int .i64 t437)) (fun _ hk => hk.2) (.slice Ao51 l0_0.length co51)) (fun _ hk => hk.1.1.1), m2_, m16_⟩
def spec_RwrLine.j0 : Nat → ByteArray → Bool → List (S34) → Option ((List (S34)) × ByteArray)
 | 0, _, _, _ => none
 | k + 1, x1, x13, x447000 => if x13 = true then (some (([] : List (S34)), (⟨#[]⟩ : ByteArray))) else ((spec_l3Copy.f x447000).bind fun t450 => ((spec_l3Line.f k t450 x1).bind fun bt453 => (some (bt453.1, bt453.2))))
def spec_RwrLine.f (k : Nat) (l0_0 : List (S34)) (a1 : ByteArray) : Option ((List (S34)) × ByteArray) := (spec_MapOk.f k l0_0).bind fun t448 => (if t448 = true then ((spec_LinOk.f k a1).bind fun t449 => (spec_RwrLine.j0 k a1 (!t449) l0_0)) else (spec_RwrLine.j0 k a1 true l0_0))
theorem spec_RwrLine.mono_l : ∀ k, (∀ y0 y1 y2, LeO (spec_RwrLine.j0 k y0 y1 y2) (spec_RwrLine.j0 (k + 1) y0 y1 y2))
 | 0 => fun _ _ _ r h => by simp [spec_RwrLine.j0] at h
 | k + 1 => by
  have ih0 := spec_RwrLine.mono_l k
  ·intro y0 y1 y2
   unfold spec_RwrLine.j0
   repeat' first | (with_reducible first | exact ih0 _ _ _ | exact spec_LinOk.mono _ _ | exact spec_MapOk.mono _ _ | exact spec_l3Line.mono _ _ _ | exact LeO.refl _ | exact LeO.none _ | refine LeO.ite ?_ ?_ | refine LeO.bind ?_ (fun _ => ?_)) | exact ih0 _ _ _ | exact spec_LinOk.mono _ _ | exact spec_MapOk.mono _ _ | exact spec_l3Line.mono _ _ _ | exact LeO.none _ | refine LeO.ite ?_ ?_ | refine LeO.bind ?_ (fun _ => ?_)
theorem spec_RwrLine.mono : ∀ a0 a1 k, LeO (spec_RwrLine.f k a0 a1) (spec_RwrLine.f (k + 1) a0 a1) := by
 intro a0 a1 k
 have ih0 := spec_RwrLine.mono_l k
 unfold spec_RwrLine.f
 repeat' first | (with_reducible first | exact ih0 _ _ _ | exact spec_LinOk.mono _ _ | exact spec_MapOk.mono _ _ | exact spec_l3Line.mono _ _ _ | exact LeO.refl _ | exact LeO.none _ | refine LeO.ite ?_ ?_ | refine LeO.bind ?_ (fun _ => ?_)) | exact ih0 _ _ _ | exact spec_LinOk.mono _ _ | exact spec_MapOk.mono _ _ | exact spec_l3Line.mono _ _ _ | exact LeO.none _ | refine LeO.ite ?_ ?_ | refine LeO.bind ?_ (fun _ => ?_)
set_option maxHeartbeats 8000000 in
set_option maxRecDepth 100000 in
theorem spec_RwrLine.calls (k : Nat) (A0_0 : Option Addr) (c0_0 : Nat) (l0_0 : List (S34)) (a1 : ByteArray) (r1 : List (S34)) (r2 : ByteArray) (w : World) (hr0_0 : Kd.C k34 w A0_0 l0_0.length l0_0) (hc0_0 : l0_0.length ≤ c0_0) (h : spec_RwrLine.f k l0_0 a1 = some (r1, r2)) :
  Calls Tryz.prog 14 #[.agg #[.slice A0_0 l0_0.length c0_0], .string a1] w fun e w' => ∃ v0_ : Value, e = .returned (.tuple #[.agg #[v0_], .string r2]) ∧ Kd.R k34 34 w' w.heap.size (fun _ => True) v0_ r1 ∧ Below w.heap.size w w' := by
 have hu25 := Tryz.underlying25
 have HR0_0 := Aside0.mk hr0_0
 have HC0_0 := Aside0.mk hc0_0
 clear hr0_0 hc0_0
 have HB := Aside0.mk (Below.refl w.heap.size w)
 have H : ((spec_MapOk.f k l0_0).bind fun t448 => (if t448 = true then ((spec_LinOk.f k a1).bind fun t449 => (spec_RwrLine.j0 k a1 (!t449) l0_0)) else (spec_RwrLine.j0 k a1 true l0_0))) = some (r1, r2) := h
 clear h
 have HC3 := Aside0.mk H
 clear H
 go_enter Tryz.func14, Tryz.ntmps14
 go_upto_region 1 with (first | ((with_reducible refine gate_dst (N := 2) rfl ?_); refine box_event rfl (N := 2) rfl (cs := #[.slice A0_0 l0_0.length c0_0]) (t := 25) hr_ ?_; intro gb446 hg w4 hbox hb; have BK446 := Aside0.mk hbox; have GW446 := gwE HB hg; have GE446 := gwE HB hg; replace HB := hbS HB hb; clear hb hbox hg) | ((with_reducible refine gate_dst (N := 4) rfl ?_); refine box_event rfl (N := 4) rfl (cs := #[.slice none 0 0]) (t := 25) hr_ ?_; intro gb447 hg w5 hbox hb; have BK447 := Aside0.mk hbox; have GW447 := gwE HB hg; have GE447 := gwE HB hg; replace HB := hbS HB hb; have NB446_447 := neL BK446 hg; have NB447_446 := neG BK446 hg; replace BK446 := bkB BK446 hb; clear hb hbox hg))
 (try simp only [Act.put, List.setIfInBounds_toArray, List.set_cons_zero, List.set_cons_succ])
 go_cut [13] (fun v13 wc => ∃ (kq : Nat) (x13_2 : Bool), v13 = .bool x13_2 ∧ Aside0 (spec_RwrLine.j0 kq a1 x13_2 l0_0 = some (r1, r2)) ∧ Aside0 (kq ≤ k) ∧ Aside0 (wc.heap[gb446]? = some (.cells #[(.slice A0_0 l0_0.length c0_0)] 25 (0, 0))) ∧ Aside0 (wc.heap[gb447]? = some (.cells #[(.slice none 0 0)] 25 (0, 0))) ∧ Aside0 (Below w.heap.size w wc))
 case first =>
  have H := HC3.out
  clear HC3
  replace H := Option.bind_eq_some_iff.mp H
  obtain ⟨t448, A60, H⟩ := H
  try dsimp only at H
  have A6 := Aside0.mk A60
  clear A60
  by_cases c7 : t448 = true
  ·subst c7
   have H1 : ((spec_LinOk.f k a1).bind fun t449 => (spec_RwrLine.j0 k a1 (!t449) l0_0)) = some (r1, r2) := by rw [if_pos rfl] at H; exact H
   clear H
   have H := H1
   clear H1
   replace H := Option.bind_eq_some_iff.mp H
   obtain ⟨t449, A80, H⟩ := H
   try dsimp only at H
   have A8 := Aside0.mk A80
   clear A80
   have H' := Aside0.mk H
   clear H
   have hnb9 := NB446_447.out
   have hnc9 := NB447_446.out
   have hcz10_0 := bcell BK446 0
   have hfz10_0 := blk_frozen BK446.out 0
   go_wp2_with (first | ((with_reducible refine gate_callee (f := 16) rfl ?_); refine gL (some 7) Tryz.func16 #[.agg #[.slice A0_0 l0_0.length c0_0]] ?_; (with_reducible refine (spec_MapOk.calls k _ _ l0_0 true _ ?side1 ?side2 A6.out).mono ?_); (case side1 => exact m4_); (case side2 => exact HC0_0.out); rintro e w11 ⟨rfl, hb⟩; refine ⟨_, rfl, ?_⟩; replace BK446 := bkB BK446 hb; replace BK447 := bkB BK447 hb; replace HB := hbS HB hb; (try clear hb)) | (go_at_call 17; (with_reducible refine (spec_LinOk.calls k a1 t449 _ A8.out).mono ?_); rintro e w' ⟨rfl, ⟨nd, rfl⟩⟩))
   go_meet
   case rel => exact ⟨_, (!t449), rs_, H', ⟨by first | omega | exact Nat.le_refl _⟩, ⟨bk BK446⟩, ⟨bk BK447⟩, ⟨m2_⟩⟩
  ·replace c7 := Bool.eq_false_iff.mpr c7
   subst c7
   have H1 : (spec_RwrLine.j0 k a1 true l0_0) = some (r1, r2) := by rw [if_neg (show ¬ (false = true) by decide)] at H; exact H
   clear H
   have H := H1
   clear H1
   have H' := Aside0.mk H
   clear H
   have hnb12 := NB446_447.out
   have hnc12 := NB447_446.out
   have hcz13_0 := bcell BK446 0
   have hfz13_0 := blk_frozen BK446.out 0
   go_wp2_with (first | ((with_reducible refine gate_callee (f := 16) rfl ?_); refine gL (some 7) Tryz.func16 #[.agg #[.slice A0_0 l0_0.length c0_0]] ?_; (with_reducible refine (spec_MapOk.calls k _ _ l0_0 false _ ?side1 ?side2 A6.out).mono ?_); (case side1 => exact m4_); (case side2 => exact HC0_0.out); rintro e w14 ⟨rfl, hb⟩; refine ⟨_, rfl, ?_⟩; replace BK446 := bkB BK446 hb; replace BK447 := bkB BK447 hb; replace HB := hbS HB hb; (try clear hb)))
   go_meet
   case rel => exact ⟨_, (true), rs_, H', ⟨by first | omega | exact Nat.le_refl _⟩, ⟨bk BK446⟩, ⟨bk BK447⟩, ⟨m2_⟩⟩
 case rest =>
  clear HC3
  try clear c1
  try clear p2
  try clear c7
  try clear c9
  try clear c12
  try clear c14
  try clear hcz10_0
  try clear hcz13_0
  try clear hfz10_0
  try clear hfz13_0
  obtain ⟨kq, x13_2, rfl, HA, HJ2, BK446, BK447, HB⟩ := hcut
  cases kq with
  | zero => exact absurd HA.out (by simp [spec_RwrLine.j0])
  | succ kj2 =>
   have H := HA.out
   clear HA
   simp only [spec_RwrLine.j0] at H
   by_cases c15 : x13_2 = true
   ·subst c15
    have H1 : (some (([] : List (S34)), (⟨#[]⟩ : ByteArray))) = some (r1, r2) := by rw [if_pos rfl] at H; exact H
    clear H
    have H := H1
    clear H1
    simp only [Option.some.injEq, Prod.mk.injEq] at H
    obtain ⟨rfl, rfl⟩ := H
    have hnb16 := NB447_446.out
    have hnc16 := NB446_447.out
    have hcz17_0 := bcell BK447 0
    have hfz17_0 := blk_frozen BK447.out 0
    go_wp2
    refine bodyPost_ret (results_ct rfl _ _ gb447 25 #[.slice none 0 0] (0, 0) _ rfl (by (with_reducible repeat refine bu ?_); refine blk_put (cs := #[.slice none 0 0]) ?_ 0 _ rfl; (with_reducible repeat refine bu ?_); exact BK447.out) Tryz.underlying25 rfl (by kernel_rfl)) rfl ?_
    exact ⟨_, fi_, by first | exact Kd.R_nil _ _ _ _ _ | exact Kd.N_nil _ _ _ _ _ | exact Kd.V_nil _ _ _ _ _ | exact Kd.Q_nil _ _ _ _ _ | exact Kd.S_nil _ _ _ _ _, m2_⟩
   ·replace c15 := Bool.eq_false_iff.mpr c15
    subst c15
    have H1 : ((spec_l3Copy.f l0_0).bind fun t450 => ((spec_l3Line.f kj2 t450 a1).bind fun bt453 => (some (bt453.1, bt453.2)))) = some (r1, r2) := by rw [if_neg (show ¬ (false = true) by decide)] at H; exact H
    clear H
    have H := H1
    clear H1
    replace H := Option.bind_eq_some_iff.mp H
    obtain ⟨t450, A180, H⟩ := H
    try dsimp only at H
    have A18 := Aside0.mk A180
    clear A180
    replace H := Option.bind_eq_some_iff.mp H
    obtain ⟨⟨t453, t456⟩, A190, H⟩ := H
    try dsimp only at H
    have A19 := Aside0.mk A190
    clear A190
    simp only [Option.some.injEq, Prod.mk.injEq] at H
    obtain ⟨rfl, rfl⟩ := H
    have hnb20 := NB446_447.out
    have hnc20 := NB447_446.out
    have hcz21_0 := bcell BK446 0
    have hfz21_0 := blk_frozen BK446.out 0
    go_wp2_with (first | ((with_reducible refine gate_callee (f := 47) rfl ?_); refine gL (some 16) Tryz.func47 #[.agg #[.slice A0_0 l0_0.length c0_0]] ?_; (with_reducible refine (spec_l3Copy.calls _ _ l0_0 t450 _ ?side1 ?side2 A18.out).mono ?_); (case side1 => exact m4_); (case side2 => exact HC0_0.out); rintro e w22 ⟨v451, rfl, ho0, hb⟩; refine ⟨_, rfl, ?_⟩; have HO452 := Aside0.mk (Kd.R_lower ho0 (below_size (bl HB))); replace BK446 := bkB BK446 hb; replace BK447 := bkB BK447 hb; replace HB := hbS HB hb; (try clear hb); (try clear ho0); obtain ⟨Ao23, co23, eo23⟩ := Kd.R_slice HO452.out; subst eo23) | ((with_reducible refine gate_callee (f := 46) rfl ?_); refine gL (some 18) Tryz.func46 #[.agg #[.slice Ao23 t450.length co23], .string a1] ?_; (with_reducible refine (spec_l3Line.calls kj2 (fun k_ => some k_ = (.slice Ao23 t450.length co23 : Value).ownBlock) (.slice Ao23 t450.length co23) t450 a1 t453 t456 w _ ?side1 ?side2 A19.out).mono ?_); (case side1 => exact m2_); (case side2 => exact Kd.R_tight rfl HO452.out); rintro e w24 ⟨v454, rfl, ho0, hb, hkp⟩; refine ⟨_, rfl, ?_⟩; replace BK446 := Aside0.mk (blk_kept (bk BK446) hkp (fun hs_ => (fun e_ => (Kd.R_ne HO452.out BK446.out (by decide)) e_) hs_)); replace BK447 := Aside0.mk (blk_kept (bk BK447) hkp (fun hs_ => (fun e_ => (Kd.R_ne HO452.out BK447.out (by decide)) e_) hs_)); have HO455 := Aside0.mk (Kd.R_mono (ok' := fun k_ => True) ho0 (fun k_ hk_ => trivial)); replace HB := Aside0.mk hb; clear HO452; (try clear hb); (try clear hkp); (try clear ho0); obtain ⟨Ao25, co25, eo25⟩ := Kd.R_slice HO455.out; subst eo25; have hcz26_0 := bcell BK447 0; have hfz26_0 := blk_frozen BK447.out 0))
    refine bodyPost_ret (results_ct rfl _ _ gb447 25 #[.slice Ao25 t453.length co25] (0, 0) _ rfl (by (with_reducible repeat refine bu ?_); refine blk_put (cs := #[.slice none 0 0]) ?_ 0 _ rfl; (with_reducible repeat refine bu ?_); exact BK447.out) Tryz.underlying25 rfl (by kernel_rfl)) rfl ?_
    exact ⟨_, fi_, by (with_reducible repeat apply ru); exact Kd.R_mono (Kd.R_far (p := ⟨gb447, 0, none⟩) (Kd.R_types HO455.out BK447.out (by decide)) (fun _ hk => hk.2) (.slice Ao25 t453.length co25)) (fun _ hk => trivial), m2_⟩
end Go.Proofs.YtffmbccgcaghjaaGreatDoor.P
namespace Go.Proofs.YtffmbccgcaghjaaGreatDoor.P
open Go.RowKit Go.Proofs.YtffmbccgcaghjaaGreatDoorUFnRwrLine.PrintWords Go.Proofs.YtffmbccgcaghjaaGreatDoorUFnRwrLine.PrintLast Go.Proofs.YtffmbccgcaghjaaGreatDoorUFnRwrLine.PrintMore
attribute [local go_sem] max2_int min2_int max_two min_two max_three min_three max_four min_four
set_option linter.unusedVariables false
set_option linter.unusedSimpArgs false
attribute [local go_sem high] eqA34
def laws_haEnds.l0 : Nat → List (S34) → List (S34) → Int → Option (Bool)
 | 0, _, _, _ => none
 | k + 1, x0, x1, x5 => if x5 < (x0.length : Int) then (if 0 ≤ x5 then (if x5 < (x1.length : Int) then (if (!(((rd_T34 x0 x5).f0) == ((rd_T34 x1 x5).f0)) || (!(((rd_T34 x0 x5).f1) == ((rd_T34 x1 x5).f1)))) = true then (some false) else (laws_haEnds.l0 k x0 x1 (wrap64 (x5 + 1)))) else (none)) else (none)) else (some true)
def laws_haEnds.f (k : Nat) (l0 : List (S34)) (l1 : List (S34)) : Option (Bool) := if (l0.length : Int) = (l1.length : Int) then (laws_haEnds.l0 k l0 l1 0) else (some false)
theorem laws_haEnds.mono_l : ∀ k, (∀ y0 y1 y2, LeO (laws_haEnds.l0 k y0 y1 y2) (laws_haEnds.l0 (k + 1) y0 y1 y2))
 | 0 => fun _ _ _ r h => by simp [laws_haEnds.l0] at h
 | k + 1 => by
  have ih0 := laws_haEnds.mono_l k
  ·intro y0 y1 y2
   unfold laws_haEnds.l0
   repeat' first | (with_reducible first | exact ih0 _ _ _ | exact LeO.refl _ | exact LeO.none _ | refine LeO.ite ?_ ?_ | refine LeO.bind ?_ (fun _ => ?_)) | exact ih0 _ _ _ | exact LeO.none _ | refine LeO.ite ?_ ?_ | refine LeO.bind ?_ (fun _ => ?_)
theorem laws_haEnds.mono : ∀ a0 a1 k, LeO (laws_haEnds.f k a0 a1) (laws_haEnds.f (k + 1) a0 a1) := by
 intro a0 a1 k
 have ih0 := laws_haEnds.mono_l k
 unfold laws_haEnds.f
 repeat' first | (with_reducible first | exact ih0 _ _ _ | exact LeO.refl _ | exact LeO.none _ | refine LeO.ite ?_ ?_ | refine LeO.bind ?_ (fun _ => ?_)) | exact ih0 _ _ _ | exact LeO.none _ | refine LeO.ite ?_ ?_ | refine LeO.bind ?_ (fun _ => ?_)
set_option maxHeartbeats 8000000 in
set_option maxRecDepth 100000 in
theorem laws_haEnds.calls (k : Nat) (A0 : Option Addr) (c0 : Nat) (l0 : List (S34)) (A1 : Option Addr) (c1 : Nat) (l1 : List (S34)) (r : Bool) (w : World) (hr0 : Kd.C k34 w A0 l0.length l0) (hc0 : l0.length ≤ c0) (hr1 : Kd.C k34 w A1 l1.length l1) (hc1 : l1.length ≤ c1) (h : laws_haEnds.f k l0 l1 = some r) :
  Calls Tryz.prog 15 #[.slice A0 l0.length c0, .slice A1 l1.length c1] w fun e w' => e = .returned (.bool r) ∧ Drawn0 w w' := by
 have hu34 := Tryz.underlying34
 have HR0 := Aside0.mk hr0
 have HC0 := Aside0.mk hc0
 clear hr0 hc0
 have HR1 := Aside0.mk hr1
 have HC1 := Aside0.mk hc1
 clear hr1 hc1
 have H : (if (l0.length : Int) = (l1.length : Int) then (laws_haEnds.l0 k l0 l1 0) else (some false)) = some r := h
 clear h
 by_cases c3 : (l0.length : Int) = (l1.length : Int)
 ·rw [if_pos c3] at H
  have c3b0 : ((l0.length : Int) == (l1.length : Int)) = true := beq_iff_eq.mpr c3
  have c3b1 : ((l0.length : Int) != (l1.length : Int)) = false := bne_eq_false_iff_eq.mpr c3
  have c3b2 : (l0.length == l1.length) = true := by first | simpa using c3 | (simp at c3 ⊢; omega)
  clear c3
  have H' := Aside0.mk H
  clear H
  go_enter Tryz.func15, Tryz.ntmps15
  go_wp2
  repeat (go_quiet (fail); try go_wp2)
  go_loopg [5] k (fun kq v5 w' => ∃ (x5_1 : Int), v5 = .int .i64 x5_1 ∧ Aside0 (laws_haEnds.l0 kq l0 l1 x5_1 = some r) ∧ Aside0 (kq ≤ k) ∧ Drawn0 w w')
  case atStart => exact ⟨(0), rs_, H', ⟨Nat.le_refl _⟩, by repeat (first | exact Drawn0.refl _ | apply Drawn0.step)⟩
  case round =>
   clear H'
   try clear c1
   try clear p2
   try clear c3
   try clear c3b0
   try clear c3b1
   try clear c3b2
   obtain ⟨x5_1, rfl, HA, HK1, ⟨m1, rfl⟩⟩ := hrel
   cases gk with
   | zero => exact absurd HA.out (by simp [laws_haEnds.l0])
   | succ k1 =>
    have H := HA.out
    clear HA
    simp only [laws_haEnds.l0] at H
    by_cases c4 : x5_1 < (l0.length : Int)
    ·rw [if_pos c4] at H
     have c4b0 : decide (x5_1 < (l0.length : Int)) = true := decide_eq_true c4
     clear c4
     by_cases c5 : 0 ≤ x5_1
     ·rw [if_pos c5] at H
      have c5b0 : decide (0 ≤ x5_1) = true := decide_eq_true c5
      clear c5
      by_cases c6 : x5_1 < (l1.length : Int)
      ·rw [if_pos c6] at H
       have c6b0 : decide (x5_1 < (l1.length : Int)) = true := decide_eq_true c6
       clear c6
       by_cases c7 : (!(((rd_T34 l0 x5_1).f0) == ((rd_T34 l1 x5_1).f0)) || (!(((rd_T34 l0 x5_1).f1) == ((rd_T34 l1 x5_1).f1)))) = true
       ·rw [if_pos c7] at H
        have c7b0 : (!(((rd_T34 l0 x5_1).f0) == ((rd_T34 l1 x5_1).f0)) || (!(((rd_T34 l0 x5_1).f1) == ((rd_T34 l1 x5_1).f1)))) = true := c7
        clear c7
        obtain rfl := Option.some.inj H
        have p457 : 0 ≤ (x5_1 : Int) := of_decide_eq_true da_
        have q457 : x5_1 < (l0.length : Int) := of_decide_eq_true da_
        obtain ⟨ad457, e457, hx457_0, hx457_1⟩ := at_T34 HR0.out x5_1 p457 q457
        cases e457
        replace p457 := eq_true p457
        replace q457 := eq_true q457
        have p458 : 0 ≤ (x5_1 : Int) := of_decide_eq_true da_
        have q458 : x5_1 < (l1.length : Int) := of_decide_eq_true da_
        obtain ⟨ad458, e458, hx458_0, hx458_1⟩ := at_T34 HR1.out x5_1 p458 q458
        cases e458
        replace p458 := eq_true p458
        replace q458 := eq_true q458
        go_wp2
        repeat (go_quiet (fail); try go_wp2)
        go_ret
        exact ⟨by first | rfl | (simp; done) | (simp [*]; done), by repeat (first | exact Drawn0.refl _ | apply Drawn0.step)⟩
       ·rw [if_neg c7] at H
        have c7b0 : (!(((rd_T34 l0 x5_1).f0) == ((rd_T34 l1 x5_1).f0)) || (!(((rd_T34 l0 x5_1).f1) == ((rd_T34 l1 x5_1).f1)))) = false := by simpa using c7
        clear c7
        have H' := Aside0.mk H
        clear H
        have p457 : 0 ≤ (x5_1 : Int) := of_decide_eq_true da_
        have q457 : x5_1 < (l0.length : Int) := of_decide_eq_true da_
        obtain ⟨ad457, e457, hx457_0, hx457_1⟩ := at_T34 HR0.out x5_1 p457 q457
        cases e457
        replace p457 := eq_true p457
        replace q457 := eq_true q457
        have p458 : 0 ≤ (x5_1 : Int) := of_decide_eq_true da_
        have q458 : x5_1 < (l1.length : Int) := of_decide_eq_true da_
        obtain ⟨ad458, e458, hx458_0, hx458_1⟩ := at_T34 HR1.out x5_1 p458 q458
        cases e458
        replace p458 := eq_true p458
        replace q458 := eq_true q458
        go_wp2
        repeat (go_quiet (fail); try go_wp2)
        go_roundg k1
        case measure => have := HK1.out; omega
        case rel => exact ⟨(wrap64 (x5_1 + 1)), rs_, H', ⟨by have := HK1.out; omega⟩, by repeat (first | exact Drawn0.refl _ | apply Drawn0.step)⟩
      ·rw [if_neg c6] at H
       exact absurd H (by simp)
     ·rw [if_neg c5] at H
      exact absurd H (by simp)
    ·rw [if_neg c4] at H
     have c4b0 : decide (x5_1 < (l0.length : Int)) = false := decide_eq_false c4
     clear c4
     obtain rfl := Option.some.inj H
     go_wp2
     repeat (go_quiet (fail); try go_wp2)
     go_ret
     exact ⟨by first | rfl | (simp; done) | (simp [*]; done), by repeat (first | exact Drawn0.refl _ | apply Drawn0.step)⟩
 ·rw [if_neg c3] at H
  have c3b0 : ((l0.length : Int) == (l1.length : Int)) = false := beq_eq_false_iff_ne.mpr c3
  have c3b1 : ((l0.length : Int) != (l1.length : Int)) = true := bne_iff_ne.mpr c3
  have c3b2 : (l0.length == l1.length) = false := by first | simpa using c3 | (simp at c3 ⊢; omega)
  obtain rfl := Option.some.inj H
  go_enter Tryz.func15, Tryz.ntmps15
  go_wp2
  repeat (go_quiet (fail); try go_wp2)
  go_ret
  exact ⟨by first | rfl | (simp; done) | (simp [*]; done), by repeat (first | exact Drawn0.refl _ | apply Drawn0.step)⟩
end Go.Proofs.YtffmbccgcaghjaaGreatDoor.P
namespace Go.Proofs.YtffmbccgcaghjaaGreatDoor.P
open Go.RowKit Go.Proofs.YtffmbccgcaghjaaGreatDoorUFnRwrLine.PrintWords Go.Proofs.YtffmbccgcaghjaaGreatDoorUFnRwrLine.PrintLast Go.Proofs.YtffmbccgcaghjaaGreatDoorUFnRwrLine.PrintMore
attribute [local go_sem] max2_int min2_int max_two min_two max_three min_three max_four min_four
set_option linter.unusedVariables false
set_option linter.unusedSimpArgs false
def laws_haOk.f  : Option (Bool) := (impl_LinOk.f (⟨#[97]⟩ : ByteArray)).bind fun t459 => (some t459)
set_option maxHeartbeats 8000000 in
set_option maxRecDepth 100000 in
theorem laws_haOk.calls  (r : Bool) (w : World) (h : laws_haOk.f  = some r) :
  Calls Tryz.prog 18 #[] w fun e w' => e = .returned (.bool r) ∧ Below w.heap.size w w' := by
 have HB := Aside0.mk (Below.refl w.heap.size w)
 have H : ((impl_LinOk.f (⟨#[97]⟩ : ByteArray)).bind fun t459 => (some t459)) = some r := h
 clear h
 replace H := Option.bind_eq_some_iff.mp H
 obtain ⟨t459, A10, H⟩ := H
 try dsimp only at H
 have A1 := Aside0.mk A10
 clear A10
 obtain rfl := Option.some.inj H
 go_enter Tryz.func18, Tryz.ntmps18
 go_wp2_with (first | ((with_reducible refine gate_callee (f := 22) rfl ?_); refine gL (some 1) Tryz.func22 #[.string (⟨#[97]⟩ : ByteArray)] ?_; (with_reducible refine (impl_LinOk.calls (⟨#[97]⟩ : ByteArray) t459 _ A1.out).mono ?_); rintro e w2 ⟨rfl, hb⟩; refine ⟨_, rfl, ?_⟩; replace HB := hbS HB hb; (try clear hb)))
 go_ret
 exact ⟨fi_, m0_⟩
def laws_haFirst.f (k : Nat) (l0 : List (S34)) (l1 : List (S34)) : Option (Bool) := if (l0.length : Int) ≥ (l1.length : Int) then (if 0 ≤ (l1.length : Int) then (if (l1.length : Int) ≤ (l0.length : Int) then ((laws_haEnds.f k (l0.take ((l1.length : Int) : Int).toNat) l1).bind fun t464 => (some t464)) else (none)) else (none)) else (some false)
theorem laws_haFirst.mono : ∀ a0 a1 k, LeO (laws_haFirst.f k a0 a1) (laws_haFirst.f (k + 1) a0 a1) := by
 intro a0 a1 k
 unfold laws_haFirst.f
 repeat' first | (with_reducible first | exact laws_haEnds.mono _ _ _ | exact LeO.refl _ | exact LeO.none _ | refine LeO.ite ?_ ?_ | refine LeO.bind ?_ (fun _ => ?_)) | exact laws_haEnds.mono _ _ _ | exact LeO.none _ | refine LeO.ite ?_ ?_ | refine LeO.bind ?_ (fun _ => ?_)
set_option maxHeartbeats 8000000 in
set_option maxRecDepth 100000 in
theorem laws_haFirst.calls (k : Nat) (A0 : Option Addr) (c0 : Nat) (l0 : List (S34)) (A1 : Option Addr) (c1 : Nat) (l1 : List (S34)) (r : Bool) (w : World) (hr0 : Kd.C k34 w A0 l0.length l0) (hc0 : l0.length ≤ c0) (hr1 : Kd.C k34 w A1 l1.length l1) (hc1 : l1.length ≤ c1) (h : laws_haFirst.f k l0 l1 = some r) :
  Calls Tryz.prog 21 #[.slice A0 l0.length c0, .slice A1 l1.length c1] w fun e w' => e = .returned (.bool r) ∧ Drawn0 w w' := by
 have HR0 := Aside0.mk hr0
 have HC0 := Aside0.mk hc0
 clear hr0 hc0
 have HR1 := Aside0.mk hr1
 have HC1 := Aside0.mk hc1
 clear hr1 hc1
 have H : (if (l0.length : Int) ≥ (l1.length : Int) then (if 0 ≤ (l1.length : Int) then (if (l1.length : Int) ≤ (l0.length : Int) then ((laws_haEnds.f k (l0.take ((l1.length : Int) : Int).toNat) l1).bind fun t464 => (some t464)) else (none)) else (none)) else (some false)) = some r := h
 clear h
 by_cases c3 : (l0.length : Int) ≥ (l1.length : Int)
 ·rw [if_pos c3] at H
  have c3b0 : decide ((l1.length : Int) ≤ (l0.length : Int)) = true := decide_eq_true c3
  have c3b1 : decide (l1.length ≤ l0.length) = true := decide_eq_true (Int.ofNat_le.mp c3)
  clear c3
  by_cases c4 : 0 ≤ (l1.length : Int)
  ·rw [if_pos c4] at H
   have c4b0 := eq_true c4
   have c4b1 : decide (0 ≤ (l1.length : Int)) = true := decide_eq_true c4
   clear c4
   by_cases c5 : (l1.length : Int) ≤ (l0.length : Int)
   ·rw [if_pos c5] at H
    have c5b0 := eq_true c5
    have c5b1 : decide ((l1.length : Int) ≤ (l0.length : Int)) = true := decide_eq_true c5
    clear c5
    obtain ⟨y460, hy460⟩ : ∃ y_ : List (S34), y_ = (l0.take ((l1.length : Int) : Int).toNat) := ⟨_, rfl⟩
    replace H : ((laws_haEnds.f k y460 l1).bind fun t464 => (some t464)) = some r := by first | (rw [hy460]; with_reducible exact H) | (have H2_ := (Option.bind_some _ _).symm.trans H; rw [hy460]; with_reducible exact H2_) | (have H2_ := (Option.bind_some _ _).symm.trans H; with_reducible exact H2_) | with_reducible exact H | (rw [hy460]; exact H) | exact H
    have Ny460 := Aside0.mk hy460
    clear hy460
    replace H := Option.bind_eq_some_iff.mp H
    obtain ⟨t464, A60, H⟩ := H
    try dsimp only at H
    have A6 := Aside0.mk A60
    clear A60
    obtain rfl := Option.some.inj H
    have q7 : ((l1.length : Int) : Int) ≤ ((l0.length : Int) : Int) := of_decide_eq_true da_
    obtain ⟨i07, hi07, _, hsz7, _⟩ := info_parts info34
    have hroom7 : l0.length ≤ c0 := HC0.out
    have hC7 : Kd.C k34 _ A0 l0.length l0 := HR0.out
    have hcut7 := cut_to (P := Tryz.prog) 23 34 .i64 Tryz.underlying23 hi07 A0 l0.length c0 (l1.length : Int) (of_decide_eq_true da_) q7 hroom7
    have hr7 := Kd.C_take (m := ((l1.length : Int) : Int).toNat) hC7 (by omega)
    have hy7 : y460.length = ((l1.length : Int) : Int).toNat := (by rw [Ny460.out, List.length_take]; omega)
    rw [← Ny460.out] at hr7
    rw [← hy7] at hcut7
    have HR463 := Aside0.mk hr7
    have HC463 := Aside0.mk (show y460.length ≤ c0 from by omega)
    clear hr7 hC7 hroom7 hi07 hsz7
    have KY7 := Aside0.mk hy7
    clear hy7
    replace q7 := eq_true q7
    go_enter Tryz.func21, Tryz.ntmps21
    go_wp2_with (first | (go_at_call 15; (with_reducible refine (laws_haEnds.calls k _ _ y460 _ _ l1 t464 _ ?side1 ?side2 ?side3 ?side4 A6.out).mono ?_); (case side1 => exact m12_); (case side2 => exact HC463.out); (case side3 => exact m13_); (case side4 => exact HC1.out); rintro e w' ⟨rfl, ⟨nd, rfl⟩⟩))
    go_ret
    exact ⟨by first | rfl | (simp; done) | (simp [*]; done), by repeat (first | exact Drawn0.refl _ | apply Drawn0.step)⟩
   ·rw [if_neg c5] at H
    exact absurd H (by simp)
  ·rw [if_neg c4] at H
   exact absurd H (by simp)
 ·rw [if_neg c3] at H
  have c3b0 : decide ((l1.length : Int) ≤ (l0.length : Int)) = false := decide_eq_false c3
  have c3b1 : decide (l1.length ≤ l0.length) = false := decide_eq_false (fun h => c3 (Int.ofNat_le.mpr h))
  clear c3
  obtain rfl := Option.some.inj H
  go_enter Tryz.func21, Tryz.ntmps21
  go_wp2
  go_ret
  exact ⟨by first | rfl | (simp; done) | (simp [*]; done), by repeat (first | exact Drawn0.refl _ | apply Drawn0.step)⟩
mutual
def laws_FnRwrLine.j0 : Nat → ByteArray → ByteArray → Bool → List (S34) → List (S34) → Option (Bool)
 | 0, _, _, _, _, _ => none
 | k + 1, x4, x6, x44, x470000, x475000 => if x44 = true then (some false) else ((spec_MapOk.f k x470000).bind fun t481 => (if t481 = true then ((spec_LinOk.f k x4).bind fun t482 => (laws_FnRwrLine.j1 k x4 x6 (!t482) x470000 x475000)) else (laws_FnRwrLine.j1 k x4 x6 true x470000 x475000)))
def laws_FnRwrLine.j1 : Nat → ByteArray → ByteArray → Bool → List (S34) → List (S34) → Option (Bool)
 | 0, _, _, _, _, _ => none
 | k + 1, x4, x6, x52, x470000, x475000 => if x52 = true then (if x6.toList = ([] : List UInt8) then (if (x475000.length : Int) = 0 then ((laws_haOk.f).bind fun t483 => (some t483)) else (some false)) else (some false)) else ((impl_LinSays.f x6).bind fun bt484 => (if bt484.2.2 = true then (laws_FnRwrLine.j2 k x4 x6 true x470000 x475000) else ((impl_MapOk.f k x475000).bind fun t488 => (if t488 = true then ((laws_haFirst.f k x475000 x470000).bind fun t489 => (if t489 = true then ((impl_LinOk.f x6).bind fun t490 => (laws_FnRwrLine.j2 k x4 x6 (!t490) x470000 x475000)) else (laws_FnRwrLine.j2 k x4 x6 true x470000 x475000))) else (laws_FnRwrLine.j2 k x4 x6 true x470000 x475000)))))
def laws_FnRwrLine.j2 : Nat → ByteArray → ByteArray → Bool → List (S34) → List (S34) → Option (Bool)
 | 0, _, _, _, _, _ => none
 | k + 1, x4, x6, x87, x470000, x475000 => if x87 = true then (some false) else ((impl_LinSays.f x4).bind fun bt491 => (if bt491.2.2 = true then ((impl_MapPort.f x475000 bt491.1 bt491.2.1).bind fun t496 => (if t496 = 0 then (if x6.toList = ([110, 111, 110, 101] : List UInt8) then (some ((x475000.length : Int) == 6)) else (some false)) else ((impl_LinPort.f 50 t496).bind fun t497 => (some (x6.toList == t497.toList))))) else (if x6.toList = x4.toList then ((laws_haEnds.f k x475000 x470000).bind fun t495 => (some t495)) else (some false))))
end
def laws_FnRwrLine.f (k : Nat) (l0 : List Int) : Option (Bool) := if (l0.length : Int) > 1048576 then (some true) else ((spec_DrawRwrLine.f k l0).bind fun bt465 => ((impl_RwrLine.f k bt465.1 bt465.2).bind fun bt470 => ((spec_RwrLine.f k bt465.1 bt465.2).bind fun bt475 => ((laws_haEnds.f k bt470.1 bt475.1).bind fun t480 => (if t480 = true then (laws_FnRwrLine.j0 k bt465.2 bt470.2 (bt470.2.toList != bt475.2.toList) bt465.1 bt470.1) else (laws_FnRwrLine.j0 k bt465.2 bt470.2 true bt465.1 bt470.1))))))
theorem laws_FnRwrLine.mono_l : ∀ k, (∀ y0 y1 y2 y3 y4, LeO (laws_FnRwrLine.j0 k y0 y1 y2 y3 y4) (laws_FnRwrLine.j0 (k + 1) y0 y1 y2 y3 y4)) ∧ (∀ y0 y1 y2 y3 y4, LeO (laws_FnRwrLine.j1 k y0 y1 y2 y3 y4) (laws_FnRwrLine.j1 (k + 1) y0 y1 y2 y3 y4)) ∧ (∀ y0 y1 y2 y3 y4, LeO (laws_FnRwrLine.j2 k y0 y1 y2 y3 y4) (laws_FnRwrLine.j2 (k + 1) y0 y1 y2 y3 y4))
 | 0 => ⟨fun _ _ _ _ _ r h => by simp [laws_FnRwrLine.j0] at h, fun _ _ _ _ _ r h => by simp [laws_FnRwrLine.j1] at h, fun _ _ _ _ _ r h => by simp [laws_FnRwrLine.j2] at h⟩
 | k + 1 => by
  obtain ⟨ih0, ih1, ih2⟩ := laws_FnRwrLine.mono_l k
  refine ⟨?_, ?_, ?_⟩
  ·intro y0 y1 y2 y3 y4
   unfold laws_FnRwrLine.j0
   repeat' first | (with_reducible first | exact ih0 _ _ _ _ _ | exact ih1 _ _ _ _ _ | exact ih2 _ _ _ _ _ | exact impl_MapOk.mono _ _ | exact impl_RwrLine.mono _ _ _ | exact laws_haEnds.mono _ _ _ | exact laws_haFirst.mono _ _ _ | exact spec_DrawRwrLine.mono _ _ | exact spec_LinOk.mono _ _ | exact spec_MapOk.mono _ _ | exact spec_RwrLine.mono _ _ _ | exact LeO.refl _ | exact LeO.none _ | refine LeO.ite ?_ ?_ | refine LeO.bind ?_ (fun _ => ?_)) | exact ih0 _ _ _ _ _ | exact ih1 _ _ _ _ _ | exact ih2 _ _ _ _ _ | exact impl_MapOk.mono _ _ | exact impl_RwrLine.mono _ _ _ | exact laws_haEnds.mono _ _ _ | exact laws_haFirst.mono _ _ _ | exact spec_DrawRwrLine.mono _ _ | exact spec_LinOk.mono _ _ | exact spec_MapOk.mono _ _ | exact spec_RwrLine.mono _ _ _ | exact LeO.none _ | refine LeO.ite ?_ ?_ | refine LeO.bind ?_ (fun _ => ?_)
  ·intro y0 y1 y2 y3 y4
   unfold laws_FnRwrLine.j1
   repeat' first | (with_reducible first | exact ih0 _ _ _ _ _ | exact ih1 _ _ _ _ _ | exact ih2 _ _ _ _ _ | exact impl_MapOk.mono _ _ | exact impl_RwrLine.mono _ _ _ | exact laws_haEnds.mono _ _ _ | exact laws_haFirst.mono _ _ _ | exact spec_DrawRwrLine.mono _ _ | exact spec_LinOk.mono _ _ | exact spec_MapOk.mono _ _ | exact spec_RwrLine.mono _ _ _ | exact LeO.refl _ | exact LeO.none _ | refine LeO.ite ?_ ?_ | refine LeO.bind ?_ (fun _ => ?_)) | exact ih0 _ _ _ _ _ | exact ih1 _ _ _ _ _ | exact ih2 _ _ _ _ _ | exact impl_MapOk.mono _ _ | exact impl_RwrLine.mono _ _ _ | exact laws_haEnds.mono _ _ _ | exact laws_haFirst.mono _ _ _ | exact spec_DrawRwrLine.mono _ _ | exact spec_LinOk.mono _ _ | exact spec_MapOk.mono _ _ | exact spec_RwrLine.mono _ _ _ | exact LeO.none _ | refine LeO.ite ?_ ?_ | refine LeO.bind ?_ (fun _ => ?_)
  ·intro y0 y1 y2 y3 y4
   unfold laws_FnRwrLine.j2
   repeat' first | (with_reducible first | exact ih0 _ _ _ _ _ | exact ih1 _ _ _ _ _ | exact ih2 _ _ _ _ _ | exact impl_MapOk.mono _ _ | exact impl_RwrLine.mono _ _ _ | exact laws_haEnds.mono _ _ _ | exact laws_haFirst.mono _ _ _ | exact spec_DrawRwrLine.mono _ _ | exact spec_LinOk.mono _ _ | exact spec_MapOk.mono _ _ | exact spec_RwrLine.mono _ _ _ | exact LeO.refl _ | exact LeO.none _ | refine LeO.ite ?_ ?_ | refine LeO.bind ?_ (fun _ => ?_)) | exact ih0 _ _ _ _ _ | exact ih1 _ _ _ _ _ | exact ih2 _ _ _ _ _ | exact impl_MapOk.mono _ _ | exact impl_RwrLine.mono _ _ _ | exact laws_haEnds.mono _ _ _ | exact laws_haFirst.mono _ _ _ | exact spec_DrawRwrLine.mono _ _ | exact spec_LinOk.mono _ _ | exact spec_MapOk.mono _ _ | exact spec_RwrLine.mono _ _ _ | exact LeO.none _ | refine LeO.ite ?_ ?_ | refine LeO.bind ?_ (fun _ => ?_)
theorem laws_FnRwrLine.mono : ∀ a0 k, LeO (laws_FnRwrLine.f k a0) (laws_FnRwrLine.f (k + 1) a0) := by
 intro a0 k
 obtain ⟨ih0, ih1, ih2⟩ := laws_FnRwrLine.mono_l k
 unfold laws_FnRwrLine.f
 repeat' first | (with_reducible first | exact ih0 _ _ _ _ _ | exact ih1 _ _ _ _ _ | exact ih2 _ _ _ _ _ | exact impl_MapOk.mono _ _ | exact impl_RwrLine.mono _ _ _ | exact laws_haEnds.mono _ _ _ | exact laws_haFirst.mono _ _ _ | exact spec_DrawRwrLine.mono _ _ | exact spec_LinOk.mono _ _ | exact spec_MapOk.mono _ _ | exact spec_RwrLine.mono _ _ _ | exact LeO.refl _ | exact LeO.none _ | refine LeO.ite ?_ ?_ | refine LeO.bind ?_ (fun _ => ?_)) | exact ih0 _ _ _ _ _ | exact ih1 _ _ _ _ _ | exact ih2 _ _ _ _ _ | exact impl_MapOk.mono _ _ | exact impl_RwrLine.mono _ _ _ | exact laws_haEnds.mono _ _ _ | exact laws_haFirst.mono _ _ _ | exact spec_DrawRwrLine.mono _ _ | exact spec_LinOk.mono _ _ | exact spec_MapOk.mono _ _ | exact spec_RwrLine.mono _ _ _ | exact LeO.none _ | refine LeO.ite ?_ ?_ | refine LeO.bind ?_ (fun _ => ?_)
set_option maxHeartbeats 8000000 in
set_option maxRecDepth 100000 in
theorem laws_FnRwrLine.calls (k : Nat) (A0 : Option Addr) (c0 : Nat) (l0 : List Int) (r : Bool) (w : World) (hr0 : Kd.C (Kd.int .u8) w A0 l0.length l0) (hc0 : l0.length ≤ c0) (h : laws_FnRwrLine.f k l0 = some r) (hrt : Aside0 (r = true)) (hE : EnvE w) :
  Calls Tryz.prog 3 #[.slice A0 l0.length c0] w fun e w' => e = .returned (.bool r) ∧ Below w.heap.size w w' := by
 have hu25 := Tryz.underlying25
 have hu34 := Tryz.underlying34
 have HR0 := Aside0.mk hr0
 have HC0 := Aside0.mk hc0
 clear hr0 hc0
 have HB := Aside0.mk (Below.refl w.heap.size w)
 have H : (if (l0.length : Int) > 1048576 then (some true) else ((spec_DrawRwrLine.f k l0).bind fun bt465 => ((impl_RwrLine.f k bt465.1 bt465.2).bind fun bt470 => ((spec_RwrLine.f k bt465.1 bt465.2).bind fun bt475 => ((laws_haEnds.f k bt470.1 bt475.1).bind fun t480 => (if t480 = true then (laws_FnRwrLine.j0 k bt465.2 bt470.2 (bt470.2.toList != bt475.2.toList) bt465.1 bt470.1) else (laws_FnRwrLine.j0 k bt465.2 bt470.2 true bt465.1 bt470.1))))))) = some r := h
 clear h
 by_cases c2 : (l0.length : Int) > 1048576
 ·rw [if_pos c2] at H
  have c2b0 : decide (1048576 < (l0.length : Int)) = true := decide_eq_true c2
  have c2b1 : decide (1048576 < l0.length) = true := decide_eq_true (by omega)
  clear c2
  obtain rfl := Option.some.inj H
  go_enter Tryz.func3, Tryz.ntmps3
  go_wp2
  go_ret
  exact ⟨fi_, m0_⟩
 ·rw [if_neg c2] at H
  have c2b0 : decide (1048576 < (l0.length : Int)) = false := decide_eq_false c2
  have c2b1 : decide (1048576 < l0.length) = false := decide_eq_false (by omega)
  clear c2
  replace H := Option.bind_eq_some_iff.mp H
  obtain ⟨⟨t465, t468⟩, A30, H⟩ := H
  try dsimp only at H
  have A3 := Aside0.mk A30
  clear A30
  replace H := Option.bind_eq_some_iff.mp H
  obtain ⟨⟨t470, t473⟩, A40, H⟩ := H
  try dsimp only at H
  have A4 := Aside0.mk A40
  clear A40
  replace H := Option.bind_eq_some_iff.mp H
  obtain ⟨⟨t475, t478⟩, A50, H⟩ := H
  try dsimp only at H
  have A5 := Aside0.mk A50
  clear A50
  have HC6 := Aside0.mk H
  clear H
  go_enter Tryz.func3, Tryz.ntmps3
  go_upto_region 6 with (first | ((with_reducible refine gate_callee (f := 12) rfl ?_); refine gL (some 19) Tryz.func12 #[.slice A0 l0.length c0] ?_; (with_reducible refine (spec_DrawRwrLine.calls k _ _ l0 t465 t468 _ ?side1 ?side2 A3.out).mono ?_); (case side1 => exact m5_); (case side2 => exact HC0.out); rintro e w7 ⟨v466, rfl, ho0, hb⟩; refine ⟨_, rfl, ?_⟩; have HO467 := Aside0.mk (Kd.R_lower ho0 (below_size (bl HB))); replace HB := hbS HB hb; (try clear hb); (try clear ho0)) | ((with_reducible refine gate_dst (N := 3) rfl ?_); refine box_event rfl (N := 3) rfl (cs := #[.slice none 0 0]) (t := 25) hr_ ?_; intro gb469 hg w8 hbox hb; replace HO467 := Aside0.mk (Kd.R_below (rs HO467) hb); have BK469 := Aside0.mk hbox; have GW469 := gwE HB hg; have GE469 := gwE HB hg; replace HB := hbS HB hb; clear hb hbox hg; obtain ⟨Ao9, co9, eo9⟩ := Kd.R_slice HO467.out; subst eo9; have hcz10_0 := bcell BK469 0; have hfz10_0 := blk_frozen BK469.out 0) | ((with_reducible refine gate_callee (f := 13) rfl ?_); refine gL (some 25) Tryz.func13 #[.agg #[.slice Ao9 t465.length co9], .string t468] ?_; (with_reducible refine (impl_RwrLine.calls k _ _ t465 t468 t470 t473 _ ?side1 ?side2 A4.out (EnvE.below hE (bl HB))).mono ?_); (case side1 => refine (Kd.R_reads' (e := 34) (base := w.heap.size) (ok := fun k_ => True) (n := t465.length) (c := co9) ?_).2.2; exact (by (with_reducible repeat apply ru); exact (Kd.R_mono (Kd.R_far (p := ⟨gb469, 0, none⟩) (Kd.R_types HO467.out BK469.out (by decide)) (fun _ hk => hk.2) (.slice Ao9 t465.length co9)) (fun _ h_ => h_.1)))); (case side2 => exact (Kd.R_reads' HO467.out).2.1); rintro e w11 ⟨v471, rfl, ho0, hb⟩; refine ⟨_, rfl, ?_⟩; have HO472 := Aside0.mk (Kd.R_lower (Kd.R_new' ho0 (Kd.R_lt (by (with_reducible repeat apply ru); exact (Kd.R_mono (Kd.R_far (p := ⟨gb469, 0, none⟩) (Kd.R_types HO467.out BK469.out (by decide)) (fun _ hk => hk.2) (.slice Ao9 t465.length co9)) (fun _ h_ => h_.1))))) (below_size (bl HB))); replace HO467 := Aside0.mk (Kd.R_elder' (by (with_reducible repeat apply ru); exact (Kd.R_mono (Kd.R_far (p := ⟨gb469, 0, none⟩) (Kd.R_types HO467.out BK469.out (by decide)) (fun _ hk => hk.2) (.slice Ao9 t465.length co9)) (fun _ h_ => h_.1))) (Kd.R_base ho0) hb); replace BK469 := Aside0.mk (blk_below (g := gb469) (o := .cells #[.slice Ao9 t465.length co9] 25 (0, 0)) (by (with_reducible repeat refine bu ?_); refine blk_put (cs := #[.slice none 0 0]) ?_ 0 _ rfl; (with_reducible repeat refine bu ?_); exact BK469.out) hb); replace HB := hbS HB hb; (try clear hb); (try clear hk); (try clear ho0)) | ((with_reducible refine gate_dst (N := 5) rfl ?_); refine box_event rfl (N := 5) rfl (cs := #[.slice none 0 0]) (t := 25) hr_ ?_; intro gb474 hg w12 hbox hb; replace HO467 := Aside0.mk (Kd.R_below (rs HO467) hb); replace HO472 := Aside0.mk (Kd.R_below (rs HO472) hb); have BK474 := Aside0.mk hbox; have GW474 := gwE HB hg; have GE474 := gwE HB hg; replace HB := hbS HB hb; have NB469_474 := neL BK469 hg; have NB474_469 := neG BK469 hg; replace BK469 := bkB BK469 hb; clear hb hbox hg; obtain ⟨Ao13, co13, eo13⟩ := Kd.R_slice HO472.out; subst eo13; have hnb14 := NB474_469.out; have hnc14 := NB469_474.out; have hcz15_0 := bcell BK474 0; have hfz15_0 := blk_frozen BK474.out 0; have hcz16_0 := bcell BK469 0; have hfz16_0 := blk_frozen BK469.out 0) | ((with_reducible refine gate_callee (f := 14) rfl ?_); refine gL (some 31) Tryz.func14 #[.agg #[.slice Ao9 t465.length co9], .string t468] ?_; (with_reducible refine (spec_RwrLine.calls k _ _ t465 t468 t475 t478 _ ?side1 ?side2 A5.out).mono ?_); (case side1 => refine (Kd.R_reads' (e := 34) (base := w.heap.size) (ok := fun k_ => (True ∧ some k_ ≠ (.slice Ao13 t470.length co13 : Value).ownBlock)) (n := t465.length) (c := co9) ?_).2.2; exact (by (with_reducible repeat apply ru); exact (Kd.R_mono (Kd.R_far (p := ⟨gb474, 0, none⟩) (Kd.R_types HO467.out BK474.out (by decide)) (fun _ hk => hk.2) (.slice Ao13 t470.length co13)) (fun _ h_ => h_.1)))); (case side2 => exact (Kd.R_reads' HO467.out).2.1); rintro e w17 ⟨v476, rfl, ho0, hb⟩; refine ⟨_, rfl, ?_⟩; have HO477 := Aside0.mk (Kd.R_lower (Kd.R_new' (Kd.R_new' ho0 (Kd.R_lt (by (with_reducible repeat apply ru); exact (Kd.R_mono (Kd.R_far (p := ⟨gb474, 0, none⟩) (Kd.R_types HO467.out BK474.out (by decide)) (fun _ hk => hk.2) (.slice Ao13 t470.length co13)) (fun _ h_ => h_.1))))) (Kd.R_lt (by (with_reducible repeat apply ru); exact (Kd.R_mono (Kd.R_far (p := ⟨gb474, 0, none⟩) (Kd.R_types HO472.out BK474.out (by decide)) (fun _ hk => hk.2) (.slice Ao13 t470.length co13)) (fun _ h_ => h_.1))))) (below_size (bl HB))); replace HO467 := Aside0.mk (Kd.R_elder' (by (with_reducible repeat apply ru); exact (Kd.R_mono (Kd.R_far (p := ⟨gb474, 0, none⟩) (Kd.R_types HO467.out BK474.out (by decide)) (fun _ hk => hk.2) (.slice Ao13 t470.length co13)) (fun _ h_ => h_.1))) (Kd.R_base ho0) hb); replace HO472 := Aside0.mk (Kd.R_elder' (by (with_reducible repeat apply ru); exact (Kd.R_mono (Kd.R_far (p := ⟨gb474, 0, none⟩) (Kd.R_types HO472.out BK474.out (by decide)) (fun _ hk => hk.2) (.slice Ao13 t470.length co13)) (fun _ h_ => h_.1))) (Kd.R_base ho0) hb); replace BK469 := Aside0.mk (blk_below (g := gb469) (o := .cells #[.slice Ao9 t465.length co9] 25 (0, 0)) (by (with_reducible repeat refine bu ?_); refine blk_far ?_ NB469_474.out _; (with_reducible repeat refine bu ?_); exact BK469.out) hb); replace BK474 := Aside0.mk (blk_below (g := gb474) (o := .cells #[.slice Ao13 t470.length co13] 25 (0, 0)) (by (with_reducible repeat refine bu ?_); refine blk_put (cs := #[.slice none 0 0]) ?_ 0 _ rfl; (with_reducible repeat refine bu ?_); exact BK474.out) hb); replace HB := hbS HB hb; (try clear hb); (try clear hk); (try clear ho0)) | ((with_reducible refine gate_dst (N := 7) rfl ?_); refine box_event rfl (N := 7) rfl (cs := #[.slice none 0 0]) (t := 25) hr_ ?_; intro gb479 hg w18 hbox hb; replace HO467 := Aside0.mk (Kd.R_below (rs HO467) hb); replace HO472 := Aside0.mk (Kd.R_below (rs HO472) hb); replace HO477 := Aside0.mk (Kd.R_below (rs HO477) hb); have BK479 := Aside0.mk hbox; have GW479 := gwE HB hg; have GE479 := gwE HB hg; replace HB := hbS HB hb; have NB469_479 := neL BK469 hg; have NB479_469 := neG BK469 hg; replace BK469 := bkB BK469 hb; have NB474_479 := neL BK474 hg; have NB479_474 := neG BK474 hg; replace BK474 := bkB BK474 hb; clear hb hbox hg; obtain ⟨Ao19, co19, eo19⟩ := Kd.R_slice HO477.out; subst eo19; have hnb20 := NB479_469.out; have hnc20 := NB469_479.out; have hnb21 := NB479_474.out; have hnc21 := NB474_479.out; have hcz22_0 := bcell BK479 0; have hfz22_0 := blk_frozen BK479.out 0))
  (try simp only [Act.put, List.setIfInBounds_toArray, List.set_cons_zero, List.set_cons_succ])
  go_cut [44] (fun v44 wc => ∃ (kq : Nat) (x44_5 : Bool), v44 = .bool x44_5 ∧ Aside0 (laws_FnRwrLine.j0 kq t468 t473 x44_5 t465 t470 = some r) ∧ Aside0 (kq ≤ k) ∧ Aside0 (Kd.R k34 34 wc w.heap.size (fun k_ => some k_ ≠ ((.slice Ao13 t470.length co13) : Value).ownBlock ∧ some k_ ≠ ((.slice Ao19 t475.length co19) : Value).ownBlock) (.slice Ao9 t465.length co9) t465) ∧ Aside0 (Kd.R k34 34 wc w.heap.size (fun k_ => some k_ ≠ ((.slice Ao9 t465.length co9) : Value).ownBlock ∧ some k_ ≠ ((.slice Ao19 t475.length co19) : Value).ownBlock) (.slice Ao13 t470.length co13) t470) ∧ Aside0 (Kd.R k34 34 wc w.heap.size (fun k_ => some k_ ≠ ((.slice Ao9 t465.length co9) : Value).ownBlock ∧ some k_ ≠ ((.slice Ao13 t470.length co13) : Value).ownBlock) (.slice Ao19 t475.length co19) t475) ∧ Aside0 (wc.heap[gb469]? = some (.cells #[(.slice Ao9 t465.length co9)] 25 (0, 0))) ∧ Aside0 (wc.heap[gb474]? = some (.cells #[(.slice Ao13 t470.length co13)] 25 (0, 0))) ∧ Aside0 (wc.heap[gb479]? = some (.cells #[(.slice Ao19 t475.length co19)] 25 (0, 0))) ∧ Aside0 (Below w.heap.size w wc))
  case first =>
   have H := HC6.out
   clear HC6
   replace H := Option.bind_eq_some_iff.mp H
   obtain ⟨t480, A230, H⟩ := H
   try dsimp only at H
   have A23 := Aside0.mk A230
   clear A230
   by_cases c24 : t480 = true
   ·subst c24
    have H1 : (laws_FnRwrLine.j0 k t468 t473 (t473.toList != t478.toList) t465 t470) = some r := by rw [if_pos rfl] at H; exact H
    clear H
    have H := H1
    clear H1
    have H' := Aside0.mk H
    clear H
    have hnb25 := NB474_469.out
    have hnc25 := NB469_474.out
    have hnb26 := NB474_479.out
    have hnc26 := NB479_474.out
    have hcz27_0 := bcell BK474 0
    have hfz27_0 := blk_frozen BK474.out 0
    have hnb28 := NB479_469.out
    have hnc28 := NB469_479.out
    have hcz29_0 := bcell BK479 0
    have hfz29_0 := blk_frozen BK479.out 0
    go_wp2_with (first | ((with_reducible refine gate_callee (f := 15) rfl ?_); refine gL (some 38) Tryz.func15 #[.slice Ao13 t470.length co13, .slice Ao19 t475.length co19] ?_; (with_reducible refine (laws_haEnds.calls k _ _ t470 _ _ t475 true _ ?side1 ?side2 ?side3 ?side4 A23.out).mono ?_); (case side1 => refine (Kd.R_reads' (e := 34) (base := w.heap.size) (ok := fun k_ => ((True ∧ some k_ ≠ (.slice Ao9 t465.length co9 : Value).ownBlock) ∧ some k_ ≠ (.slice Ao19 t475.length co19 : Value).ownBlock)) (n := t470.length) (c := co13) ?_).2.2; exact (by (with_reducible repeat apply ru); exact (Kd.R_mono (Kd.R_far (p := ⟨gb479, 0, none⟩) (Kd.R_types HO472.out BK479.out (by decide)) (fun _ hk => hk.2) (.slice Ao19 t475.length co19)) (fun _ h_ => h_.1)))); (case side2 => exact (Kd.R_reads' HO472.out).2.1); (case side3 => refine (Kd.R_reads' (e := 34) (base := w.heap.size) (ok := fun k_ => ((True ∧ some k_ ≠ (.slice Ao9 t465.length co9 : Value).ownBlock) ∧ some k_ ≠ (.slice Ao13 t470.length co13 : Value).ownBlock)) (n := t475.length) (c := co19) ?_).2.2; exact (by (with_reducible repeat apply ru); exact (Kd.R_mono (Kd.R_far (p := ⟨gb479, 0, none⟩) (Kd.R_types HO477.out BK479.out (by decide)) (fun _ hk => hk.2) (.slice Ao19 t475.length co19)) (fun _ h_ => h_.1)))); (case side4 => exact (Kd.R_reads' HO477.out).2.1); rintro e w' ⟨rfl, ⟨nd, rfl⟩⟩; refine ⟨_, rfl, ?_⟩))
    go_meet
    case rel => exact ⟨_, ((t473.toList != t478.toList)), rs_, H', ⟨by first | omega | exact Nat.le_refl _⟩, ⟨by (with_reducible repeat apply ru); exact Kd.R_mono (Kd.R_far (p := ⟨gb479, 0, none⟩) (Kd.R_types HO467.out BK479.out (by decide)) (fun _ hk => hk.2) (.slice Ao19 t475.length co19)) (fun _ hk => ⟨hk.1.1.2, hk.1.2⟩)⟩, ⟨by (with_reducible repeat apply ru); exact Kd.R_mono (Kd.R_far (p := ⟨gb479, 0, none⟩) (Kd.R_types HO472.out BK479.out (by decide)) (fun _ hk => hk.2) (.slice Ao19 t475.length co19)) (fun _ hk => ⟨hk.1.1.2, hk.1.2⟩)⟩, ⟨by (with_reducible repeat apply ru); exact Kd.R_mono (Kd.R_far (p := ⟨gb479, 0, none⟩) (Kd.R_types HO477.out BK479.out (by decide)) (fun _ hk => hk.2) (.slice Ao19 t475.length co19)) (fun _ hk => ⟨hk.1.1.2, hk.1.2⟩)⟩, ⟨by (with_reducible repeat refine bu ?_); refine blk_far ?_ NB469_479.out _; (with_reducible repeat refine bu ?_); exact BK469.out⟩, ⟨by (with_reducible repeat refine bu ?_); refine blk_far ?_ NB474_479.out _; (with_reducible repeat refine bu ?_); exact BK474.out⟩, ⟨by (with_reducible repeat refine bu ?_); refine blk_put (cs := #[.slice none 0 0]) ?_ 0 _ rfl; (with_reducible repeat refine bu ?_); exact BK479.out⟩, ⟨m2_⟩⟩
   ·replace c24 := Bool.eq_false_iff.mpr c24
    subst c24
    have H1 : (laws_FnRwrLine.j0 k t468 t473 true t465 t470) = some r := by rw [if_neg (show ¬ (false = true) by decide)] at H; exact H
    clear H
    have H := H1
    clear H1
    have H' := Aside0.mk H
    clear H
    have hnb30 := NB474_469.out
    have hnc30 := NB469_474.out
    have hnb31 := NB474_479.out
    have hnc31 := NB479_474.out
    have hcz32_0 := bcell BK474 0
    have hfz32_0 := blk_frozen BK474.out 0
    have hnb33 := NB479_469.out
    have hnc33 := NB469_479.out
    have hcz34_0 := bcell BK479 0
    have hfz34_0 := blk_frozen BK479.out 0
    go_wp2_with (first | ((with_reducible refine gate_callee (f := 15) rfl ?_); refine gL (some 38) Tryz.func15 #[.slice Ao13 t470.length co13, .slice Ao19 t475.length co19] ?_; (with_reducible refine (laws_haEnds.calls k _ _ t470 _ _ t475 false _ ?side1 ?side2 ?side3 ?side4 A23.out).mono ?_); (case side1 => refine (Kd.R_reads' (e := 34) (base := w.heap.size) (ok := fun k_ => ((True ∧ some k_ ≠ (.slice Ao9 t465.length co9 : Value).ownBlock) ∧ some k_ ≠ (.slice Ao19 t475.length co19 : Value).ownBlock)) (n := t470.length) (c := co13) ?_).2.2; exact (by (with_reducible repeat apply ru); exact (Kd.R_mono (Kd.R_far (p := ⟨gb479, 0, none⟩) (Kd.R_types HO472.out BK479.out (by decide)) (fun _ hk => hk.2) (.slice Ao19 t475.length co19)) (fun _ h_ => h_.1)))); (case side2 => exact (Kd.R_reads' HO472.out).2.1); (case side3 => refine (Kd.R_reads' (e := 34) (base := w.heap.size) (ok := fun k_ => ((True ∧ some k_ ≠ (.slice Ao9 t465.length co9 : Value).ownBlock) ∧ some k_ ≠ (.slice Ao13 t470.length co13 : Value).ownBlock)) (n := t475.length) (c := co19) ?_).2.2; exact (by (with_reducible repeat apply ru); exact (Kd.R_mono (Kd.R_far (p := ⟨gb479, 0, none⟩) (Kd.R_types HO477.out BK479.out (by decide)) (fun _ hk => hk.2) (.slice Ao19 t475.length co19)) (fun _ h_ => h_.1)))); (case side4 => exact (Kd.R_reads' HO477.out).2.1); rintro e w' ⟨rfl, ⟨nd, rfl⟩⟩; refine ⟨_, rfl, ?_⟩))
    go_meet
    case rel => exact ⟨_, (true), rs_, H', ⟨by first | omega | exact Nat.le_refl _⟩, ⟨by (with_reducible repeat apply ru); exact Kd.R_mono (Kd.R_far (p := ⟨gb479, 0, none⟩) (Kd.R_types HO467.out BK479.out (by decide)) (fun _ hk => hk.2) (.slice Ao19 t475.length co19)) (fun _ hk => ⟨hk.1.1.2, hk.1.2⟩)⟩, ⟨by (with_reducible repeat apply ru); exact Kd.R_mono (Kd.R_far (p := ⟨gb479, 0, none⟩) (Kd.R_types HO472.out BK479.out (by decide)) (fun _ hk => hk.2) (.slice Ao19 t475.length co19)) (fun _ hk => ⟨hk.1.1.2, hk.1.2⟩)⟩, ⟨by (with_reducible repeat apply ru); exact Kd.R_mono (Kd.R_far (p := ⟨gb479, 0, none⟩) (Kd.R_types HO477.out BK479.out (by decide)) (fun _ hk => hk.2) (.slice Ao19 t475.length co19)) (fun _ hk => ⟨hk.1.1.2, hk.1.2⟩)⟩, ⟨by (with_reducible repeat refine bu ?_); refine blk_far ?_ NB469_479.out _; (with_reducible repeat refine bu ?_); exact BK469.out⟩, ⟨by (with_reducible repeat refine bu ?_); refine blk_far ?_ NB474_479.out _; (with_reducible repeat refine bu ?_); exact BK474.out⟩, ⟨by (with_reducible repeat refine bu ?_); refine blk_put (cs := #[.slice none 0 0]) ?_ 0 _ rfl; (with_reducible repeat refine bu ?_); exact BK479.out⟩, ⟨m2_⟩⟩
  case rest =>
   clear HC6
   try clear c1
   try clear c2
   try clear c2b0
   try clear c2b1
   try clear p2
   try clear c3
   try clear c12
   try clear c13
   try clear c14
   try clear c15
   try clear c20
   try clear c21
   try clear c24
   try clear c25
   try clear c26
   try clear c28
   try clear c30
   try clear c31
   try clear c33
   try clear hcz10_0
   try clear hcz15_0
   try clear hcz16_0
   try clear hcz22_0
   try clear hcz27_0
   try clear hcz29_0
   try clear hcz32_0
   try clear hcz34_0
   try clear hfz10_0
   try clear hfz15_0
   try clear hfz16_0
   try clear hfz22_0
   try clear hfz27_0
   try clear hfz29_0
   try clear hfz32_0
   try clear hfz34_0
   obtain ⟨kq, x44_5, rfl, HA, HJ5, HO_470000, HO_475000, HO_480000, BK469, BK474, BK479, HB⟩ := hcut
   cases kq with
   | zero => exact absurd HA.out (by simp [laws_FnRwrLine.j0])
   | succ kj5 =>
    have H := HA.out
    clear HA
    simp only [laws_FnRwrLine.j0] at H
    by_cases c35 : x44_5 = true
    ·subst c35
     have H1 : (some false) = some r := by rw [if_pos rfl] at H; exact H
     clear H
     have H := H1
     clear H1
     exact absurd ((Option.some.inj H).trans hrt.out) (by decide)
    ·replace c35 := Bool.eq_false_iff.mpr c35
     subst c35
     have H1 : ((spec_MapOk.f kj5 t465).bind fun t481 => (if t481 = true then ((spec_LinOk.f kj5 t468).bind fun t482 => (laws_FnRwrLine.j1 kj5 t468 t473 (!t482) t465 t470)) else (laws_FnRwrLine.j1 kj5 t468 t473 true t465 t470))) = some r := by rw [if_neg (show ¬ (false = true) by decide)] at H; exact H
     clear H
     have H := H1
     clear H1
     have HC36 := Aside0.mk H
     clear H
     go_upto_region 8 with (fail)
     go_cut [52] (fun v52 wc => ∃ (kq : Nat) (x52_35 : Bool), v52 = .bool x52_35 ∧ Aside0 (laws_FnRwrLine.j1 kq t468 t473 x52_35 t465 t470 = some r) ∧ Aside0 (kq ≤ kj5) ∧ Aside0 (Kd.R k34 34 wc w.heap.size (fun k_ => some k_ ≠ ((.slice Ao13 t470.length co13) : Value).ownBlock ∧ some k_ ≠ ((.slice Ao19 t475.length co19) : Value).ownBlock) (.slice Ao9 t465.length co9) t465) ∧ Aside0 (Kd.R k34 34 wc w.heap.size (fun k_ => some k_ ≠ ((.slice Ao9 t465.length co9) : Value).ownBlock ∧ some k_ ≠ ((.slice Ao19 t475.length co19) : Value).ownBlock) (.slice Ao13 t470.length co13) t470) ∧ Aside0 (Kd.R k34 34 wc w.heap.size (fun k_ => some k_ ≠ ((.slice Ao9 t465.length co9) : Value).ownBlock ∧ some k_ ≠ ((.slice Ao13 t470.length co13) : Value).ownBlock) (.slice Ao19 t475.length co19) t475) ∧ Aside0 (wc.heap[gb469]? = some (.cells #[(.slice Ao9 t465.length co9)] 25 (0, 0))) ∧ Aside0 (wc.heap[gb474]? = some (.cells #[(.slice Ao13 t470.length co13)] 25 (0, 0))) ∧ Aside0 (wc.heap[gb479]? = some (.cells #[(.slice Ao19 t475.length co19)] 25 (0, 0))) ∧ Aside0 (Below w.heap.size w wc))
     case first =>
      have H := HC36.out
      clear HC36
      replace H := Option.bind_eq_some_iff.mp H
      obtain ⟨t481, A370, H⟩ := H
      try dsimp only at H
      have A37 := Aside0.mk A370
      clear A370
      by_cases c38 : t481 = true
      ·subst c38
       have H1 : ((spec_LinOk.f kj5 t468).bind fun t482 => (laws_FnRwrLine.j1 kj5 t468 t473 (!t482) t465 t470)) = some r := by rw [if_pos rfl] at H; exact H
       clear H
       have H := H1
       clear H1
       replace H := Option.bind_eq_some_iff.mp H
       obtain ⟨t482, A390, H⟩ := H
       try dsimp only at H
       have A39 := Aside0.mk A390
       clear A390
       have H' := Aside0.mk H
       clear H
       have hnb40 := NB469_474.out
       have hnc40 := NB474_469.out
       have hnb41 := NB469_479.out
       have hnc41 := NB479_469.out
       have hcz42_0 := bcell BK469 0
       have hfz42_0 := blk_frozen BK469.out 0
       go_wp2_with (first | ((with_reducible refine gate_callee (f := 16) rfl ?_); refine gL (some 46) Tryz.func16 #[.agg #[.slice Ao9 t465.length co9]] ?_; (with_reducible refine (spec_MapOk.calls kj5 _ _ t465 true _ ?side1 ?side2 A37.out).mono ?_); (case side1 => repeat (first | exact (Kd.R_reads' HO_470000.out).2.2 | (with_reducible refine Kd.C_alloc ?_ _) | (with_reducible refine Kd.C_drewN ?_ _) | (with_reducible refine Kd.C_drew ?_))); (case side2 => exact (Kd.R_reads' HO_470000.out).2.1); rintro e w43 ⟨rfl, hb⟩; refine ⟨_, rfl, ?_⟩; replace HO_470000 := Aside0.mk (Kd.R_below (rs HO_470000) hb); replace HO_475000 := Aside0.mk (Kd.R_below (rs HO_475000) hb); replace HO_480000 := Aside0.mk (Kd.R_below (rs HO_480000) hb); replace BK469 := bkB BK469 hb; replace BK474 := bkB BK474 hb; replace BK479 := bkB BK479 hb; replace HB := hbS HB hb; (try clear hb)) | (go_at_call 17; (with_reducible refine (spec_LinOk.calls kj5 t468 t482 _ A39.out).mono ?_); rintro e w' ⟨rfl, ⟨nd, rfl⟩⟩))
       go_meet
       case rel => exact ⟨_, (!t482), rs_, H', ⟨by have := HJ5.out; first | omega | exact Nat.le_refl _⟩, ⟨by (with_reducible repeat apply ru); exact HO_470000.out⟩, ⟨by (with_reducible repeat apply ru); exact HO_475000.out⟩, ⟨by (with_reducible repeat apply ru); exact HO_480000.out⟩, ⟨bk BK469⟩, ⟨bk BK474⟩, ⟨bk BK479⟩, ⟨m2_⟩⟩
      ·replace c38 := Bool.eq_false_iff.mpr c38
       subst c38
       have H1 : (laws_FnRwrLine.j1 kj5 t468 t473 true t465 t470) = some r := by rw [if_neg (show ¬ (false = true) by decide)] at H; exact H
       clear H
       have H := H1
       clear H1
       have H' := Aside0.mk H
       clear H
       have hnb44 := NB469_474.out
       have hnc44 := NB474_469.out
       have hnb45 := NB469_479.out
       have hnc45 := NB479_469.out
       have hcz46_0 := bcell BK469 0
       have hfz46_0 := blk_frozen BK469.out 0
       go_wp2_with (first | ((with_reducible refine gate_callee (f := 16) rfl ?_); refine gL (some 46) Tryz.func16 #[.agg #[.slice Ao9 t465.length co9]] ?_; (with_reducible refine (spec_MapOk.calls kj5 _ _ t465 false _ ?side1 ?side2 A37.out).mono ?_); (case side1 => repeat (first | exact (Kd.R_reads' HO_470000.out).2.2 | (with_reducible refine Kd.C_alloc ?_ _) | (with_reducible refine Kd.C_drewN ?_ _) | (with_reducible refine Kd.C_drew ?_))); (case side2 => exact (Kd.R_reads' HO_470000.out).2.1); rintro e w47 ⟨rfl, hb⟩; refine ⟨_, rfl, ?_⟩; replace HO_470000 := Aside0.mk (Kd.R_below (rs HO_470000) hb); replace HO_475000 := Aside0.mk (Kd.R_below (rs HO_475000) hb); replace HO_480000 := Aside0.mk (Kd.R_below (rs HO_480000) hb); replace BK469 := bkB BK469 hb; replace BK474 := bkB BK474 hb; replace BK479 := bkB BK479 hb; replace HB := hbS HB hb; (try clear hb)))
       go_meet
       case rel => exact ⟨_, (true), rs_, H', ⟨by have := HJ5.out; first | omega | exact Nat.le_refl _⟩, ⟨by (with_reducible repeat apply ru); exact HO_470000.out⟩, ⟨by (with_reducible repeat apply ru); exact HO_475000.out⟩, ⟨by (with_reducible repeat apply ru); exact HO_480000.out⟩, ⟨bk BK469⟩, ⟨bk BK474⟩, ⟨bk BK479⟩, ⟨m2_⟩⟩
     case rest =>
      clear HC36
      try clear c1
      try clear c2
      try clear c2b0
      try clear c2b1
      try clear p2
      try clear c3
      try clear c4
      try clear c12
      try clear c13
      try clear c14
      try clear c15
      try clear c16
      try clear c20
      try clear c21
      try clear c24
      try clear c25
      try clear c26
      try clear c28
      try clear c30
      try clear c31
      try clear c33
      try clear c35
      try clear c38
      try clear c40
      try clear c41
      try clear c44
      try clear c45
      try clear hcz10_0
      try clear hcz15_0
      try clear hcz16_0
      try clear hcz22_0
      try clear hcz27_0
      try clear hcz29_0
      try clear hcz32_0
      try clear hcz34_0
      try clear hcz42_0
      try clear hcz46_0
      try clear hfz10_0
      try clear hfz15_0
      try clear hfz16_0
      try clear hfz22_0
      try clear hfz27_0
      try clear hfz29_0
      try clear hfz32_0
      try clear hfz34_0
      try clear hfz42_0
      try clear hfz46_0
      try clear p2
      obtain ⟨kq, x52_35, rfl, HA, HJ35, HO_470000, HO_475000, HO_480000, BK469, BK474, BK479, HB⟩ := hcut
      cases kq with
      | zero => exact absurd HA.out (by simp [laws_FnRwrLine.j1])
      | succ kj35 =>
       have H := HA.out
       clear HA
       simp only [laws_FnRwrLine.j1] at H
       by_cases c48 : x52_35 = true
       ·subst c48
        have H1 : (if t473.toList = ([] : List UInt8) then (if (t470.length : Int) = 0 then ((laws_haOk.f).bind fun t483 => (some t483)) else (some false)) else (some false)) = some r := by rw [if_pos rfl] at H; exact H
        clear H
        have H := H1
        clear H1
        by_cases c49 : t473.toList = ([] : List UInt8)
        ·rw [if_pos c49] at H
         have c49b0 : (t473.toList == ([] : List UInt8)) = true := beq_iff_eq.mpr c49
         have c49b1 : (t473.toList != ([] : List UInt8)) = false := bne_eq_false_iff_eq.mpr c49
         clear c49
         by_cases c50 : (t470.length : Int) = 0
         ·rw [if_pos c50] at H
          have c50b0 : ((t470.length : Int) == 0) = true := beq_iff_eq.mpr c50
          have c50b1 : ((t470.length : Int) != 0) = false := bne_eq_false_iff_eq.mpr c50
          clear c50
          replace H := Option.bind_eq_some_iff.mp H
          obtain ⟨t483, A510, H⟩ := H
          try dsimp only at H
          have A51 := Aside0.mk A510
          clear A510
          obtain rfl := Option.some.inj H
          have hnb52 := NB474_469.out
          have hnc52 := NB469_474.out
          have hnb53 := NB474_479.out
          have hnc53 := NB479_474.out
          have hcz54_0 := bcell BK474 0
          have hfz54_0 := blk_frozen BK474.out 0
          go_wp2_with (first | (go_at_call 18; (with_reducible refine (laws_haOk.calls  t483 _ A51.out).mono ?_); rintro e w55 ⟨rfl, hb⟩; replace HO_470000 := Aside0.mk (Kd.R_below (rs HO_470000) hb); replace HO_475000 := Aside0.mk (Kd.R_below (rs HO_475000) hb); replace HO_480000 := Aside0.mk (Kd.R_below (rs HO_480000) hb); replace BK469 := bkB BK469 hb; replace BK474 := bkB BK474 hb; replace BK479 := bkB BK479 hb; replace HB := hbS HB hb; (try clear hb)))
          go_ret
          exact ⟨fi_, m2_⟩
         ·rw [if_neg c50] at H
          have c50b0 : ((t470.length : Int) == 0) = false := beq_eq_false_iff_ne.mpr c50
          have c50b1 : ((t470.length : Int) != 0) = true := bne_iff_ne.mpr c50
          have c50b2 : ¬ (t470 = []) := fun h_ => c50 (by rw [h_]; rfl)
          exact absurd ((Option.some.inj H).trans hrt.out) (by decide)
        ·rw [if_neg c49] at H
         have c49b0 : (t473.toList == ([] : List UInt8)) = false := beq_eq_false_iff_ne.mpr c49
         have c49b1 : (t473.toList != ([] : List UInt8)) = true := bne_iff_ne.mpr c49
         exact absurd ((Option.some.inj H).trans hrt.out) (by decide)
       ·replace c48 := Bool.eq_false_iff.mpr c48
        subst c48
        have H1 : ((impl_LinSays.f t473).bind fun bt484 => (if bt484.2.2 = true then (laws_FnRwrLine.j2 kj35 t468 t473 true t465 t470) else ((impl_MapOk.f kj35 t470).bind fun t488 => (if t488 = true then ((laws_haFirst.f kj35 t470 t465).bind fun t489 => (if t489 = true then ((impl_LinOk.f t473).bind fun t490 => (laws_FnRwrLine.j2 kj35 t468 t473 (!t490) t465 t470)) else (laws_FnRwrLine.j2 kj35 t468 t473 true t465 t470))) else (laws_FnRwrLine.j2 kj35 t468 t473 true t465 t470))))) = some r := by rw [if_neg (show ¬ (false = true) by decide)] at H; exact H
        clear H
        have H := H1
        clear H1
        replace H := Option.bind_eq_some_iff.mp H
        obtain ⟨⟨t484, t485, t486⟩, A560, H⟩ := H
        try dsimp only at H
        have A56 := Aside0.mk A560
        clear A560
        have HC57 := Aside0.mk H
        clear H
        go_upto_region 11 with (first | ((with_reducible refine gate_callee (f := 19) rfl ?_); refine gL (some 66) Tryz.func19 #[.string t473] ?_; (with_reducible refine (impl_LinSays.calls t473 t484 t485 t486 _ A56.out (EnvE.below hE (bl HB))).mono ?_); rintro e w58 ⟨rfl, hb⟩; refine ⟨_, rfl, ?_⟩; replace HO_470000 := Aside0.mk (Kd.R_below (rs HO_470000) hb); replace HO_475000 := Aside0.mk (Kd.R_below (rs HO_475000) hb); replace HO_480000 := Aside0.mk (Kd.R_below (rs HO_480000) hb); replace BK469 := bkB BK469 hb; replace BK474 := bkB BK474 hb; replace BK479 := bkB BK479 hb; replace HB := hbS HB hb; (try clear hb)) | ((with_reducible refine gate_dst (N := 9) rfl ?_); refine box_event rfl (N := 9) rfl (cs := #[.int .i64 0, .int .i64 0]) (t := 34) hr_ ?_; intro gb487 hg w59 hbox hb; replace HO_470000 := Aside0.mk (Kd.R_below (Kd.R_elderB (rs HO_470000) gb487 (Nat.le_of_eq hg.symm)) hb); replace HO_475000 := Aside0.mk (Kd.R_below (Kd.R_elderB (rs HO_475000) gb487 (Nat.le_of_eq hg.symm)) hb); replace HO_480000 := Aside0.mk (Kd.R_below (Kd.R_elderB (rs HO_480000) gb487 (Nat.le_of_eq hg.symm)) hb); have BK487 := Aside0.mk hbox; have GW487 := gwE HB hg; have GE487 := gwE HB hg; replace HB := hbS HB hb; have NB469_487 := neL BK469 hg; have NB487_469 := neG BK469 hg; replace BK469 := bkB BK469 hb; have NB474_487 := neL BK474 hg; have NB487_474 := neG BK474 hg; replace BK474 := bkB BK474 hb; have NB479_487 := neL BK479 hg; have NB487_479 := neG BK479 hg; replace BK479 := bkB BK479 hb; clear hb hbox hg; have hnb60 := NB487_469.out; have hnc60 := NB469_487.out; have hnb61 := NB487_474.out; have hnc61 := NB474_487.out; have hnb62 := NB487_479.out; have hnc62 := NB479_487.out; have hcz63_0 := bcell BK487 0; have hcz63_1 := bcell BK487 1; have hfz63_0 := blk_frozen BK487.out 0; have hfz63_1 := blk_frozen BK487.out 1))
        (try simp only [Act.put, List.setIfInBounds_toArray, List.set_cons_zero, List.set_cons_succ])
        go_cut [87] (fun v87 wc => ∃ (kq : Nat) (x87_56 : Bool), v87 = .bool x87_56 ∧ Aside0 (laws_FnRwrLine.j2 kq t468 t473 x87_56 t465 t470 = some r) ∧ Aside0 (kq ≤ kj35) ∧ Aside0 (Kd.R k34 34 wc w.heap.size (fun k_ => some k_ ≠ ((.slice Ao13 t470.length co13) : Value).ownBlock ∧ some k_ ≠ ((.slice Ao19 t475.length co19) : Value).ownBlock ∧ k_ ≠ gb487) (.slice Ao9 t465.length co9) t465) ∧ Aside0 (Kd.R k34 34 wc w.heap.size (fun k_ => some k_ ≠ ((.slice Ao9 t465.length co9) : Value).ownBlock ∧ some k_ ≠ ((.slice Ao19 t475.length co19) : Value).ownBlock ∧ k_ ≠ gb487) (.slice Ao13 t470.length co13) t470) ∧ Aside0 (Kd.R k34 34 wc w.heap.size (fun k_ => some k_ ≠ ((.slice Ao9 t465.length co9) : Value).ownBlock ∧ some k_ ≠ ((.slice Ao13 t470.length co13) : Value).ownBlock ∧ k_ ≠ gb487) (.slice Ao19 t475.length co19) t475) ∧ Aside0 (wc.heap[gb469]? = some (.cells #[(.slice Ao9 t465.length co9)] 25 (0, 0))) ∧ Aside0 (wc.heap[gb474]? = some (.cells #[(.slice Ao13 t470.length co13)] 25 (0, 0))) ∧ Aside0 (wc.heap[gb479]? = some (.cells #[(.slice Ao19 t475.length co19)] 25 (0, 0))) ∧ Aside0 (wc.heap[gb487]? = some (.cells #[.int .i64 t484, .int .i64 t485] 34 (0, 0))) ∧ Aside0 (Below w.heap.size w wc))
        case first =>
         have H := HC57.out
         clear HC57
         by_cases c64 : t486 = true
         ·subst c64
          have H1 : (laws_FnRwrLine.j2 kj35 t468 t473 true t465 t470) = some r := by rw [if_pos rfl] at H; exact H
          clear H
          have H := H1
          clear H1
          have H' := Aside0.mk H
          clear H
          go_wp2
          go_meet
          case rel => exact ⟨_, (true), rs_, H', ⟨by have := HJ5.out; have := HJ35.out; first | omega | exact Nat.le_refl _⟩, ⟨by (with_reducible repeat apply ru); exact Kd.R_mono (Kd.R_far (p := ⟨gb487, 1, none⟩) (Kd.R_far (p := ⟨gb487, 0, none⟩) (Kd.R_mono HO_470000.out (fun k_ hk => (⟨hk, hk.2⟩ : _ ∧ k_ ≠ gb487))) (fun _ hk => hk.2) (.int .i64 t484)) (fun _ hk => hk.2) (.int .i64 t485)) (fun _ hk => ⟨hk.1.1.1, ⟨hk.1.1.2, hk.1.2⟩⟩)⟩, ⟨by (with_reducible repeat apply ru); exact Kd.R_mono (Kd.R_far (p := ⟨gb487, 1, none⟩) (Kd.R_far (p := ⟨gb487, 0, none⟩) (Kd.R_mono HO_475000.out (fun k_ hk => (⟨hk, hk.2⟩ : _ ∧ k_ ≠ gb487))) (fun _ hk => hk.2) (.int .i64 t484)) (fun _ hk => hk.2) (.int .i64 t485)) (fun _ hk => ⟨hk.1.1.1, ⟨hk.1.1.2, hk.1.2⟩⟩)⟩, ⟨by (with_reducible repeat apply ru); exact Kd.R_mono (Kd.R_far (p := ⟨gb487, 1, none⟩) (Kd.R_far (p := ⟨gb487, 0, none⟩) (Kd.R_mono HO_480000.out (fun k_ hk => (⟨hk, hk.2⟩ : _ ∧ k_ ≠ gb487))) (fun _ hk => hk.2) (.int .i64 t484)) (fun _ hk => hk.2) (.int .i64 t485)) (fun _ hk => ⟨hk.1.1.1, ⟨hk.1.1.2, hk.1.2⟩⟩)⟩, ⟨by (with_reducible repeat refine bu ?_); refine blk_far ?_ NB469_487.out _; (with_reducible repeat refine bu ?_); refine blk_far ?_ NB469_487.out _; (with_reducible repeat refine bu ?_); exact BK469.out⟩, ⟨by (with_reducible repeat refine bu ?_); refine blk_far ?_ NB474_487.out _; (with_reducible repeat refine bu ?_); refine blk_far ?_ NB474_487.out _; (with_reducible repeat refine bu ?_); exact BK474.out⟩, ⟨by (with_reducible repeat refine bu ?_); refine blk_far ?_ NB479_487.out _; (with_reducible repeat refine bu ?_); refine blk_far ?_ NB479_487.out _; (with_reducible repeat refine bu ?_); exact BK479.out⟩, ⟨by (with_reducible repeat refine bu ?_); refine blk_put (cs := #[.int .i64 t484, .int .i64 0]) ?_ 1 _ rfl; (with_reducible repeat refine bu ?_); refine blk_put (cs := #[.int .i64 0, .int .i64 0]) ?_ 0 _ rfl; (with_reducible repeat refine bu ?_); exact BK487.out⟩, ⟨m2_⟩⟩
         ·replace c64 := Bool.eq_false_iff.mpr c64
          subst c64
          have H1 : ((impl_MapOk.f kj35 t470).bind fun t488 => (if t488 = true then ((laws_haFirst.f kj35 t470 t465).bind fun t489 => (if t489 = true then ((impl_LinOk.f t473).bind fun t490 => (laws_FnRwrLine.j2 kj35 t468 t473 (!t490) t465 t470)) else (laws_FnRwrLine.j2 kj35 t468 t473 true t465 t470))) else (laws_FnRwrLine.j2 kj35 t468 t473 true t465 t470))) = some r := by rw [if_neg (show ¬ (false = true) by decide)] at H; exact H
          clear H
          have H := H1
          clear H1
          replace H := Option.bind_eq_some_iff.mp H
          obtain ⟨t488, A650, H⟩ := H
          try dsimp only at H
          have A65 := Aside0.mk A650
          clear A650
          by_cases c66 : t488 = true
          ·subst c66
           have H1 : ((laws_haFirst.f kj35 t470 t465).bind fun t489 => (if t489 = true then ((impl_LinOk.f t473).bind fun t490 => (laws_FnRwrLine.j2 kj35 t468 t473 (!t490) t465 t470)) else (laws_FnRwrLine.j2 kj35 t468 t473 true t465 t470))) = some r := by rw [if_pos rfl] at H; exact H
           clear H
           have H := H1
           clear H1
           replace H := Option.bind_eq_some_iff.mp H
           obtain ⟨t489, A670, H⟩ := H
           try dsimp only at H
           have A67 := Aside0.mk A670
           clear A670
           by_cases c68 : t489 = true
           ·subst c68
            have H1 : ((impl_LinOk.f t473).bind fun t490 => (laws_FnRwrLine.j2 kj35 t468 t473 (!t490) t465 t470)) = some r := by rw [if_pos rfl] at H; exact H
            clear H
            have H := H1
            clear H1
            replace H := Option.bind_eq_some_iff.mp H
            obtain ⟨t490, A690, H⟩ := H
            try dsimp only at H
            have A69 := Aside0.mk A690
            clear A690
            have H' := Aside0.mk H
            clear H
            have hnb70 := NB474_469.out
            have hnc70 := NB469_474.out
            have hnb71 := NB474_479.out
            have hnc71 := NB479_474.out
            have hnb72 := NB474_487.out
            have hnc72 := NB487_474.out
            have hcz73_0 := bcell BK474 0
            have hfz73_0 := blk_frozen BK474.out 0
            go_wp2_with (first | (go_at_call 20; (with_reducible refine (impl_MapOk.calls kj35 _ _ t470 true _ ?side1 ?side2 A65.out).mono ?_); (case side1 => refine (Kd.R_reads' (e := 34) (base := w.heap.size) (ok := fun k_ => ((some k_ ≠ (.slice Ao9 t465.length co9 : Value).ownBlock ∧ some k_ ≠ (.slice Ao19 t475.length co19 : Value).ownBlock) ∧ k_ ≠ gb487)) (n := t470.length) (c := co13) ?_).2.2; exact (by (with_reducible repeat apply ru); exact (Kd.R_mono (Kd.R_far (p := ⟨gb487, 1, none⟩) (Kd.R_far (p := ⟨gb487, 0, none⟩) (Kd.R_mono HO_475000.out (fun k_ hk => (⟨hk, hk.2⟩ : _ ∧ k_ ≠ gb487))) (fun _ hk => hk.2) (.int .i64 t484)) (fun _ hk => hk.2) (.int .i64 t485)) (fun _ h_ => h_.1)))); (case side2 => exact (Kd.R_reads' HO_475000.out).2.1); rintro e w74 ⟨rfl, hb⟩; replace HO_470000 := Aside0.mk (Kd.R_below (by (with_reducible repeat apply ru); exact (Kd.R_mono (Kd.R_far (p := ⟨gb487, 1, none⟩) (Kd.R_far (p := ⟨gb487, 0, none⟩) (Kd.R_mono HO_470000.out (fun k_ hk => (⟨hk, hk.2⟩ : _ ∧ k_ ≠ gb487))) (fun _ hk => hk.2) (.int .i64 t484)) (fun _ hk => hk.2) (.int .i64 t485)) (fun _ h_ => h_.1))) hb); replace HO_475000 := Aside0.mk (Kd.R_below (by (with_reducible repeat apply ru); exact (Kd.R_mono (Kd.R_far (p := ⟨gb487, 1, none⟩) (Kd.R_far (p := ⟨gb487, 0, none⟩) (Kd.R_mono HO_475000.out (fun k_ hk => (⟨hk, hk.2⟩ : _ ∧ k_ ≠ gb487))) (fun _ hk => hk.2) (.int .i64 t484)) (fun _ hk => hk.2) (.int .i64 t485)) (fun _ h_ => h_.1))) hb); replace HO_480000 := Aside0.mk (Kd.R_below (by (with_reducible repeat apply ru); exact (Kd.R_mono (Kd.R_far (p := ⟨gb487, 1, none⟩) (Kd.R_far (p := ⟨gb487, 0, none⟩) (Kd.R_mono HO_480000.out (fun k_ hk => (⟨hk, hk.2⟩ : _ ∧ k_ ≠ gb487))) (fun _ hk => hk.2) (.int .i64 t484)) (fun _ hk => hk.2) (.int .i64 t485)) (fun _ h_ => h_.1))) hb); replace BK469 := Aside0.mk (blk_below (g := gb469) (o := .cells #[.slice Ao9 t465.length co9] 25 (0, 0)) (by (with_reducible repeat refine bu ?_); refine blk_far ?_ NB469_487.out _; (with_reducible repeat refine bu ?_); refine blk_far ?_ NB469_487.out _; (with_reducible repeat refine bu ?_); exact BK469.out) hb); replace BK474 := Aside0.mk (blk_below (g := gb474) (o := .cells #[.slice Ao13 t470.length co13] 25 (0, 0)) (by (with_reducible repeat refine bu ?_); refine blk_far ?_ NB474_487.out _; (with_reducible repeat refine bu ?_); refine blk_far ?_ NB474_487.out _; (with_reducible repeat refine bu ?_); exact BK474.out) hb); replace BK479 := Aside0.mk (blk_below (g := gb479) (o := .cells #[.slice Ao19 t475.length co19] 25 (0, 0)) (by (with_reducible repeat refine bu ?_); refine blk_far ?_ NB479_487.out _; (with_reducible repeat refine bu ?_); refine blk_far ?_ NB479_487.out _; (with_reducible repeat refine bu ?_); exact BK479.out) hb); replace BK487 := Aside0.mk (blk_below (g := gb487) (o := .cells #[.int .i64 t484, .int .i64 t485] 34 (0, 0)) (by (with_reducible repeat refine bu ?_); refine blk_put (cs := #[.int .i64 t484, .int .i64 0]) ?_ 1 _ rfl; (with_reducible repeat refine bu ?_); refine blk_put (cs := #[.int .i64 0, .int .i64 0]) ?_ 0 _ rfl; (with_reducible repeat refine bu ?_); exact BK487.out) hb); replace HB := hbS HB hb; (try clear hb); (try clear hk); have hcz75_0 := bcell BK474 0; have hfz75_0 := blk_frozen BK474.out 0; have hnb76 := NB469_479.out; have hnc76 := NB479_469.out; have hnb77 := NB469_487.out; have hnc77 := NB487_469.out; have hcz78_0 := bcell BK469 0; have hfz78_0 := blk_frozen BK469.out 0) | (go_at_call 21; (with_reducible refine (laws_haFirst.calls kj35 _ _ t470 _ _ t465 true _ ?side1 ?side2 ?side3 ?side4 A67.out).mono ?_); (case side1 => repeat (first | exact (Kd.R_reads' HO_475000.out).2.2 | (with_reducible refine Kd.C_alloc ?_ _) | (with_reducible refine Kd.C_drewN ?_ _) | (with_reducible refine Kd.C_drew ?_))); (case side2 => exact (Kd.R_reads' HO_475000.out).2.1); (case side3 => repeat (first | exact (Kd.R_reads' HO_470000.out).2.2 | (with_reducible refine Kd.C_alloc ?_ _) | (with_reducible refine Kd.C_drewN ?_ _) | (with_reducible refine Kd.C_drew ?_))); (case side4 => exact (Kd.R_reads' HO_470000.out).2.1); rintro e w' ⟨rfl, ⟨nd, rfl⟩⟩) | (go_at_call 22; (with_reducible refine (impl_LinOk.calls t473 t490 _ A69.out).mono ?_); rintro e w79 ⟨rfl, hb⟩; replace HO_470000 := Aside0.mk (Kd.R_below (rs HO_470000) hb); replace HO_475000 := Aside0.mk (Kd.R_below (rs HO_475000) hb); replace HO_480000 := Aside0.mk (Kd.R_below (rs HO_480000) hb); replace BK469 := bkB BK469 hb; replace BK474 := bkB BK474 hb; replace BK479 := bkB BK479 hb; replace BK487 := bkB BK487 hb; replace HB := hbS HB hb; (try clear hb)))
            go_meet
            case rel => exact ⟨_, (!t490), rs_, H', ⟨by have := HJ5.out; have := HJ35.out; first | omega | exact Nat.le_refl _⟩, ⟨by (with_reducible repeat apply ru); exact Kd.R_mono HO_470000.out (fun _ hk => ⟨hk.1.1, ⟨hk.1.2, hk.2⟩⟩)⟩, ⟨by (with_reducible repeat apply ru); exact Kd.R_mono HO_475000.out (fun _ hk => ⟨hk.1.1, ⟨hk.1.2, hk.2⟩⟩)⟩, ⟨by (with_reducible repeat apply ru); exact Kd.R_mono HO_480000.out (fun _ hk => ⟨hk.1.1, ⟨hk.1.2, hk.2⟩⟩)⟩, ⟨bk BK469⟩, ⟨bk BK474⟩, ⟨bk BK479⟩, ⟨bk BK487⟩, ⟨m2_⟩⟩
           ·replace c68 := Bool.eq_false_iff.mpr c68
            subst c68
            have H1 : (laws_FnRwrLine.j2 kj35 t468 t473 true t465 t470) = some r := by rw [if_neg (show ¬ (false = true) by decide)] at H; exact H
            clear H
            have H := H1
            clear H1
            have H' := Aside0.mk H
            clear H
            have hnb80 := NB474_469.out
            have hnc80 := NB469_474.out
            have hnb81 := NB474_479.out
            have hnc81 := NB479_474.out
            have hnb82 := NB474_487.out
            have hnc82 := NB487_474.out
            have hcz83_0 := bcell BK474 0
            have hfz83_0 := blk_frozen BK474.out 0
            go_wp2_with (first | (go_at_call 20; (with_reducible refine (impl_MapOk.calls kj35 _ _ t470 true _ ?side1 ?side2 A65.out).mono ?_); (case side1 => refine (Kd.R_reads' (e := 34) (base := w.heap.size) (ok := fun k_ => ((some k_ ≠ (.slice Ao9 t465.length co9 : Value).ownBlock ∧ some k_ ≠ (.slice Ao19 t475.length co19 : Value).ownBlock) ∧ k_ ≠ gb487)) (n := t470.length) (c := co13) ?_).2.2; exact (by (with_reducible repeat apply ru); exact (Kd.R_mono (Kd.R_far (p := ⟨gb487, 1, none⟩) (Kd.R_far (p := ⟨gb487, 0, none⟩) (Kd.R_mono HO_475000.out (fun k_ hk => (⟨hk, hk.2⟩ : _ ∧ k_ ≠ gb487))) (fun _ hk => hk.2) (.int .i64 t484)) (fun _ hk => hk.2) (.int .i64 t485)) (fun _ h_ => h_.1)))); (case side2 => exact (Kd.R_reads' HO_475000.out).2.1); rintro e w84 ⟨rfl, hb⟩; replace HO_470000 := Aside0.mk (Kd.R_below (by (with_reducible repeat apply ru); exact (Kd.R_mono (Kd.R_far (p := ⟨gb487, 1, none⟩) (Kd.R_far (p := ⟨gb487, 0, none⟩) (Kd.R_mono HO_470000.out (fun k_ hk => (⟨hk, hk.2⟩ : _ ∧ k_ ≠ gb487))) (fun _ hk => hk.2) (.int .i64 t484)) (fun _ hk => hk.2) (.int .i64 t485)) (fun _ h_ => h_.1))) hb); replace HO_475000 := Aside0.mk (Kd.R_below (by (with_reducible repeat apply ru); exact (Kd.R_mono (Kd.R_far (p := ⟨gb487, 1, none⟩) (Kd.R_far (p := ⟨gb487, 0, none⟩) (Kd.R_mono HO_475000.out (fun k_ hk => (⟨hk, hk.2⟩ : _ ∧ k_ ≠ gb487))) (fun _ hk => hk.2) (.int .i64 t484)) (fun _ hk => hk.2) (.int .i64 t485)) (fun _ h_ => h_.1))) hb); replace HO_480000 := Aside0.mk (Kd.R_below (by (with_reducible repeat apply ru); exact (Kd.R_mono (Kd.R_far (p := ⟨gb487, 1, none⟩) (Kd.R_far (p := ⟨gb487, 0, none⟩) (Kd.R_mono HO_480000.out (fun k_ hk => (⟨hk, hk.2⟩ : _ ∧ k_ ≠ gb487))) (fun _ hk => hk.2) (.int .i64 t484)) (fun _ hk => hk.2) (.int .i64 t485)) (fun _ h_ => h_.1))) hb); replace BK469 := Aside0.mk (blk_below (g := gb469) (o := .cells #[.slice Ao9 t465.length co9] 25 (0, 0)) (by (with_reducible repeat refine bu ?_); refine blk_far ?_ NB469_487.out _; (with_reducible repeat refine bu ?_); refine blk_far ?_ NB469_487.out _; (with_reducible repeat refine bu ?_); exact BK469.out) hb); replace BK474 := Aside0.mk (blk_below (g := gb474) (o := .cells #[.slice Ao13 t470.length co13] 25 (0, 0)) (by (with_reducible repeat refine bu ?_); refine blk_far ?_ NB474_487.out _; (with_reducible repeat refine bu ?_); refine blk_far ?_ NB474_487.out _; (with_reducible repeat refine bu ?_); exact BK474.out) hb); replace BK479 := Aside0.mk (blk_below (g := gb479) (o := .cells #[.slice Ao19 t475.length co19] 25 (0, 0)) (by (with_reducible repeat refine bu ?_); refine blk_far ?_ NB479_487.out _; (with_reducible repeat refine bu ?_); refine blk_far ?_ NB479_487.out _; (with_reducible repeat refine bu ?_); exact BK479.out) hb); replace BK487 := Aside0.mk (blk_below (g := gb487) (o := .cells #[.int .i64 t484, .int .i64 t485] 34 (0, 0)) (by (with_reducible repeat refine bu ?_); refine blk_put (cs := #[.int .i64 t484, .int .i64 0]) ?_ 1 _ rfl; (with_reducible repeat refine bu ?_); refine blk_put (cs := #[.int .i64 0, .int .i64 0]) ?_ 0 _ rfl; (with_reducible repeat refine bu ?_); exact BK487.out) hb); replace HB := hbS HB hb; (try clear hb); (try clear hk); have hcz85_0 := bcell BK474 0; have hfz85_0 := blk_frozen BK474.out 0; have hnb86 := NB469_479.out; have hnc86 := NB479_469.out; have hnb87 := NB469_487.out; have hnc87 := NB487_469.out; have hcz88_0 := bcell BK469 0; have hfz88_0 := blk_frozen BK469.out 0) | (go_at_call 21; (with_reducible refine (laws_haFirst.calls kj35 _ _ t470 _ _ t465 false _ ?side1 ?side2 ?side3 ?side4 A67.out).mono ?_); (case side1 => repeat (first | exact (Kd.R_reads' HO_475000.out).2.2 | (with_reducible refine Kd.C_alloc ?_ _) | (with_reducible refine Kd.C_drewN ?_ _) | (with_reducible refine Kd.C_drew ?_))); (case side2 => exact (Kd.R_reads' HO_475000.out).2.1); (case side3 => repeat (first | exact (Kd.R_reads' HO_470000.out).2.2 | (with_reducible refine Kd.C_alloc ?_ _) | (with_reducible refine Kd.C_drewN ?_ _) | (with_reducible refine Kd.C_drew ?_))); (case side4 => exact (Kd.R_reads' HO_470000.out).2.1); rintro e w' ⟨rfl, ⟨nd, rfl⟩⟩))
            go_meet
            case rel => exact ⟨_, (true), rs_, H', ⟨by have := HJ5.out; have := HJ35.out; first | omega | exact Nat.le_refl _⟩, ⟨by (with_reducible repeat apply ru); exact Kd.R_mono HO_470000.out (fun _ hk => ⟨hk.1.1, ⟨hk.1.2, hk.2⟩⟩)⟩, ⟨by (with_reducible repeat apply ru); exact Kd.R_mono HO_475000.out (fun _ hk => ⟨hk.1.1, ⟨hk.1.2, hk.2⟩⟩)⟩, ⟨by (with_reducible repeat apply ru); exact Kd.R_mono HO_480000.out (fun _ hk => ⟨hk.1.1, ⟨hk.1.2, hk.2⟩⟩)⟩, ⟨bk BK469⟩, ⟨bk BK474⟩, ⟨bk BK479⟩, ⟨bk BK487⟩, ⟨m2_⟩⟩
          ·replace c66 := Bool.eq_false_iff.mpr c66
           subst c66
           have H1 : (laws_FnRwrLine.j2 kj35 t468 t473 true t465 t470) = some r := by rw [if_neg (show ¬ (false = true) by decide)] at H; exact H
           clear H
           have H := H1
           clear H1
           have H' := Aside0.mk H
           clear H
           have hnb89 := NB474_469.out
           have hnc89 := NB469_474.out
           have hnb90 := NB474_479.out
           have hnc90 := NB479_474.out
           have hnb91 := NB474_487.out
           have hnc91 := NB487_474.out
           have hcz92_0 := bcell BK474 0
           have hfz92_0 := blk_frozen BK474.out 0
           go_wp2_with (first | (go_at_call 20; (with_reducible refine (impl_MapOk.calls kj35 _ _ t470 false _ ?side1 ?side2 A65.out).mono ?_); (case side1 => refine (Kd.R_reads' (e := 34) (base := w.heap.size) (ok := fun k_ => ((some k_ ≠ (.slice Ao9 t465.length co9 : Value).ownBlock ∧ some k_ ≠ (.slice Ao19 t475.length co19 : Value).ownBlock) ∧ k_ ≠ gb487)) (n := t470.length) (c := co13) ?_).2.2; exact (by (with_reducible repeat apply ru); exact (Kd.R_mono (Kd.R_far (p := ⟨gb487, 1, none⟩) (Kd.R_far (p := ⟨gb487, 0, none⟩) (Kd.R_mono HO_475000.out (fun k_ hk => (⟨hk, hk.2⟩ : _ ∧ k_ ≠ gb487))) (fun _ hk => hk.2) (.int .i64 t484)) (fun _ hk => hk.2) (.int .i64 t485)) (fun _ h_ => h_.1)))); (case side2 => exact (Kd.R_reads' HO_475000.out).2.1); rintro e w93 ⟨rfl, hb⟩; replace HO_470000 := Aside0.mk (Kd.R_below (by (with_reducible repeat apply ru); exact (Kd.R_mono (Kd.R_far (p := ⟨gb487, 1, none⟩) (Kd.R_far (p := ⟨gb487, 0, none⟩) (Kd.R_mono HO_470000.out (fun k_ hk => (⟨hk, hk.2⟩ : _ ∧ k_ ≠ gb487))) (fun _ hk => hk.2) (.int .i64 t484)) (fun _ hk => hk.2) (.int .i64 t485)) (fun _ h_ => h_.1))) hb); replace HO_475000 := Aside0.mk (Kd.R_below (by (with_reducible repeat apply ru); exact (Kd.R_mono (Kd.R_far (p := ⟨gb487, 1, none⟩) (Kd.R_far (p := ⟨gb487, 0, none⟩) (Kd.R_mono HO_475000.out (fun k_ hk => (⟨hk, hk.2⟩ : _ ∧ k_ ≠ gb487))) (fun _ hk => hk.2) (.int .i64 t484)) (fun _ hk => hk.2) (.int .i64 t485)) (fun _ h_ => h_.1))) hb); replace HO_480000 := Aside0.mk (Kd.R_below (by (with_reducible repeat apply ru); exact (Kd.R_mono (Kd.R_far (p := ⟨gb487, 1, none⟩) (Kd.R_far (p := ⟨gb487, 0, none⟩) (Kd.R_mono HO_480000.out (fun k_ hk => (⟨hk, hk.2⟩ : _ ∧ k_ ≠ gb487))) (fun _ hk => hk.2) (.int .i64 t484)) (fun _ hk => hk.2) (.int .i64 t485)) (fun _ h_ => h_.1))) hb); replace BK469 := Aside0.mk (blk_below (g := gb469) (o := .cells #[.slice Ao9 t465.length co9] 25 (0, 0)) (by (with_reducible repeat refine bu ?_); refine blk_far ?_ NB469_487.out _; (with_reducible repeat refine bu ?_); refine blk_far ?_ NB469_487.out _; (with_reducible repeat refine bu ?_); exact BK469.out) hb); replace BK474 := Aside0.mk (blk_below (g := gb474) (o := .cells #[.slice Ao13 t470.length co13] 25 (0, 0)) (by (with_reducible repeat refine bu ?_); refine blk_far ?_ NB474_487.out _; (with_reducible repeat refine bu ?_); refine blk_far ?_ NB474_487.out _; (with_reducible repeat refine bu ?_); exact BK474.out) hb); replace BK479 := Aside0.mk (blk_below (g := gb479) (o := .cells #[.slice Ao19 t475.length co19] 25 (0, 0)) (by (with_reducible repeat refine bu ?_); refine blk_far ?_ NB479_487.out _; (with_reducible repeat refine bu ?_); refine blk_far ?_ NB479_487.out _; (with_reducible repeat refine bu ?_); exact BK479.out) hb); replace BK487 := Aside0.mk (blk_below (g := gb487) (o := .cells #[.int .i64 t484, .int .i64 t485] 34 (0, 0)) (by (with_reducible repeat refine bu ?_); refine blk_put (cs := #[.int .i64 t484, .int .i64 0]) ?_ 1 _ rfl; (with_reducible repeat refine bu ?_); refine blk_put (cs := #[.int .i64 0, .int .i64 0]) ?_ 0 _ rfl; (with_reducible repeat refine bu ?_); exact BK487.out) hb); replace HB := hbS HB hb; (try clear hb); (try clear hk)))
           go_meet
           case rel => exact ⟨_, (true), rs_, H', ⟨by have := HJ5.out; have := HJ35.out; first | omega | exact Nat.le_refl _⟩, ⟨by (with_reducible repeat apply ru); exact Kd.R_mono HO_470000.out (fun _ hk => ⟨hk.1.1, ⟨hk.1.2, hk.2⟩⟩)⟩, ⟨by (with_reducible repeat apply ru); exact Kd.R_mono HO_475000.out (fun _ hk => ⟨hk.1.1, ⟨hk.1.2, hk.2⟩⟩)⟩, ⟨by (with_reducible repeat apply ru); exact Kd.R_mono HO_480000.out (fun _ hk => ⟨hk.1.1, ⟨hk.1.2, hk.2⟩⟩)⟩, ⟨bk BK469⟩, ⟨bk BK474⟩, ⟨bk BK479⟩, ⟨bk BK487⟩, ⟨m2_⟩⟩
        case rest =>
         clear HC57
         try clear c1
         try clear c2
         try clear c2b0
         try clear c2b1
         try clear p2
         try clear c3
         try clear c4
         try clear c5
         try clear c6
         try clear c7
         try clear c8
         try clear c9
         try clear c12
         try clear c13
         try clear c14
         try clear c15
         try clear c16
         try clear c19
         try clear c20
         try clear c21
         try clear c24
         try clear c25
         try clear c26
         try clear c28
         try clear c30
         try clear c31
         try clear c33
         try clear c35
         try clear c38
         try clear c40
         try clear c41
         try clear c44
         try clear c45
         try clear c48
         try clear c49
         try clear c49b0
         try clear c49b1
         try clear c50
         try clear c50b0
         try clear c50b1
         try clear c50b2
         try clear c52
         try clear c53
         try clear c60
         try clear c61
         try clear c62
         try clear c64
         try clear c66
         try clear c68
         try clear c70
         try clear c71
         try clear c72
         try clear c76
         try clear c77
         try clear c80
         try clear c81
         try clear c82
         try clear c86
         try clear c87
         try clear c89
         try clear c90
         try clear c91
         try clear hcz10_0
         try clear hcz15_0
         try clear hcz16_0
         try clear hcz22_0
         try clear hcz27_0
         try clear hcz29_0
         try clear hcz32_0
         try clear hcz34_0
         try clear hcz42_0
         try clear hcz46_0
         try clear hcz54_0
         try clear hcz63_0
         try clear hcz63_1
         try clear hcz73_0
         try clear hcz75_0
         try clear hcz78_0
         try clear hcz83_0
         try clear hcz85_0
         try clear hcz88_0
         try clear hcz92_0
         try clear hfz10_0
         try clear hfz15_0
         try clear hfz16_0
         try clear hfz22_0
         try clear hfz27_0
         try clear hfz29_0
         try clear hfz32_0
         try clear hfz34_0
         try clear hfz42_0
         try clear hfz46_0
         try clear hfz54_0
         try clear hfz63_0
         try clear hfz63_1
         try clear hfz73_0
         try clear hfz75_0
         try clear hfz78_0
         try clear hfz83_0
         try clear hfz85_0
         try clear hfz88_0
         try clear hfz92_0
         try clear p2
         obtain ⟨kq, x87_56, rfl, HA, HJ56, HO_470000, HO_475000, HO_480000, BK469, BK474, BK479, BK487, HB⟩ := hcut
         cases kq with
         | zero => exact absurd HA.out (by simp [laws_FnRwrLine.j2])
         | succ kj56 =>
          have H := HA.out
          clear HA
          simp only [laws_FnRwrLine.j2] at H
          by_cases c94 : x87_56 = true
          ·subst c94
           have H1 : (some false) = some r := by rw [if_pos rfl] at H; exact H
           clear H
           have H := H1
           clear H1
           exact absurd ((Option.some.inj H).trans hrt.out) (by decide)
          ·replace c94 := Bool.eq_false_iff.mpr c94
           subst c94
           have H1 : ((impl_LinSays.f t468).bind fun bt491 => (if bt491.2.2 = true then ((impl_MapPort.f t470 bt491.1 bt491.2.1).bind fun t496 => (if t496 = 0 then (if t473.toList = ([110, 111, 110, 101] : List UInt8) then (some ((t470.length : Int) == 6)) else (some false)) else ((impl_LinPort.f 50 t496).bind fun t497 => (some (t473.toList == t497.toList))))) else (if t473.toList = t468.toList then ((laws_haEnds.f kj56 t470 t465).bind fun t495 => (some t495)) else (some false)))) = some r := by rw [if_neg (show ¬ (false = true) by decide)] at H; exact H
           clear H
           have H := H1
           clear H1
           replace H := Option.bind_eq_some_iff.mp H
           obtain ⟨⟨t491, t492, t493⟩, A950, H⟩ := H
           try dsimp only at H
           have A95 := Aside0.mk A950
           clear A950
           by_cases c96 : t493 = true
           ·subst c96
            have H1 : ((impl_MapPort.f t470 t491 t492).bind fun t496 => (if t496 = 0 then (if t473.toList = ([110, 111, 110, 101] : List UInt8) then (some ((t470.length : Int) == 6)) else (some false)) else ((impl_LinPort.f 50 t496).bind fun t497 => (some (t473.toList == t497.toList))))) = some r := by rw [if_pos rfl] at H; exact H
            clear H
            have H := H1
            clear H1
            replace H := Option.bind_eq_some_iff.mp H
            obtain ⟨t496, A970, H⟩ := H
            try dsimp only at H
            have A97 := Aside0.mk A970
            clear A970
            by_cases c98 : t496 = 0
            ·rw [if_pos c98] at H
             have c98b0 : (t496 == 0) = true := beq_iff_eq.mpr c98
             have c98b1 : (t496 != 0) = false := bne_eq_false_iff_eq.mpr c98
             clear c98
             by_cases c99 : t473.toList = ([110, 111, 110, 101] : List UInt8)
             ·rw [if_pos c99] at H
              have c99b0 : (t473.toList == ([110, 111, 110, 101] : List UInt8)) = true := beq_iff_eq.mpr c99
              have c99b1 : (t473.toList != ([110, 111, 110, 101] : List UInt8)) = false := bne_eq_false_iff_eq.mpr c99
              clear c99
              obtain rfl := Option.some.inj H
              go_wp2_with (first | ((with_reducible refine gate_callee (f := 19) rfl ?_); refine gL (some 90) Tryz.func19 #[.string t468] ?_; (with_reducible refine (impl_LinSays.calls t468 t491 t492 true _ A95.out (EnvE.below hE (bl HB))).mono ?_); rintro e w100 ⟨rfl, hb⟩; refine ⟨_, rfl, ?_⟩; replace HO_470000 := Aside0.mk (Kd.R_below (rs HO_470000) hb); replace HO_475000 := Aside0.mk (Kd.R_below (rs HO_475000) hb); replace HO_480000 := Aside0.mk (Kd.R_below (rs HO_480000) hb); replace BK469 := bkB BK469 hb; replace BK474 := bkB BK474 hb; replace BK479 := bkB BK479 hb; replace BK487 := bkB BK487 hb; replace HB := hbS HB hb; (try clear hb)) | ((with_reducible refine gate_dst (N := 11) rfl ?_); refine box_event rfl (N := 11) rfl (cs := #[.int .i64 0, .int .i64 0]) (t := 34) hr_ ?_; intro gb494 hg w101 hbox hb; replace HO_470000 := Aside0.mk (Kd.R_below (Kd.R_elderB (rs HO_470000) gb494 (Nat.le_of_eq hg.symm)) hb); replace HO_475000 := Aside0.mk (Kd.R_below (Kd.R_elderB (rs HO_475000) gb494 (Nat.le_of_eq hg.symm)) hb); replace HO_480000 := Aside0.mk (Kd.R_below (Kd.R_elderB (rs HO_480000) gb494 (Nat.le_of_eq hg.symm)) hb); have BK494 := Aside0.mk hbox; have GW494 := gwE HB hg; have GE494 := gwE HB hg; replace HB := hbS HB hb; have NB469_494 := neL BK469 hg; have NB494_469 := neG BK469 hg; replace BK469 := bkB BK469 hb; have NB474_494 := neL BK474 hg; have NB494_474 := neG BK474 hg; replace BK474 := bkB BK474 hb; have NB479_494 := neL BK479 hg; have NB494_479 := neG BK479 hg; replace BK479 := bkB BK479 hb; have NB487_494 := neL BK487 hg; have NB494_487 := neG BK487 hg; replace BK487 := bkB BK487 hb; clear hb hbox hg; have hnb102 := NB494_469.out; have hnc102 := NB469_494.out; have hnb103 := NB494_474.out; have hnc103 := NB474_494.out; have hnb104 := NB494_479.out; have hnc104 := NB479_494.out; have hnb105 := NB494_487.out; have hnc105 := NB487_494.out; have hcz106_0 := bcell BK494 0; have hcz106_1 := bcell BK494 1; have hfz106_0 := blk_frozen BK494.out 0; have hfz106_1 := blk_frozen BK494.out 1; have hnb107 := NB474_469.out; have hnc107 := NB469_474.out; have hnb108 := NB474_479.out; have hnc108 := NB479_474.out; have hnb109 := NB474_487.out; have hnc109 := NB487_474.out; have hcz110_0 := bcell BK474 0; have hfz110_0 := blk_frozen BK474.out 0) | ((with_reducible refine gate_callee (f := 23) rfl ?_); refine gL (some 107) Tryz.func23 #[.agg #[.slice Ao13 t470.length co13], .agg #[.int .i64 t491, .int .i64 t492]] ?_; (with_reducible refine (impl_MapPort.calls _ _ t470 t491 t492 t496 _ ?side1 ?side2 A97.out).mono ?_); (case side1 => refine (Kd.R_reads' (e := 34) (base := w.heap.size) (ok := fun k_ => ((some k_ ≠ (.slice Ao9 t465.length co9 : Value).ownBlock ∧ (some k_ ≠ (.slice Ao19 t475.length co19 : Value).ownBlock ∧ k_ ≠ gb487)) ∧ k_ ≠ gb494)) (n := t470.length) (c := co13) ?_).2.2; exact (by (with_reducible repeat apply ru); exact (Kd.R_mono (Kd.R_far (p := ⟨gb494, 1, none⟩) (Kd.R_far (p := ⟨gb494, 0, none⟩) (Kd.R_mono HO_475000.out (fun k_ hk => (⟨hk, hk.2⟩ : _ ∧ k_ ≠ gb494))) (fun _ hk => hk.2) (.int .i64 t491)) (fun _ hk => hk.2) (.int .i64 t492)) (fun _ h_ => h_.1)))); (case side2 => exact (Kd.R_reads' HO_475000.out).2.1); rintro e w111 ⟨rfl, hb⟩; refine ⟨_, rfl, ?_⟩; replace HO_470000 := Aside0.mk (Kd.R_below (by (with_reducible repeat apply ru); exact (Kd.R_mono (Kd.R_far (p := ⟨gb494, 1, none⟩) (Kd.R_far (p := ⟨gb494, 0, none⟩) (Kd.R_mono HO_470000.out (fun k_ hk => (⟨hk, hk.2⟩ : _ ∧ k_ ≠ gb494))) (fun _ hk => hk.2) (.int .i64 t491)) (fun _ hk => hk.2) (.int .i64 t492)) (fun _ h_ => h_.1))) hb); replace HO_475000 := Aside0.mk (Kd.R_below (by (with_reducible repeat apply ru); exact (Kd.R_mono (Kd.R_far (p := ⟨gb494, 1, none⟩) (Kd.R_far (p := ⟨gb494, 0, none⟩) (Kd.R_mono HO_475000.out (fun k_ hk => (⟨hk, hk.2⟩ : _ ∧ k_ ≠ gb494))) (fun _ hk => hk.2) (.int .i64 t491)) (fun _ hk => hk.2) (.int .i64 t492)) (fun _ h_ => h_.1))) hb); replace HO_480000 := Aside0.mk (Kd.R_below (by (with_reducible repeat apply ru); exact (Kd.R_mono (Kd.R_far (p := ⟨gb494, 1, none⟩) (Kd.R_far (p := ⟨gb494, 0, none⟩) (Kd.R_mono HO_480000.out (fun k_ hk => (⟨hk, hk.2⟩ : _ ∧ k_ ≠ gb494))) (fun _ hk => hk.2) (.int .i64 t491)) (fun _ hk => hk.2) (.int .i64 t492)) (fun _ h_ => h_.1))) hb); replace BK469 := Aside0.mk (blk_below (g := gb469) (o := .cells #[.slice Ao9 t465.length co9] 25 (0, 0)) (by (with_reducible repeat refine bu ?_); refine blk_far ?_ NB469_494.out _; (with_reducible repeat refine bu ?_); refine blk_far ?_ NB469_494.out _; (with_reducible repeat refine bu ?_); exact BK469.out) hb); replace BK474 := Aside0.mk (blk_below (g := gb474) (o := .cells #[.slice Ao13 t470.length co13] 25 (0, 0)) (by (with_reducible repeat refine bu ?_); refine blk_far ?_ NB474_494.out _; (with_reducible repeat refine bu ?_); refine blk_far ?_ NB474_494.out _; (with_reducible repeat refine bu ?_); exact BK474.out) hb); replace BK479 := Aside0.mk (blk_below (g := gb479) (o := .cells #[.slice Ao19 t475.length co19] 25 (0, 0)) (by (with_reducible repeat refine bu ?_); refine blk_far ?_ NB479_494.out _; (with_reducible repeat refine bu ?_); refine blk_far ?_ NB479_494.out _; (with_reducible repeat refine bu ?_); exact BK479.out) hb); replace BK487 := Aside0.mk (blk_below (g := gb487) (o := .cells #[.int .i64 t484, .int .i64 t485] 34 (0, 0)) (by (with_reducible repeat refine bu ?_); refine blk_far ?_ NB487_494.out _; (with_reducible repeat refine bu ?_); refine blk_far ?_ NB487_494.out _; (with_reducible repeat refine bu ?_); exact BK487.out) hb); replace BK494 := Aside0.mk (blk_below (g := gb494) (o := .cells #[.int .i64 t491, .int .i64 t492] 34 (0, 0)) (by (with_reducible repeat refine bu ?_); refine blk_put (cs := #[.int .i64 t491, .int .i64 0]) ?_ 1 _ rfl; (with_reducible repeat refine bu ?_); refine blk_put (cs := #[.int .i64 0, .int .i64 0]) ?_ 0 _ rfl; (with_reducible repeat refine bu ?_); exact BK494.out) hb); replace HB := hbS HB hb; (try clear hb); (try clear hk); have hcz112_0 := bcell BK474 0; have hfz112_0 := blk_frozen BK474.out 0))
              go_ret
              exact ⟨fi_, m2_⟩
             ·rw [if_neg c99] at H
              have c99b0 : (t473.toList == ([110, 111, 110, 101] : List UInt8)) = false := beq_eq_false_iff_ne.mpr c99
              have c99b1 : (t473.toList != ([110, 111, 110, 101] : List UInt8)) = true := bne_iff_ne.mpr c99
              exact absurd ((Option.some.inj H).trans hrt.out) (by decide)
            ·rw [if_neg c98] at H
             have c98b0 : (t496 == 0) = false := beq_eq_false_iff_ne.mpr c98
             have c98b1 : (t496 != 0) = true := bne_iff_ne.mpr c98
             replace H := Option.bind_eq_some_iff.mp H
             obtain ⟨t497, A1130, H⟩ := H
             try dsimp only at H
             have A113 := Aside0.mk A1130
             clear A1130
             obtain rfl := Option.some.inj H
             go_wp2_with (first | ((with_reducible refine gate_callee (f := 19) rfl ?_); refine gL (some 90) Tryz.func19 #[.string t468] ?_; (with_reducible refine (impl_LinSays.calls t468 t491 t492 true _ A95.out (EnvE.below hE (bl HB))).mono ?_); rintro e w114 ⟨rfl, hb⟩; refine ⟨_, rfl, ?_⟩; replace HO_470000 := Aside0.mk (Kd.R_below (rs HO_470000) hb); replace HO_475000 := Aside0.mk (Kd.R_below (rs HO_475000) hb); replace HO_480000 := Aside0.mk (Kd.R_below (rs HO_480000) hb); replace BK469 := bkB BK469 hb; replace BK474 := bkB BK474 hb; replace BK479 := bkB BK479 hb; replace BK487 := bkB BK487 hb; replace HB := hbS HB hb; (try clear hb)) | ((with_reducible refine gate_dst (N := 11) rfl ?_); refine box_event rfl (N := 11) rfl (cs := #[.int .i64 0, .int .i64 0]) (t := 34) hr_ ?_; intro gb494 hg w115 hbox hb; replace HO_470000 := Aside0.mk (Kd.R_below (Kd.R_elderB (rs HO_470000) gb494 (Nat.le_of_eq hg.symm)) hb); replace HO_475000 := Aside0.mk (Kd.R_below (Kd.R_elderB (rs HO_475000) gb494 (Nat.le_of_eq hg.symm)) hb); replace HO_480000 := Aside0.mk (Kd.R_below (Kd.R_elderB (rs HO_480000) gb494 (Nat.le_of_eq hg.symm)) hb); have BK494 := Aside0.mk hbox; have GW494 := gwE HB hg; have GE494 := gwE HB hg; replace HB := hbS HB hb; have NB469_494 := neL BK469 hg; have NB494_469 := neG BK469 hg; replace BK469 := bkB BK469 hb; have NB474_494 := neL BK474 hg; have NB494_474 := neG BK474 hg; replace BK474 := bkB BK474 hb; have NB479_494 := neL BK479 hg; have NB494_479 := neG BK479 hg; replace BK479 := bkB BK479 hb; have NB487_494 := neL BK487 hg; have NB494_487 := neG BK487 hg; replace BK487 := bkB BK487 hb; clear hb hbox hg; have hnb116 := NB494_469.out; have hnc116 := NB469_494.out; have hnb117 := NB494_474.out; have hnc117 := NB474_494.out; have hnb118 := NB494_479.out; have hnc118 := NB479_494.out; have hnb119 := NB494_487.out; have hnc119 := NB487_494.out; have hcz120_0 := bcell BK494 0; have hcz120_1 := bcell BK494 1; have hfz120_0 := blk_frozen BK494.out 0; have hfz120_1 := blk_frozen BK494.out 1; have hnb121 := NB474_469.out; have hnc121 := NB469_474.out; have hnb122 := NB474_479.out; have hnc122 := NB479_474.out; have hnb123 := NB474_487.out; have hnc123 := NB487_474.out; have hcz124_0 := bcell BK474 0; have hfz124_0 := blk_frozen BK474.out 0) | ((with_reducible refine gate_callee (f := 23) rfl ?_); refine gL (some 107) Tryz.func23 #[.agg #[.slice Ao13 t470.length co13], .agg #[.int .i64 t491, .int .i64 t492]] ?_; (with_reducible refine (impl_MapPort.calls _ _ t470 t491 t492 t496 _ ?side1 ?side2 A97.out).mono ?_); (case side1 => refine (Kd.R_reads' (e := 34) (base := w.heap.size) (ok := fun k_ => ((some k_ ≠ (.slice Ao9 t465.length co9 : Value).ownBlock ∧ (some k_ ≠ (.slice Ao19 t475.length co19 : Value).ownBlock ∧ k_ ≠ gb487)) ∧ k_ ≠ gb494)) (n := t470.length) (c := co13) ?_).2.2; exact (by (with_reducible repeat apply ru); exact (Kd.R_mono (Kd.R_far (p := ⟨gb494, 1, none⟩) (Kd.R_far (p := ⟨gb494, 0, none⟩) (Kd.R_mono HO_475000.out (fun k_ hk => (⟨hk, hk.2⟩ : _ ∧ k_ ≠ gb494))) (fun _ hk => hk.2) (.int .i64 t491)) (fun _ hk => hk.2) (.int .i64 t492)) (fun _ h_ => h_.1)))); (case side2 => exact (Kd.R_reads' HO_475000.out).2.1); rintro e w125 ⟨rfl, hb⟩; refine ⟨_, rfl, ?_⟩; replace HO_470000 := Aside0.mk (Kd.R_below (by (with_reducible repeat apply ru); exact (Kd.R_mono (Kd.R_far (p := ⟨gb494, 1, none⟩) (Kd.R_far (p := ⟨gb494, 0, none⟩) (Kd.R_mono HO_470000.out (fun k_ hk => (⟨hk, hk.2⟩ : _ ∧ k_ ≠ gb494))) (fun _ hk => hk.2) (.int .i64 t491)) (fun _ hk => hk.2) (.int .i64 t492)) (fun _ h_ => h_.1))) hb); replace HO_475000 := Aside0.mk (Kd.R_below (by (with_reducible repeat apply ru); exact (Kd.R_mono (Kd.R_far (p := ⟨gb494, 1, none⟩) (Kd.R_far (p := ⟨gb494, 0, none⟩) (Kd.R_mono HO_475000.out (fun k_ hk => (⟨hk, hk.2⟩ : _ ∧ k_ ≠ gb494))) (fun _ hk => hk.2) (.int .i64 t491)) (fun _ hk => hk.2) (.int .i64 t492)) (fun _ h_ => h_.1))) hb); replace HO_480000 := Aside0.mk (Kd.R_below (by (with_reducible repeat apply ru); exact (Kd.R_mono (Kd.R_far (p := ⟨gb494, 1, none⟩) (Kd.R_far (p := ⟨gb494, 0, none⟩) (Kd.R_mono HO_480000.out (fun k_ hk => (⟨hk, hk.2⟩ : _ ∧ k_ ≠ gb494))) (fun _ hk => hk.2) (.int .i64 t491)) (fun _ hk => hk.2) (.int .i64 t492)) (fun _ h_ => h_.1))) hb); replace BK469 := Aside0.mk (blk_below (g := gb469) (o := .cells #[.slice Ao9 t465.length co9] 25 (0, 0)) (by (with_reducible repeat refine bu ?_); refine blk_far ?_ NB469_494.out _; (with_reducible repeat refine bu ?_); refine blk_far ?_ NB469_494.out _; (with_reducible repeat refine bu ?_); exact BK469.out) hb); replace BK474 := Aside0.mk (blk_below (g := gb474) (o := .cells #[.slice Ao13 t470.length co13] 25 (0, 0)) (by (with_reducible repeat refine bu ?_); refine blk_far ?_ NB474_494.out _; (with_reducible repeat refine bu ?_); refine blk_far ?_ NB474_494.out _; (with_reducible repeat refine bu ?_); exact BK474.out) hb); replace BK479 := Aside0.mk (blk_below (g := gb479) (o := .cells #[.slice Ao19 t475.length co19] 25 (0, 0)) (by (with_reducible repeat refine bu ?_); refine blk_far ?_ NB479_494.out _; (with_reducible repeat refine bu ?_); refine blk_far ?_ NB479_494.out _; (with_reducible repeat refine bu ?_); exact BK479.out) hb); replace BK487 := Aside0.mk (blk_below (g := gb487) (o := .cells #[.int .i64 t484, .int .i64 t485] 34 (0, 0)) (by (with_reducible repeat refine bu ?_); refine blk_far ?_ NB487_494.out _; (with_reducible repeat refine bu ?_); refine blk_far ?_ NB487_494.out _; (with_reducible repeat refine bu ?_); exact BK487.out) hb); replace BK494 := Aside0.mk (blk_below (g := gb494) (o := .cells #[.int .i64 t491, .int .i64 t492] 34 (0, 0)) (by (with_reducible repeat refine bu ?_); refine blk_put (cs := #[.int .i64 t491, .int .i64 0]) ?_ 1 _ rfl; (with_reducible repeat refine bu ?_); refine blk_put (cs := #[.int .i64 0, .int .i64 0]) ?_ 0 _ rfl; (with_reducible repeat refine bu ?_); exact BK494.out) hb); replace HB := hbS HB hb; (try clear hb); (try clear hk)) | ((with_reducible refine gate_callee (f := 24) rfl ?_); refine gL (some 121) Tryz.func24 #[.agg #[.int .i64 50, .int .i64 t496]] ?_; (with_reducible refine (impl_LinPort.calls 50 t496 t497 _ A113.out (EnvT.below hE.e.t (bl HB))).mono ?_); rintro e w126 ⟨rfl, hb⟩; refine ⟨_, rfl, ?_⟩; replace HO_470000 := Aside0.mk (Kd.R_below (rs HO_470000) hb); replace HO_475000 := Aside0.mk (Kd.R_below (rs HO_475000) hb); replace HO_480000 := Aside0.mk (Kd.R_below (rs HO_480000) hb); replace BK469 := bkB BK469 hb; replace BK474 := bkB BK474 hb; replace BK479 := bkB BK479 hb; replace BK487 := bkB BK487 hb; replace BK494 := bkB BK494 hb; replace HB := hbS HB hb; (try clear hb)))
             go_ret
             exact ⟨fi_, m2_⟩
           ·replace c96 := Bool.eq_false_iff.mpr c96
            subst c96
            have H1 : (if t473.toList = t468.toList then ((laws_haEnds.f kj56 t470 t465).bind fun t495 => (some t495)) else (some false)) = some r := by rw [if_neg (show ¬ (false = true) by decide)] at H; exact H
            clear H
            have H := H1
            clear H1
            by_cases c127 : t473.toList = t468.toList
            ·rw [if_pos c127] at H
             have c127b0 : (t473.toList == t468.toList) = true := beq_iff_eq.mpr c127
             have c127b1 : (t473.toList != t468.toList) = false := bne_eq_false_iff_eq.mpr c127
             clear c127
             replace H := Option.bind_eq_some_iff.mp H
             obtain ⟨t495, A1280, H⟩ := H
             try dsimp only at H
             have A128 := Aside0.mk A1280
             clear A1280
             obtain rfl := Option.some.inj H
             go_wp2_with (first | ((with_reducible refine gate_callee (f := 19) rfl ?_); refine gL (some 90) Tryz.func19 #[.string t468] ?_; (with_reducible refine (impl_LinSays.calls t468 t491 t492 false _ A95.out (EnvE.below hE (bl HB))).mono ?_); rintro e w129 ⟨rfl, hb⟩; refine ⟨_, rfl, ?_⟩; replace HO_470000 := Aside0.mk (Kd.R_below (rs HO_470000) hb); replace HO_475000 := Aside0.mk (Kd.R_below (rs HO_475000) hb); replace HO_480000 := Aside0.mk (Kd.R_below (rs HO_480000) hb); replace BK469 := bkB BK469 hb; replace BK474 := bkB BK474 hb; replace BK479 := bkB BK479 hb; replace BK487 := bkB BK487 hb; replace HB := hbS HB hb; (try clear hb)) | ((with_reducible refine gate_dst (N := 11) rfl ?_); refine box_event rfl (N := 11) rfl (cs := #[.int .i64 0, .int .i64 0]) (t := 34) hr_ ?_; intro gb494 hg w130 hbox hb; replace HO_470000 := Aside0.mk (Kd.R_below (Kd.R_elderB (rs HO_470000) gb494 (Nat.le_of_eq hg.symm)) hb); replace HO_475000 := Aside0.mk (Kd.R_below (Kd.R_elderB (rs HO_475000) gb494 (Nat.le_of_eq hg.symm)) hb); replace HO_480000 := Aside0.mk (Kd.R_below (Kd.R_elderB (rs HO_480000) gb494 (Nat.le_of_eq hg.symm)) hb); have BK494 := Aside0.mk hbox; have GW494 := gwE HB hg; have GE494 := gwE HB hg; replace HB := hbS HB hb; have NB469_494 := neL BK469 hg; have NB494_469 := neG BK469 hg; replace BK469 := bkB BK469 hb; have NB474_494 := neL BK474 hg; have NB494_474 := neG BK474 hg; replace BK474 := bkB BK474 hb; have NB479_494 := neL BK479 hg; have NB494_479 := neG BK479 hg; replace BK479 := bkB BK479 hb; have NB487_494 := neL BK487 hg; have NB494_487 := neG BK487 hg; replace BK487 := bkB BK487 hb; clear hb hbox hg; have hnb131 := NB494_469.out; have hnc131 := NB469_494.out; have hnb132 := NB494_474.out; have hnc132 := NB474_494.out; have hnb133 := NB494_479.out; have hnc133 := NB479_494.out; have hnb134 := NB494_487.out; have hnc134 := NB487_494.out; have hcz135_0 := bcell BK494 0; have hcz135_1 := bcell BK494 1; have hfz135_0 := blk_frozen BK494.out 0; have hfz135_1 := blk_frozen BK494.out 1; have hnb136 := NB474_469.out; have hnc136 := NB469_474.out; have hnb137 := NB474_479.out; have hnc137 := NB479_474.out; have hnb138 := NB474_487.out; have hnc138 := NB487_474.out; have hcz139_0 := bcell BK474 0; have hfz139_0 := blk_frozen BK474.out 0; have hnb140 := NB469_479.out; have hnc140 := NB479_469.out; have hnb141 := NB469_487.out; have hnc141 := NB487_469.out; have hcz142_0 := bcell BK469 0; have hfz142_0 := blk_frozen BK469.out 0) | (go_at_call 15; (with_reducible refine (laws_haEnds.calls kj56 _ _ t470 _ _ t465 t495 _ ?side1 ?side2 ?side3 ?side4 A128.out).mono ?_); (case side1 => refine (Kd.R_reads' (e := 34) (base := w.heap.size) (ok := fun k_ => ((some k_ ≠ (.slice Ao9 t465.length co9 : Value).ownBlock ∧ (some k_ ≠ (.slice Ao19 t475.length co19 : Value).ownBlock ∧ k_ ≠ gb487)) ∧ k_ ≠ gb494)) (n := t470.length) (c := co13) ?_).2.2; exact (by (with_reducible repeat apply ru); exact (Kd.R_mono (Kd.R_far (p := ⟨gb494, 1, none⟩) (Kd.R_far (p := ⟨gb494, 0, none⟩) (Kd.R_mono HO_475000.out (fun k_ hk => (⟨hk, hk.2⟩ : _ ∧ k_ ≠ gb494))) (fun _ hk => hk.2) (.int .i64 t491)) (fun _ hk => hk.2) (.int .i64 t492)) (fun _ h_ => h_.1)))); (case side2 => exact (Kd.R_reads' HO_475000.out).2.1); (case side3 => refine (Kd.R_reads' (e := 34) (base := w.heap.size) (ok := fun k_ => ((some k_ ≠ (.slice Ao13 t470.length co13 : Value).ownBlock ∧ (some k_ ≠ (.slice Ao19 t475.length co19 : Value).ownBlock ∧ k_ ≠ gb487)) ∧ k_ ≠ gb494)) (n := t465.length) (c := co9) ?_).2.2; exact (by (with_reducible repeat apply ru); exact (Kd.R_mono (Kd.R_far (p := ⟨gb494, 1, none⟩) (Kd.R_far (p := ⟨gb494, 0, none⟩) (Kd.R_mono HO_470000.out (fun k_ hk => (⟨hk, hk.2⟩ : _ ∧ k_ ≠ gb494))) (fun _ hk => hk.2) (.int .i64 t491)) (fun _ hk => hk.2) (.int .i64 t492)) (fun _ h_ => h_.1)))); (case side4 => exact (Kd.R_reads' HO_470000.out).2.1); rintro e w' ⟨rfl, ⟨nd, rfl⟩⟩))
             go_ret
             exact ⟨fi_, m2_⟩
            ·rw [if_neg c127] at H
             have c127b0 : (t473.toList == t468.toList) = false := beq_eq_false_iff_ne.mpr c127
             have c127b1 : (t473.toList != t468.toList) = true := bne_iff_ne.mpr c127
             exact absurd ((Option.some.inj H).trans hrt.out) (by decide)
def laws_FnRwrLine.Pure : Prop := ∀ (l0 : List Int), l0.length ≤ maxLen → l0.length * 1 ≤ 140737488351232 → (∀ x ∈ l0, (Lit.int .u8 x).wf = true) → ∃ k, laws_FnRwrLine.f k l0 = some true
theorem laws_FnRwrLine.walk (P : laws_FnRwrLine.Pure) (a0 : Option Addr) (len0 cap0 : Nat) (z0 : List Int) (w : World) (w0 : (a0 = none ∧ len0 = 0 ∧ cap0 = 0 ∧ z0 = []) ∨ ∃ x, a0 = some x ∧ len0 ≤ cap0 ∧ cap0 ≤ maxLen ∧ z0.length = cap0 ∧ (∀ i, i < z0.length → w.cell? (x.add i) = some (.int .u8 (z0.getD i 0))) ∧ ∀ n ∈ z0, (Lit.int .u8 n).wf = true) (y0 : len0 * 1 ≤ 140737488351232) (hE : EnvE w) :
  Calls Tryz.prog 3 #[.slice a0 len0 cap0] w fun e w' => e = .returned (.bool true) ∧ Below w.heap.size w w' := by
 obtain ⟨l0, rfl, hr0, hm0, hw0, hc0⟩ := ReadsInt.ofRowC w0
 obtain ⟨k, h⟩ := P l0 hm0 y0 hw0
 refine (laws_FnRwrLine.calls k _ _ l0 true w (Kd.C_of_reads (d := (0 : Int)) (h1 := fun _ => rfl) hr0) hc0 h ⟨rfl⟩ hE).mono ?_
 rintro e w' ⟨rfl, hd⟩
 exact ⟨rfl, hd⟩
end Go.Proofs.YtffmbccgcaghjaaGreatDoor.P
namespace Go.Proofs.YtffmbccgcaghjaaGreatDoor.P
open Go.RowKit Go.Proofs.YtffmbccgcaghjaaGreatDoorUFnRwrLine.PrintWords Go.Proofs.YtffmbccgcaghjaaGreatDoorUFnRwrLine.PrintLast Go.Proofs.YtffmbccgcaghjaaGreatDoorUFnRwrLine.PrintMore
set_option linter.unusedVariables false
set_option linter.unusedSimpArgs false
theorem i64_xor_nat (a b : Nat) (ha : a < 2 ^ 62) (hb : b < 2 ^ 62) : Go.bits .xor .i64 (a : Int) (b : Int) = ((a ^^^ b : Nat) : Int) := by
  have hx : a ^^^ b < 2 ^ 62 := Nat.xor_lt_two_pow ha hb
  show IntKind.i64.wrap ((BitVec.ofInt 64 (a : Int) ^^^ BitVec.ofInt 64 (b : Int)).toNat : Int) = _
  have e : ∀ n : Nat, n < 2 ^ 62 → (BitVec.ofInt 64 (n : Int)).toNat = n := by
    intro n hn
    rw [BitVec.ofInt_natCast, BitVec.toNat_ofNat]; exact Nat.mod_eq_of_lt (by omega)
  rw [BitVec.toNat_xor, e a ha, e b hb]
  rw [i64_w]; unfold wrap64; omega
theorem i64_xor_nonneg (a b : Int) (h1 : 0 ≤ a) (h2 : a < 2 ^ 62) (h3 : 0 ≤ b) (h4 : b < 2 ^ 62) : 0 ≤ Go.bits .xor .i64 a b := by
  obtain ⟨A, rfl⟩ := Int.eq_ofNat_of_zero_le h1
  obtain ⟨B, rfl⟩ := Int.eq_ofNat_of_zero_le h3
  rw [i64_xor_nat A B (by omega) (by omega)]
  omega
theorem w64 (n : Int) (h : -9223372036854775808 ≤ n ∧ n ≤ 9223372036854775807) : wrap64 n = n := by unfold wrap64; omega
def Bys (l : List Int) : Prop := ∀ x ∈ l, 0 ≤ x ∧ x ≤ 255
theorem rd_bys {l : List Int} (h : Bys l) (i : Int) : 0 ≤ rd l i ∧ rd l i ≤ 255 := by
  unfold rd
  by_cases hi : i.toNat < l.length
  · have e : l.getD i.toNat 0 = l[i.toNat] := by simp [List.getD, hi]
    rw [e]; exact h _ (List.getElem_mem hi)
  · have e : l.getD i.toNat 0 = 0 := by simp [List.getD, Nat.not_lt.mp hi]
    rw [e]; omega
theorem tmod_in {a n : Int} (ha : 0 ≤ a) (hn : 1 ≤ n) : 0 ≤ Int.tmod a n ∧ Int.tmod a n < n := by
  rw [Int.tmod_eq_emod_of_nonneg ha]
  exact ⟨Int.emod_nonneg _ (by omega), Int.emod_lt_of_pos _ (by omega)⟩
theorem tdiv_in {a n : Int} (ha : 0 ≤ a) (hn : 1 ≤ n) : 0 ≤ Int.tdiv a n ∧ Int.tdiv a n ≤ a := by
  rw [Int.tdiv_eq_ediv_of_nonneg ha]
  exact ⟨Int.ediv_nonneg ha (by omega), Int.ediv_le_self _ ha⟩
theorem pick_f {l : List Int} (hl : Bys l) (s n : Int) (k : Nat) (hs : 0 ≤ s) (hs' : s < 1000000) : ∃ v, spec_l20Rd_pick.f (k + 1) l s n = some (v, s + 1) ∧ 0 ≤ v ∧ (v < n ∨ v = 0) := by
  unfold spec_l20Rd_pick.f spec_l20Rd_pick.j0
  dsimp only
  have e1 : wrap64 (s + 1) = s + 1 := w64 _ (by omega)
  have e2 : wrap64 (s + 1 - 1) = s := by rw [show s + 1 - 1 = s by omega]; exact w64 _ (by omega)
  by_cases c : n < 1
  · exact ⟨0, by simp [c, e1], by omega, .inr rfl⟩
  · rw [if_neg c, e1]
    simp only [e2]
    by_cases c0 : (l.length : Int) = 0
    · exact ⟨0, by simp [c0], by omega, .inr rfl⟩
    · have cb : ¬ (((l.length : Int) == 0) = true) := by simpa using c0
      have cn : ¬ (n = 0) := by omega
      rw [if_neg cb]
      by_cases c1 : s < (l.length : Int)
      · have hb := rd_bys hl s
        have hm := tmod_in hb.1 (show 1 ≤ n by omega)
        refine ⟨_, by rw [if_pos c1, if_pos hs, if_neg cn, w64 (rd l s) (by omega)], hm.1, .inl hm.2⟩
      · have hL : 1 ≤ (l.length : Int) := by omega
        have m1 := tmod_in hs hL
        have f1 : wrap64 (s * 7) = s * 7 := w64 _ (by omega)
        have f2 : wrap64 (s * 7 + 3) = s * 7 + 3 := w64 _ (by omega)
        have m2 := tmod_in (show 0 ≤ s * 7 + 3 by omega) hL
        rw [if_neg c1, if_neg c0, if_pos m1.1, if_pos m1.2]
        simp only [f1, f2]
        rw [if_pos m2.1, if_pos m2.2, if_neg cn]
        have r1 := rd_bys hl (Int.tmod s (l.length : Int))
        have r2 := rd_bys hl (Int.tmod (s * 7 + 3) (l.length : Int))
        have d1 := tdiv_in hs hL
        generalize rd l (Int.tmod s (l.length : Int)) = u1 at *
        generalize rd l (Int.tmod (s * 7 + 3) (l.length : Int)) = u2 at *
        generalize Int.tdiv s (l.length : Int) = u3 at *
        have g1 : wrap64 u1 = u1 := w64 _ (by omega)
        have g2 : wrap64 u2 = u2 := w64 _ (by omega)
        have g3 : wrap64 u3 = u3 := w64 _ (by omega)
        have g4 : wrap64 (u1 * 131) = u1 * 131 := w64 _ (by omega)
        have g5 : wrap64 (u2 * 1117) = u2 * 1117 := w64 _ (by omega)
        have g6 : wrap64 (s * 29) = s * 29 := w64 _ (by omega)
        have g7 : wrap64 (u3 * 53) = u3 * 53 := w64 _ (by omega)
        simp only [g1, g2, g3, g4, g5, g6, g7]
        have g8 : wrap64 (u1 * 131 + u2 * 1117) = u1 * 131 + u2 * 1117 := w64 _ (by omega)
        rw [g8]
        have g9 : wrap64 (u1 * 131 + u2 * 1117 + s * 29) = u1 * 131 + u2 * 1117 + s * 29 := w64 _ (by omega)
        rw [g9]
        have g10 : wrap64 (u1 * 131 + u2 * 1117 + s * 29 + u3 * 53) = u1 * 131 + u2 * 1117 + s * 29 + u3 * 53 := w64 _ (by omega)
        rw [g10]
        have hX0 : 0 ≤ u1 * 131 + u2 * 1117 + s * 29 + u3 * 53 := by omega
        have hX1 : u1 * 131 + u2 * 1117 + s * 29 + u3 * 53 < 1000000000 := by omega
        generalize u1 * 131 + u2 * 1117 + s * 29 + u3 * 53 = X at *
        have d2 := tdiv_in hX0 (show (1:Int) ≤ 64 by omega)
        have g11 : wrap64 (Int.tdiv X 64) = Int.tdiv X 64 := w64 _ (by omega)
        rw [g11]
        have hz := i64_xor_nonneg X (Int.tdiv X 64) hX0 (by omega) d2.1 (by omega)
        have hm := tmod_in hz (show 1 ≤ n by omega)
        exact ⟨_, rfl, hm.1, .inl hm.2⟩
theorem odd_f {l : List Int} (hl : Bys l) (s n : Int) (k : Nat) (hs : 0 ≤ s) (hs' : s < 1000000) : ∃ b s', spec_l20Rd_odd.f (k + 1) l s n = some (b, s') ∧ s ≤ s' ∧ s' ≤ s + 1 := by
  unfold spec_l20Rd_odd.f
  by_cases c : n < 9000
  · obtain ⟨v, h, _⟩ := pick_f hl s n k hs hs'
    exact ⟨_, s + 1, by rw [if_pos c, h]; rfl, by omega, by omega⟩
  · exact ⟨_, _, by rw [if_neg c], by omega, by omega⟩
theorem open_f (l : List Int) (hl : Bys l) : ∃ l', spec_l20Open.f l = some (l', 0) ∧ Bys l' := by
  unfold spec_l20Open.f
  by_cases c : (l.length : Int) > 2000
  · exact ⟨l.take 2000, by rw [if_pos c, if_pos (by omega)], fun x h => hl x (List.mem_of_mem_take h)⟩
  · exact ⟨l, by rw [if_neg c], hl⟩
theorem rd_three (a b c i : Int) (h : 0 ≤ i ∧ (i < 3 ∨ i = 0)) : rd ([a, b, c] : List Int) i = a ∨ rd ([a, b, c] : List Int) i = b ∨ rd ([a, b, c] : List Int) i = c := by
  have : i = 0 ∨ i = 1 ∨ i = 2 := by omega
  rcases this with rfl | rfl | rfl
  · exact .inl rfl
  · exact .inr (.inl rfl)
  · exact .inr (.inr rfl)
theorem rd_two (a b i : Int) (h : 0 ≤ i ∧ (i < 2 ∨ i = 0)) : rd ([a, b] : List Int) i = a ∨ rd ([a, b] : List Int) i = b := by
  have : i = 0 ∨ i = 1 := by omega
  rcases this with rfl | rfl
  · exact .inl rfl
  · exact .inr rfl
def Sm (n : Int) : Prop := -10 ≤ n ∧ n ≤ 1200
end Go.Proofs.YtffmbccgcaghjaaGreatDoor.P
namespace Go.Proofs.YtffmbccgcaghjaaGreatDoor.P
open Go.RowKit Go.Proofs.YtffmbccgcaghjaaGreatDoorUFnRwrLine.PrintWords Go.Proofs.YtffmbccgcaghjaaGreatDoorUFnRwrLine.PrintLast Go.Proofs.YtffmbccgcaghjaaGreatDoorUFnRwrLine.PrintMore
set_option linter.unusedVariables false
set_option linter.unusedSimpArgs false
def Ans {α : Type} (f : Nat → Option α) (P : α → Prop) : Prop := ∃ K v, P v ∧ ∀ k, K ≤ k → f k = some v
namespace Ans
variable {α β : Type} {f g : Nat → Option α} {P Q : α → Prop}
theorem of {v : α} (h : ∀ k, f k = some v) (p : P v) : Ans f P := ⟨0, v, p, fun k _ => h k⟩
theorem pure {v : α} (p : P v) : Ans (fun _ => some v) P := ⟨0, v, p, fun k _ => rfl⟩
theorem mono (h : Ans f P) (hq : ∀ v, P v → Q v) : Ans f Q := by obtain ⟨K, v, p, e⟩ := h; exact ⟨K, v, hq v p, e⟩
theorem succ (h : Ans (fun k => f (k + 1)) P) : Ans f P := by
  obtain ⟨K, v, p, e⟩ := h
  refine ⟨K + 1, v, p, fun k hk => ?_⟩
  obtain ⟨k', rfl⟩ : ∃ k', k = k' + 1 := ⟨k - 1, by omega⟩
  exact e k' (by omega)
theorem bind {a : Nat → Option β} {R : β → Prop} {b : Nat → β → Option α} (h : Ans a R) (hb : ∀ v, R v → Ans (fun k => b k v) P) : Ans (fun k => (a k).bind (b k)) P := by
  obtain ⟨K, v, p, e⟩ := h
  obtain ⟨K', u, q, e'⟩ := hb v p
  exact ⟨max K K', u, q, fun k hk => by show (a k).bind (b k) = some u; rw [e k (by omega)]; exact e' k (by omega)⟩
theorem bsome {v : β} {b : Nat → β → Option α} (h : Ans (fun k => b k v) P) : Ans (fun k => (some v).bind (b k)) P := h
theorem congr (h : Ans g P) (e : ∀ k, f k = g k) : Ans f P := by obtain ⟨K, v, p, e'⟩ := h; exact ⟨K, v, p, fun k hk => (e k).trans (e' k hk)⟩
theorem got (h : Ans f P) : ∃ k v, P v ∧ f k = some v := by obtain ⟨K, v, p, e⟩ := h; exact ⟨K, v, p, e K (Nat.le_refl _)⟩
theorem pos {c : Prop} [Decidable c] (h : c) (ht : Ans f P) : Ans (fun k => if c then f k else g k) P := congr ht (fun k => if_pos h)
theorem neg {c : Prop} [Decidable c] (h : ¬ c) (ht : Ans g P) : Ans (fun k => if c then f k else g k) P := congr ht (fun k => if_neg h)
theorem ite {c : Prop} [Decidable c] (ht : c → Ans f P) (he : ¬ c → Ans g P) : Ans (fun k => if c then f k else g k) P := by
  by_cases h : c
  · exact pos h (ht h)
  · exact neg h (he h)
end Ans
def At (n s : Int) : Prop := 0 ≤ s ∧ s ≤ n
theorem pick_a {l : List Int} (hl : Bys l) {s B : Int} (hs : At B s) (hB : B < 900000) (n : Int) : Ans (fun k => spec_l20Rd_pick.f k l s n) (fun r => At (B + 1) r.2 ∧ 0 ≤ r.1 ∧ (r.1 < n ∨ r.1 = 0)) := by
  obtain ⟨h0, h1⟩ := hs
  refine Ans.succ ?_
  obtain ⟨v, h, p⟩ := pick_f hl s n 0 h0 (by omega)
  refine Ans.of (v := (v, s + 1)) (fun k => ?_) ⟨⟨by omega, by first | omega | (dsimp only; omega)⟩, p⟩
  obtain ⟨v', h', _⟩ := pick_f hl s n k h0 (by omega)
  have e : spec_l20Rd_pick.f (k + 1) l s n = spec_l20Rd_pick.f (0 + 1) l s n := by
    unfold spec_l20Rd_pick.f spec_l20Rd_pick.j0
    rfl
  rw [e, h]
theorem odd_a {l : List Int} (hl : Bys l) {s B : Int} (hs : At B s) (hB : B < 900000) (n : Int) : Ans (fun k => spec_l20Rd_odd.f k l s n) (fun r => At (B + 1) r.2) := by
  unfold spec_l20Rd_odd.f
  refine Ans.ite (fun _ => ?_) (fun _ => Ans.pure ⟨hs.1, by have := hs.2; dsimp only; omega⟩)
  refine Ans.bind (pick_a hl hs hB n) ?_
  rintro ⟨v, s'⟩ ⟨h, _⟩
  exact Ans.pure h
theorem at_le {B B' s : Int} (h : At B s) (hb : B ≤ B') : At B' s := ⟨h.1, by have := h.2; omega⟩
theorem sm_rd {xs : List Int} (h : ∀ x ∈ xs, Sm x) (i : Int) : Sm (rd xs i) := by
  unfold rd
  by_cases hi : i.toNat < xs.length
  · have e : xs.getD i.toNat 0 = xs[i.toNat] := by simp [List.getD, hi]
    rw [e]; exact h _ (List.getElem_mem hi)
  · have e : xs.getD i.toNat 0 = 0 := by simp [List.getD, Nat.not_lt.mp hi]
    rw [e]; unfold Sm; omega
end Go.Proofs.YtffmbccgcaghjaaGreatDoor.P
namespace Go.Proofs.YtffmbccgcaghjaaGreatDoor.P
open Go.RowKit Go.Proofs.YtffmbccgcaghjaaGreatDoorUFnRwrLine.PrintWords Go.Proofs.YtffmbccgcaghjaaGreatDoorUFnRwrLine.PrintLast Go.Proofs.YtffmbccgcaghjaaGreatDoorUFnRwrLine.PrintMore
set_option linter.unusedVariables false
set_option linter.unusedSimpArgs false
theorem bys_of {l : List Int} (hw : ∀ x ∈ l, (Lit.int .u8 x).wf = true) : Bys l := fun x hx => by
  have := hw x hx
  simp [Lit.wf, IntKind.min, IntKind.max, IntKind.signed, IntKind.bits] at this
  omega
theorem l1In_f (n lo hi : Int) : spec_l1In.f n lo hi = some (inB n lo hi) := by
  unfold spec_l1In.f inB
  by_cases h : lo ≤ n <;> simp [h]
theorem haOk_f : laws_haOk.f = some true := by
  unfold laws_haOk.f impl_LinOk.f
  rfl
theorem wi (i : Nat) (h : i ≤ 100000000) : wrap64 ((i : Int) + 1) = ((i + 1 : Nat) : Int) := by rw [w64 _ (by omega)]; push_cast; rfl
theorem specEndInside_f (a p : Int) : spec_EndInside.f a p = some (endIn a p) := by
  unfold spec_EndInside.f endIn
  simp only [l1In_f, Option.bind_some]
  cases inB a 1 9 <;> simp
theorem specEndOutside_f (a p : Int) : spec_EndOutside.f a p = some (endOut a p) := by
  unfold spec_EndOutside.f endOut
  simp only [l1In_f, Option.bind_some]
  cases inB a 100 109 <;> simp
end Go.Proofs.YtffmbccgcaghjaaGreatDoor.P
namespace Go.Proofs.YtffmbccgcaghjaaGreatDoor.P
open Go.RowKit Go.Proofs.YtffmbccgcaghjaaGreatDoorUFnRwrLine.PrintWords Go.Proofs.YtffmbccgcaghjaaGreatDoorUFnRwrLine.PrintLast Go.Proofs.YtffmbccgcaghjaaGreatDoorUFnRwrLine.PrintMore
set_option linter.unusedVariables false
set_option linter.unusedSimpArgs false
theorem fnd_nil (a b : Int) : fnd [] a b = none := rfl
theorem fnd_cons (x : S34) (r : List S34) (a b : Int) : fnd (x :: r) a b = if x.f0 = a ∧ x.f1 = b then some 0 else (fnd r a b).map (· + 1) := by
  unfold fnd
  rw [List.findIdx?_cons]
  by_cases h : x.f0 = a ∧ x.f1 = b
  · simp [h]
  · rw [if_neg h]
    have : (x.f0 == a && x.f1 == b) = false := by
      rw [Bool.eq_false_iff]
      simpa using h
    simp [this]
theorem fnd_lt {l : List S34} {a b : Int} {i : Nat} (h : fnd l a b = some i) : i < l.length ∧ ∀ hi : i < l.length, l[i].f0 = a ∧ l[i].f1 = b := by
  unfold fnd at h
  rw [List.findIdx?_eq_some_iff_getElem] at h
  obtain ⟨h1, h2, _⟩ := h
  exact ⟨h1, fun _ => by simpa using h2⟩
theorem fnd_app (l r : List S34) (a b : Int) : fnd (l ++ r) a b = (match fnd l a b with | some i => some i | none => (fnd r a b).map (· + l.length)) := by
  unfold fnd
  rw [List.findIdx?_append]
  cases l.findIdx? (fun x => x.f0 == a && x.f1 == b) <;> simp
theorem fnd_mem {l : List S34} {x : S34} (h : x ∈ l) : (fnd l x.f0 x.f1).isSome = true := by
  unfold fnd
  rw [List.findIdx?_isSome]
  exact List.any_eq_true.mpr ⟨x, h, by simp⟩
def sign (o : Option Nat) : Int := match o with | none => -1 | some i => (i : Int)
theorem rd29_drop {l : List S34} {i : Nat} (h : i < l.length) : l.drop i = rd_T34 l (i : Int) :: l.drop (i + 1) := by
  rw [rd29_get h]
  exact List.drop_eq_getElem_cons h
theorem rd29_take {l : List S34} {i : Nat} (h : i < l.length) : l.take (i + 1) = l.take i ++ [rd_T34 l (i : Int)] := by
  rw [rd29_get h]
  exact List.take_succ_eq_append_getElem h
theorem l3Find_a (l : List S34) (hl : l.length ≤ 2000000) (a b : Int) : Ans (fun k => spec_l3Find.f k l a b) (fun r => r = sign (fnd l a b)) := by
  have L : ∀ (m i : Nat), i + m = l.length → fnd (l.take i) a b = none → Ans (fun k => spec_l3Find.l0 k (i : Int) l a b) (fun r => r = sign (fnd l a b)) := by
    intro m
    induction m with
    | zero =>
      intro i hi hn
      refine Ans.succ ?_
      unfold spec_l3Find.l0
      rw [List.take_of_length_le (by omega)] at hn
      exact Ans.neg (by omega) (Ans.pure (by rw [hn]; rfl))
    | succ m ih =>
      intro i hi hn
      refine Ans.succ ?_
      unfold spec_l3Find.l0
      refine Ans.pos (by omega) (Ans.pos (by omega) ?_)
      have ht : fnd (l.take (i + 1)) a b = if (rd_T34 l (i : Int)).f0 = a ∧ (rd_T34 l (i : Int)).f1 = b then some i else none := by
        rw [rd29_take (by omega : i < l.length), fnd_app, hn, fnd_cons]
        have : (l.take i).length = i := by rw [List.length_take]; omega
        dsimp only
        by_cases hc : (rd_T34 l (i : Int)).f0 = a ∧ (rd_T34 l (i : Int)).f1 = b <;> simp [hc, this, fnd_nil]
      refine Ans.ite (fun c => Ans.pure ?_) (fun c => ?_)
      · have c' : (rd_T34 l (i : Int)).f0 = a ∧ (rd_T34 l (i : Int)).f1 = b := by simpa using c
        rw [if_pos c'] at ht
        have := List.take_append_drop (i + 1) l
        rw [← this, fnd_app, ht]
        rfl
      · have c' : ¬ ((rd_T34 l (i : Int)).f0 = a ∧ (rd_T34 l (i : Int)).f1 = b) := by simpa using c
        rw [if_neg c'] at ht
        rw [wi i (by omega)]
        exact ih (i + 1) (by omega) ht
  exact L l.length 0 (by omega) rfl
theorem contains_a (l : List S34) (hl : l.length ≤ 2000000) (a b : Int) : Ans (fun k => impl_EndPoint_53.f k l a b) (fun r => r = (fnd l a b).isSome) := by
  unfold impl_EndPoint_53.f impl_EndPoint_86.f
  have L : ∀ (m i : Nat), i + m = l.length → fnd (l.take i) a b = none → Ans (fun k => impl_EndPoint_86.l0 k l (l.length : Int) (i : Int) a b) (fun r => r = sign (fnd l a b)) := by
    intro m
    induction m with
    | zero =>
      intro i hi hn
      refine Ans.succ ?_
      unfold impl_EndPoint_86.l0
      rw [List.take_of_length_le (by omega)] at hn
      exact Ans.neg (by omega) (Ans.pure (by rw [hn]; rfl))
    | succ m ih =>
      intro i hi hn
      refine Ans.succ ?_
      unfold impl_EndPoint_86.l0
      refine Ans.pos (by omega) (Ans.pos (by omega) (Ans.pos (by omega) ?_))
      have ht : fnd (l.take (i + 1)) a b = if (rd_T34 l (i : Int)).f0 = a ∧ (rd_T34 l (i : Int)).f1 = b then some i else none := by
        rw [rd29_take (by omega : i < l.length), fnd_app, hn, fnd_cons]
        have : (l.take i).length = i := by rw [List.length_take]; omega
        dsimp only
        by_cases hc : (rd_T34 l (i : Int)).f0 = a ∧ (rd_T34 l (i : Int)).f1 = b <;> simp [hc, this, fnd_nil]
      refine Ans.ite (fun c => Ans.pure ?_) (fun c => ?_)
      · have c' : (rd_T34 l (i : Int)).f0 = a ∧ (rd_T34 l (i : Int)).f1 = b := by
          simp only [Bool.and_eq_true, beq_iff_eq] at c
          exact ⟨c.1.symm, c.2.symm⟩
        rw [if_pos c'] at ht
        have := List.take_append_drop (i + 1) l
        rw [← this, fnd_app, ht]
        rfl
      · have c' : ¬ ((rd_T34 l (i : Int)).f0 = a ∧ (rd_T34 l (i : Int)).f1 = b) := by
          rintro ⟨h1, h2⟩
          exact c (by rw [h1, h2]; simp)
        rw [if_neg c'] at ht
        rw [wi i (by omega)]
        exact ih (i + 1) (by omega) ht
  refine Ans.bind (L l.length 0 (by omega) rfl) ?_
  rintro _ rfl
  refine Ans.pure ?_
  cases fnd l a b with
  | none => rfl
  | some i => simp [sign]
def goodFrom (l : List S34) (i : Nat) : Bool := (List.range' i (l.length - i)).all fun j => endIn (rd_T34 l (j : Int)).f0 (rd_T34 l (j : Int)).f1 && !(fnd (l.take j) (rd_T34 l (j : Int)).f0 (rd_T34 l (j : Int)).f1).isSome
def okT (l : List S34) : Bool := decide ((l.length : Int) ≤ 6) && goodFrom l 0
theorem good_end {l : List S34} {i : Nat} (h : l.length ≤ i) : goodFrom l i = true := by
  unfold goodFrom
  rw [Nat.sub_eq_zero_of_le h]
  rfl
theorem good_step {l : List S34} {i : Nat} (h : i < l.length) : goodFrom l i = (endIn (rd_T34 l (i : Int)).f0 (rd_T34 l (i : Int)).f1 && !(fnd (l.take i) (rd_T34 l (i : Int)).f0 (rd_T34 l (i : Int)).f1).isSome && goodFrom l (i + 1)) := by
  unfold goodFrom
  obtain ⟨d, hd⟩ : ∃ d, l.length - i = d + 1 := ⟨l.length - i - 1, by omega⟩
  have hd' : l.length - (i + 1) = d := by omega
  rw [hd, hd', List.range'_succ, List.all_cons]
theorem specMapOk_a (l : List S34) (hl : l.length ≤ 2000000) : Ans (fun k => spec_MapOk.f k l) (fun r => r = okT l) := by
  unfold spec_MapOk.f okT
  refine Ans.ite (fun c => Ans.pure ?_) (fun c => ?_)
  · have : ¬ ((l.length : Int) ≤ 6) := by omega
    simp [this]
  · have e : decide ((l.length : Int) ≤ 6) = true := by simp; omega
    rw [e]
    have L : ∀ (m i : Nat), i + m = l.length → Ans (fun k => spec_MapOk.l0 k (i : Int) l) (fun r => r = goodFrom l i) := by
      intro m
      induction m with
      | zero =>
        intro i hi
        refine Ans.succ ?_
        unfold spec_MapOk.l0
        exact Ans.neg (by omega) (Ans.pure (good_end (by omega)).symm)
      | succ m ih =>
        intro i hi
        refine Ans.succ ?_
        unfold spec_MapOk.l0
        refine Ans.pos (by omega) (Ans.pos (by omega) ?_)
        rw [good_step (by omega : i < l.length)]
        simp only [specEndInside_f, Option.bind_some]
        have e1 : ((i : Int)).toNat = i := by omega
        cases h1 : endIn (rd_T34 l (i : Int)).f0 (rd_T34 l (i : Int)).f1
        · exact Ans.neg (by simp) (Ans.pure (by simp))
        refine Ans.pos rfl (Ans.pos (by omega) ?_)
        rw [e1, wi i (by omega)]
        refine Ans.bind (l3Find_a (l.take i) (by rw [List.length_take]; omega) _ _) ?_
        rintro _ rfl
        cases hf : fnd (l.take i) (rd_T34 l (i : Int)).f0 (rd_T34 l (i : Int)).f1 with
        | none =>
          refine Ans.neg (by simp [sign]) ?_
          simpa using ih (i + 1) (by omega)
        | some j => exact Ans.pos (by simp [sign]) (Ans.pure (by simp))
    simpa using L l.length 0 (by omega)
theorem implMapOk_a (l : List S34) (hl : l.length ≤ 2000000) : Ans (fun k => impl_MapOk.f k l) (fun r => r = okT l) := by
  unfold impl_MapOk.f
  have L : ∀ (m i : Nat), i + m = l.length → Ans (fun k => impl_MapOk.l0 k l (l.length : Int) (i : Int) l) (fun r => r = (decide ((l.length : Int) ≤ 6) && goodFrom l i)) := by
    intro m
    induction m with
    | zero =>
      intro i hi
      refine Ans.succ ?_
      unfold impl_MapOk.l0
      exact Ans.neg (by omega) (Ans.pure (by rw [good_end (by omega)]; simp))
    | succ m ih =>
      intro i hi
      refine Ans.succ ?_
      unfold impl_MapOk.l0
      refine Ans.pos (by omega) (Ans.pos (by omega) (Ans.pos (by omega) ?_))
      rw [good_step (by omega : i < l.length)]
      simp only [EndInside_f, Option.bind_some]
      have e1 : ((i : Int)).toNat = i := by omega
      cases h1 : endIn (rd_T34 l (i : Int)).f0 (rd_T34 l (i : Int)).f1
      · exact Ans.neg (by simp) (Ans.pure (by simp))
      refine Ans.pos rfl (Ans.pos (by omega) ?_)
      rw [e1, wi i (by omega)]
      refine Ans.bind (contains_a (l.take i) (by rw [List.length_take]; omega) _ _) ?_
      rintro _ rfl
      cases hf : fnd (l.take i) (rd_T34 l (i : Int)).f0 (rd_T34 l (i : Int)).f1 with
      | none =>
        refine Ans.neg (by simp) ?_
        simpa using ih (i + 1) (by omega)
      | some j => exact Ans.pos (by simp) (Ans.pure (by simp))
  exact L l.length 0 (by omega)
def putV (l : List S34) (a b : Int) : List S34 × Int := if portV l a b ≠ 0 then (l, portV l a b) else if l.length = 6 then (l, 0) else (l ++ [⟨a, b⟩], 500 + l.length)
def tabPut (l : List S34) (a b : Int) : List S34 × Int := if okT l && endIn a b then putV l a b else ([], 0)
theorem portV_sign (l : List S34) (a b : Int) : portV l a b = if sign (fnd l a b) < 0 then 0 else 500 + sign (fnd l a b) := by
  unfold portV sign
  cases fnd l a b with
  | none => simp
  | some i =>
    have : ¬ ((i : Int) < 0) := by omega
    simp [this]
theorem sign_lt {l : List S34} (hl : l.length ≤ 2000000) (a b : Int) : -1 ≤ sign (fnd l a b) ∧ sign (fnd l a b) < 2000000 := by
  cases h : fnd l a b with
  | none => simp [sign]
  | some i => have := (fnd_lt h).1; simp only [sign]; omega
theorem portV_range {l : List S34} (hl : l.length ≤ 2000000) (a b : Int) : portV l a b = 0 ∨ (500 ≤ portV l a b ∧ portV l a b < 500 + l.length) := by
  unfold portV
  cases h : fnd l a b with
  | none => exact .inl rfl
  | some i => have := (fnd_lt h).1; dsimp only; omega
theorem specMapPort_a (l : List S34) (hl : l.length ≤ 2000000) (a b : Int) : Ans (fun k => spec_MapPort.f k l a b) (fun r => r = portV l a b) := by
  unfold spec_MapPort.f
  refine Ans.bind (l3Find_a l hl a b) ?_
  rintro _ rfl
  have hs := sign_lt hl a b
  rw [portV_sign]
  refine Ans.ite (fun c => Ans.pure (by rw [if_pos c])) (fun c => Ans.pure ?_)
  rw [if_neg c, w64 _ (by omega)]
theorem okT_le {l : List S34} (h : okT l = true) : l.length ≤ 6 := by
  simp only [okT, Bool.and_eq_true, decide_eq_true_eq] at h
  omega
theorem good_all {l : List S34} (h : goodFrom l 0 = true) : ∀ x ∈ l, endIn x.f0 x.f1 = true := by
  intro x hx
  obtain ⟨j, hj, rfl⟩ := List.getElem_of_mem hx
  unfold goodFrom at h
  have := List.all_eq_true.mp h j (by simp [List.mem_range']; omega)
  rw [rd29_get hj] at this
  simp only [Bool.and_eq_true] at this
  exact this.1
theorem okT_all {l : List S34} (h : okT l = true) : ∀ x ∈ l, endIn x.f0 x.f1 = true := by
  simp only [okT, Bool.and_eq_true] at h
  exact good_all h.2
theorem endIn_wf {a b : Int} (h : endIn a b = true) : wfB a = true ∧ wfB b = true := by
  simp only [endIn, inB, Bool.and_eq_true, decide_eq_true_eq] at h
  unfold wfB
  exact ⟨(i64_iff a).mpr (by omega), (i64_iff b).mpr (by omega)⟩
theorem all_wf {l : List S34} (h : ∀ x ∈ l, endIn x.f0 x.f1 = true) : l.all wfE = true := by
  rw [List.all_eq_true]
  intro x hx
  have := endIn_wf (h x hx)
  simp [wfE, this.1, this.2]
theorem implMapPort_f {l : List S34} (hl : l.length ≤ 1000) (h : ∀ x ∈ l, endIn x.f0 x.f1 = true) {a b : Int} (he : endIn a b = true) : impl_MapPort.f l a b = some (portV l a b) := by
  unfold impl_MapPort.f
  have := endIn_wf he
  rw [if_pos ⟨by omega, all_wf h, this.1, this.2⟩]
theorem l3Put_a (l : List S34) (hl : l.length ≤ 2000000) (a b : Int) : Ans (fun k => spec_l3Put.f k l a b) (fun r => r = putV l a b) := by
  unfold spec_l3Put.f
  refine Ans.bind (specMapPort_a l hl a b) ?_
  rintro _ rfl
  have hr := portV_range hl a b
  refine Ans.ite (fun c1 => Ans.pure ?_) (fun c1 => ?_)
  · have v0 : putV l a b = (l, portV l a b) := by unfold putV; rw [if_pos (by omega)]
    rw [v0]
  · have e0 : portV l a b = 0 := by omega
    refine Ans.ite (fun c2 => Ans.pure ?_) (fun c2 => ?_)
    · have v0 : putV l a b = (l, 0) := by unfold putV; rw [if_neg (by simp [e0]), if_pos (by omega)]
      rw [v0]
    · have v0 : putV l a b = (l ++ [⟨a, b⟩], (500 + l.length : Int)) := by unfold putV; rw [if_neg (by simp [e0]), if_neg (by omega)]
      rw [v0]
      refine Ans.bsome (Ans.pos (by simp; omega) (Ans.bsome (Ans.bsome (Ans.pos (by simp; omega) (Ans.bsome (Ans.pure ?_))))))
      have e1 : (([] ++ l ++ [⟨a, b⟩] : List S34).length : Int) = l.length + 1 := by simp
      rw [e1, w64 (500 + ((l.length : Int) + 1)) (by omega), w64 _ (by omega)]
      simp
      omega
theorem implPut_f {l : List S34} (c : okT l = true) {a b : Int} (he : endIn a b = true) : impl_MapTab_put.f l a b = some (putV l a b) := by
  have hl6 := okT_le c
  have hr := portV_range (l := l) (by omega) a b
  unfold impl_MapTab_put.f impl_MapTab_copied.f impl_EndPoint_106.f impl_EndPoint_105.f
  rw [if_pos (by omega), Option.bind_some, Option.bind_some, Option.bind_some, implMapPort_f (by omega) (okT_all c) he, Option.bind_some]
  unfold putV
  by_cases c1 : portV l a b = 0
  · by_cases c2 : (l.length : Int) ≥ 6
    · have c2' : l.length = 6 := by omega
      simp [c1, c2']
    · have c2' : ¬ l.length = 6 := by omega
      have c3 : l.length < 8796093022208 := by omega
      have c4 : ¬ (6 ≤ l.length) := by omega
      have e : wrap64 (500 + (l.length : Int)) = 500 + l.length := w64 _ (by omega)
      simp [c1, c2', c3, c4, e]
      omega
  · simp [c1]
end Go.Proofs.YtffmbccgcaghjaaGreatDoor.P
namespace Go.Proofs.YtffmbccgcaghjaaGreatDoor.P
open Go.RowKit Go.Proofs.YtffmbccgcaghjaaGreatDoorUFnRwrLine.PrintWords Go.Proofs.YtffmbccgcaghjaaGreatDoorUFnRwrLine.PrintLast Go.Proofs.YtffmbccgcaghjaaGreatDoorUFnRwrLine.PrintMore
set_option linter.unusedVariables false
set_option linter.unusedSimpArgs false
theorem in_a {l : List Int} (hl : Bys l) {s B : Int} (hs : At B s) (hB : B < 800000) : Ans (fun k => spec_l20In.f k l s) (fun r => At (B + 3) r.2.2 ∧ Sm r.1 ∧ Sm r.2.1) := by
  unfold spec_l20In.f
  refine Ans.bind (pick_a hl hs (by omega) 4) ?_
  rintro ⟨v1, s1⟩ ⟨h1, p1⟩
  refine Ans.bind (pick_a hl h1 (by omega) 40) ?_
  rintro ⟨v2, s2⟩ ⟨h2, p2⟩
  dsimp only at *
  simp only [Option.bind_some]
  refine Ans.bind (pick_a hl h2 (by omega) 5) ?_
  rintro ⟨v3, s3⟩ ⟨h3, p3⟩
  dsimp only at *
  refine Ans.pos p3.1 (Ans.pos (by simp; omega) (Ans.pure ⟨at_le h3 (by omega), ?_, sm_rd ?_ _⟩))
  · rw [w64 _ (by omega)]; unfold Sm; omega
  · intro x hx
    have e : wrap64 (1 + v2) = 1 + v2 := w64 _ (by omega)
    rw [e] at hx
    simp at hx
    unfold Sm
    omega
theorem out_a {l : List Int} (hl : Bys l) {s B : Int} (hs : At B s) (hB : B < 800000) : Ans (fun k => spec_l20Out.f k l s) (fun r => At (B + 2) r.2.2 ∧ Sm r.1 ∧ Sm r.2.1) := by
  unfold spec_l20Out.f
  refine Ans.bind (pick_a hl hs (by omega) 3) ?_
  rintro ⟨v1, s1⟩ ⟨h1, p1⟩
  simp only [Option.bind_some]
  dsimp only at *
  refine Ans.bind (pick_a hl h1 (by omega) 4) ?_
  rintro ⟨v3, s3⟩ ⟨h3, p3⟩
  dsimp only at *
  refine Ans.pos p3.1 (Ans.pos (by simp; omega) (Ans.pure ⟨at_le h3 (by omega), ?_, sm_rd ?_ _⟩))
  · rw [w64 _ (by omega)]; unfold Sm; omega
  · intro x hx
    simp at hx
    unfold Sm
    omega
theorem sm_rd29 {xs : List S34} (h : ∀ x ∈ xs, Sm x.f0 ∧ Sm x.f1) (i : Int) : Sm (rd_T34 xs i).f0 ∧ Sm (rd_T34 xs i).f1 := by
  unfold rd_T34
  by_cases hi : i.toNat < xs.length
  · have e : xs.getD i.toNat z34 = xs[i.toNat] := by simp [List.getD, hi]
    rw [e]; exact h _ (List.getElem_mem hi)
  · have e : xs.getD i.toNat z34 = z34 := by simp [List.getD, Nat.not_lt.mp hi]
    rw [e]; unfold Sm z34; exact ⟨by decide, by decide⟩
end Go.Proofs.YtffmbccgcaghjaaGreatDoor.P
namespace Go.Proofs.YtffmbccgcaghjaaGreatDoor.P
open Go.RowKit Go.Proofs.YtffmbccgcaghjaaGreatDoorUFnRwrLine.PrintWords Go.Proofs.YtffmbccgcaghjaaGreatDoorUFnRwrLine.PrintLast Go.Proofs.YtffmbccgcaghjaaGreatDoorUFnRwrLine.PrintMore
set_option linter.unusedVariables false
set_option linter.unusedSimpArgs false
theorem specMapPut_a (l : List S34) (hl : l.length ≤ 2000000) (a b : Int) : Ans (fun k => spec_MapPut.f k l a b) (fun r => r = tabPut l a b) := by
  unfold spec_MapPut.f tabPut
  refine Ans.bind (specMapOk_a l hl) ?_
  rintro _ rfl
  simp only [specEndInside_f, Option.bind_some]
  have J0 : Ans (fun k => spec_MapPut.j0 k true l a b) (fun r => r = ([], 0)) := by
    refine Ans.succ ?_
    unfold spec_MapPut.j0
    exact Ans.pos rfl (Ans.pure rfl)
  refine Ans.ite (fun c => ?_) (fun c => by simpa [c] using J0)
  rw [c]
  cases he : endIn a b
  · simpa using J0
  have hl6 := okT_le c
  refine Ans.succ ?_
  unfold spec_MapPut.j0
  refine Ans.neg (by simp) ?_
  have hc : spec_l3Copy.f l = some l := by
    unfold spec_l3Copy.f
    rw [Option.bind_some, if_pos (by simp; omega)]
    rfl
  rw [hc]
  refine Ans.bsome ?_
  refine Ans.bind (R := fun r => r = putV l a b) ?_ (fun v hv => by subst hv; exact Ans.pure (by simp))
  exact l3Put_a l hl a b
instance decS29 : DecidableEq S34 := fun a b => decidable_of_iff (a.f0 = b.f0 ∧ a.f1 = b.f1) (by cases a; cases b; simp)
theorem haEnds_a (l r : List S34) (hl : l.length ≤ 2000000) : Ans (fun k => laws_haEnds.f k l r) (fun v => v = decide (l = r)) := by
  unfold laws_haEnds.f
  refine Ans.ite (fun c => ?_) (fun c => Ans.pure ?_)
  · have L : ∀ (m i : Nat), i + m = l.length → l.take i = r.take i → Ans (fun k => laws_haEnds.l0 k l r (i : Int)) (fun v => v = decide (l = r)) := by
      intro m
      induction m with
      | zero =>
        intro i hi ht
        refine Ans.succ ?_
        unfold laws_haEnds.l0
        rw [List.take_of_length_le (by omega), List.take_of_length_le (by omega)] at ht
        exact Ans.neg (by omega) (Ans.pure (by simp [ht]))
      | succ m ih =>
        intro i hi ht
        refine Ans.succ ?_
        unfold laws_haEnds.l0
        refine Ans.pos (by omega) (Ans.pos (by omega) (Ans.pos (by omega) ?_))
        rw [wi i (by omega)]
        refine Ans.ite (fun h => Ans.pure ?_) (fun h => ?_)
        · have : ¬ (l = r) := by
            rintro rfl
            simp at h
          simp [this]
        · refine ih (i + 1) (by omega) ?_
          rw [rd29_take (by omega : i < l.length), rd29_take (by omega : i < r.length), ht]
          have : rd_T34 l (i : Int) = rd_T34 r (i : Int) := by
            simp at h
            cases h1 : rd_T34 l (i : Int)
            cases h2 : rd_T34 r (i : Int)
            rw [h1, h2] at h
            simp at h
            simp [h.1, h.2]
          rw [this]
    exact L l.length 0 (by omega) rfl
  · have : ¬ (l = r) := by
      rintro rfl
      exact c rfl
    simp [this]
theorem haFirst_a (l r : List S34) (hl : l.length ≤ 2000000) (h : ∃ t, l = r ++ t) : Ans (fun k => laws_haFirst.f k l r) (fun v => v = true) := by
  obtain ⟨t, rfl⟩ := h
  unfold laws_haFirst.f
  refine Ans.pos (by simp; omega) (Ans.pos (by omega) (Ans.pos (by simp; omega) ?_))
  have e : (((r.length : Int)) : Int).toNat = r.length := by omega
  rw [e, List.take_left]
  refine Ans.bind (haEnds_a r r (by simp at hl; omega)) ?_
  rintro _ rfl
  exact Ans.pure (by simp)
end Go.Proofs.YtffmbccgcaghjaaGreatDoor.P
namespace Go.Proofs.YtffmbccgcaghjaaGreatDoor.P
open Go.RowKit Go.Proofs.YtffmbccgcaghjaaGreatDoorUFnRwrLine.PrintWords Go.Proofs.YtffmbccgcaghjaaGreatDoorUFnRwrLine.PrintLast Go.Proofs.YtffmbccgcaghjaaGreatDoorUFnRwrLine.PrintMore
set_option linter.unusedVariables false
set_option linter.unusedSimpArgs false
theorem tabPut_len (l : List S34) (a b : Int) : (tabPut l a b).1.length ≤ l.length + 1 := by
  unfold tabPut putV
  split
  · split
    · simp
    · split <;> simp
  · simp
theorem table_a {l : List Int} (hl : Bys l) {s B : Int} (hs : At B s) (hB : B < 500000) (n : Int) : Ans (fun k => spec_l20Table.f k l s n) (fun r => At (B + 200) r.2 ∧ r.1.length ≤ 20) := by
  have L1 : ∀ (m : Nat) (x : List S34) (s B : Int), At B s → x.length + m = 20 → Ans (fun k => spec_l20Table.l1 k l s x) (fun r => At B r.2 ∧ r.1.length ≤ 20) := by
    intro m
    induction m with
    | zero =>
      intro x s B hs hm
      refine Ans.succ ?_
      unfold spec_l20Table.l1
      exact Ans.neg (by omega) (Ans.pure ⟨hs, by dsimp only; omega⟩)
    | succ m ih =>
      intro x s B hs hm
      refine Ans.succ ?_
      unfold spec_l20Table.l1
      refine Ans.ite (fun c => Ans.pos (by omega) (ih _ s B hs (by simp; omega))) (fun c => Ans.pure ⟨hs, by dsimp only; omega⟩)
  have L0 : ∀ (m : Nat) (x : List S34) (x6 s B : Int), At B s → B + 3 * (m : Int) < 600000 → x.length + m ≤ 10 → x6 ≤ m → m ≤ 10 → Ans (fun k => spec_l20Table.l0 k n x6 l s x) (fun r => At (B + 3 * m + 10) r.2 ∧ r.1.length ≤ 20) := by
    intro m
    have J : ∀ (x : List S34) (s B : Int), At B s → B < 700000 → x.length ≤ 10 → Ans (fun k => (spec_l20Rd_odd.f k l s n).bind fun bt566 => (if bt566.1 = true then ((spec_l20Rd_pick.f k l bt566.2 3).bind fun bt568 => (if bt568.1 = 0 then ((spec_l20Out.f k l bt568.2).bind fun bt570 => (if x.length < 8796093022208 then (some ((x ++ [(⟨bt570.1, bt570.2.1⟩ : S34)]), bt570.2.2)) else (none))) else (if bt568.1 = 1 then (if x.length < 8796093022208 then ((some (x ++ [(⟨9, 9⟩ : S34)] : List (S34))).bind fun y576 => (if y576.length < 8796093022208 then (some ((y576 ++ [(⟨9, 9⟩ : S34)]), bt568.2)) else (none))) else (none)) else (spec_l20Table.l1 k l bt568.2 x)))) else (some (x, bt566.2)))) (fun r => At (B + 10) r.2 ∧ r.1.length ≤ 20) := by
      intro x s B hs hB hx
      refine Ans.bind (odd_a hl hs (by omega) n) ?_
      rintro ⟨b, s1⟩ h1
      dsimp only at *
      refine Ans.ite (fun _ => ?_) (fun _ => Ans.pure ⟨at_le h1 (by omega), by dsimp only; omega⟩)
      refine Ans.bind (pick_a hl h1 (by omega) 3) ?_
      rintro ⟨v2, s2⟩ ⟨h2, p2⟩
      dsimp only at *
      refine Ans.ite (fun _ => ?_) (fun _ => Ans.ite (fun _ => ?_) (fun _ => ?_))
      · refine Ans.bind (out_a hl h2 (by omega)) ?_
        rintro ⟨a1, a2, s3⟩ ⟨h3, _⟩
        dsimp only at *
        exact Ans.pos (by omega) (Ans.pure ⟨at_le h3 (by omega), by simp; omega⟩)
      · exact Ans.pos (by omega) (Ans.bsome (Ans.pos (by simp; omega) (Ans.pure ⟨at_le h2 (by omega), by simp; omega⟩)))
      · refine (L1 (20 - x.length) x s2 _ h2 (by omega)).mono ?_
        rintro r ⟨a, b⟩
        exact ⟨at_le a (by omega), b⟩
    induction m with
    | zero =>
      intro x x6 s B hs hB hm hx hq
      refine Ans.succ ?_
      unfold spec_l20Table.l0
      refine Ans.neg (by omega) ((J x s B hs (by omega) (by omega)).mono ?_)
      rintro r ⟨a, b⟩
      exact ⟨at_le a (by omega), b⟩
    | succ m ih =>
      intro x x6 s B hs hB hm hx hq
      refine Ans.succ ?_
      unfold spec_l20Table.l0
      refine Ans.ite (fun c => ?_) (fun c => ?_)
      · refine Ans.bind (in_a hl hs (by omega)) ?_
        rintro ⟨a1, a2, s1⟩ ⟨h1, _⟩
        dsimp only at *
        refine Ans.bind (specMapPut_a x (by omega) a1 a2) ?_
        rintro _ rfl
        have hp := tabPut_len x a1 a2
        have e : wrap64 (x6 - 1) = x6 - 1 := w64 _ (by omega)
        rw [e]
        refine (ih _ _ s1 _ h1 (by omega) (by omega) (by omega) (by omega)).mono ?_
        rintro r ⟨a, b⟩
        exact ⟨at_le a (by push_cast; omega), b⟩
      · refine (J x s B hs (by omega) (by omega)).mono ?_
        rintro r ⟨a, b⟩
        exact ⟨at_le a (by omega), b⟩
  unfold spec_l20Table.f
  refine Ans.bind (pick_a hl hs (by omega) 8) ?_
  rintro ⟨v1, s1⟩ ⟨h1, p1⟩
  dsimp only at *
  refine (L0 10 [] v1 s1 _ h1 (by omega) (by simp) (by omega) (by omega)).mono ?_
  rintro r ⟨a, b⟩
  exact ⟨at_le a (by omega), b⟩
theorem fnd_some {l : List S34} {a b : Int} (h : portV l a b ≠ 0) : ∃ i, fnd l a b = some i ∧ portV l a b = 500 + i := by
  unfold portV at *
  cases hf : fnd l a b with
  | none => rw [hf] at h; simp at h
  | some i => exact ⟨i, rfl, rfl⟩
theorem fnd_none {l : List S34} {a b : Int} (h : portV l a b = 0) : fnd l a b = none := by
  unfold portV at h
  cases hf : fnd l a b with
  | none => rfl
  | some i => rw [hf] at h; simp at h; omega
theorem ok_snoc {l : List S34} {a b : Int} (h : okT l = true) (hl : l.length < 6) (he : endIn a b = true) (hn : fnd l a b = none) : okT (l ++ [⟨a, b⟩]) = true := by
  unfold okT at *
  simp only [Bool.and_eq_true, decide_eq_true_eq] at *
  refine ⟨by simp; omega, ?_⟩
  unfold goodFrom
  rw [List.all_eq_true]
  intro j hj
  simp [List.mem_range'] at hj
  by_cases hjl : j < l.length
  · have h2 := h.2
    unfold goodFrom at h2
    have := List.all_eq_true.mp h2 j (by simp [List.mem_range']; omega)
    have e1 : rd_T34 (l ++ [⟨a, b⟩]) (j : Int) = rd_T34 l (j : Int) := by
      rw [rd29_get (by simp; omega), rd29_get hjl, List.getElem_append_left]
    have e2 : List.take j (l ++ [(⟨a, b⟩ : S34)]) = l.take j := by rw [List.take_append_of_le_length (by omega)]
    rw [e1, e2]
    exact this
  · have hjj : j = l.length := by omega
    subst hjj
    have e1 : rd_T34 (l ++ [⟨a, b⟩]) (l.length : Int) = ⟨a, b⟩ := by
      rw [rd29_get (by simp)]
      simp
    rw [e1, List.take_left]
    simp [he, hn]
theorem put_ok {l : List S34} {a b : Int} (h : okT l = true) (he : endIn a b = true) : okT (putV l a b).1 = true := by
  have := okT_le h
  unfold putV
  by_cases c1 : portV l a b = 0
  · rw [if_neg (by simp [c1])]
    by_cases c2 : l.length = 6
    · rw [if_pos c2]; exact h
    · rw [if_neg c2]; exact ok_snoc h (by omega) he (fnd_none c1)
  · rw [if_pos c1]; exact h
theorem put_len {l : List S34} (h : l.length ≤ 6) (a b : Int) : (putV l a b).1.length = if portV l a b ≠ 0 then l.length else if l.length = 6 then 6 else l.length + 1 := by
  unfold putV
  split
  · rfl
  · split
    · rename_i h6; simp [h6]
    · simp
theorem portV_app {l : List S34} (r : List S34) {a b : Int} (h : portV l a b ≠ 0) : portV (l ++ r) a b = portV l a b := by
  obtain ⟨i, hi, hv⟩ := fnd_some h
  rw [hv]
  unfold portV
  rw [fnd_app, hi]
theorem put_port {l : List S34} {a b c d : Int} (h : portV l c d ≠ 0) : portV (putV l a b).1 c d = portV l c d := by
  unfold putV
  split
  · rfl
  · split
    · rfl
    · exact portV_app _ h
theorem put_self {l : List S34} (h : l.length < 6) (a b : Int) : portV (putV l a b).1 a b ≠ 0 := by
  unfold putV
  split
  · assumption
  · rename_i hn
    rw [if_neg (by omega)]
    unfold portV
    rw [fnd_snoc, fnd_none (by simpa using hn)]
    simp
    omega
theorem put_other {l : List S34} {a b c d : Int} (hne : ¬ (a = c ∧ b = d)) (h : portV l c d = 0) : portV (putV l a b).1 c d = 0 := by
  unfold putV
  split
  · exact h
  · split
    · exact h
    · unfold portV
      rw [fnd_snoc, fnd_none h]
      simp [hne]
end Go.Proofs.YtffmbccgcaghjaaGreatDoor.P
namespace Go.Proofs.YtffmbccgcaghjaaGreatDoor.P
open Go Go.RowKit Go.Proofs.YtffmbccgcaghjaaGreatDoorUFnRwrLine.PrintWords Go.Proofs.YtffmbccgcaghjaaGreatDoorUFnRwrLine.PrintLast Go.Proofs.YtffmbccgcaghjaaGreatDoorUFnRwrLine.PrintMore
set_option linter.unusedVariables false
def wordsB (s : ByteArray) : List ByteArray := Lib.splitB (⟨#[32]⟩ : ByteArray) 0 (Lib.countB s (⟨#[32]⟩ : ByteArray)) s
theorem wordsB_length (s : ByteArray) : (wordsB s).length = Lib.countB s (⟨#[32]⟩ : ByteArray) + 1 := Lib.splitB_all (⟨#[32]⟩ : ByteArray) (by decide) 0 _ s rfl
theorem splitB_size (sep : ByteArray) : ∀ (k : Nat) (s : ByteArray), ∀ x ∈ Lib.splitB sep 0 k s, x.size ≤ s.size
  | 0, s, x, h => by simp [Lib.splitB] at h; subst h; exact Nat.le_refl _
  | k + 1, s, x, h => by
    unfold Lib.splitB at h
    split at h
    · simp at h; subst h; exact Nat.le_refl _
    · rcases List.mem_cons.1 h with rfl | h
      · simp [ByteArray.size_extract]; omega
      · have := splitB_size sep k _ x h
        simp [ByteArray.size_extract] at this
        omega
theorem wordsB_size (s : ByteArray) : ∀ x ∈ wordsB s, x.size ≤ s.size := splitB_size _ _ s
end Go.Proofs.YtffmbccgcaghjaaGreatDoor.P
namespace Go.Proofs.YtffmbccgcaghjaaGreatDoor.P
open Go.RowKit Go.Proofs.YtffmbccgcaghjaaGreatDoorUFnRwrLine.PrintWords Go.Proofs.YtffmbccgcaghjaaGreatDoorUFnRwrLine.PrintLast Go.Proofs.YtffmbccgcaghjaaGreatDoorUFnRwrLine.PrintMore
set_option linter.unusedVariables false
set_option linter.unusedSimpArgs false
theorem ba_ext {a b : ByteArray} (h : a.data.toList = b.data.toList) : a = b := by
  cases a; cases b; simp at h; rw [h]
theorem numB_small {n : Nat} (h : n < 10) : numB n = strOfNums [((48 + n : Nat) : Int)] := by
  apply ba_ext
  unfold numB Lib.itoa
  rw [if_neg (by omega)]
  simp only [Int.toNat_natCast, Lib.decDigits_one h, strOfNums]
  rfl
theorem numB_big {n : Nat} (h : ¬ n < 10) : numB n = numB (n / 10 : Nat) ++ strOfNums [((48 + n % 10 : Nat) : Int)] := by
  apply ba_ext
  unfold numB Lib.itoa
  rw [if_neg (by omega), if_neg (by omega)]
  simp only [Int.toNat_natCast, ByteArray.data_append, Array.toList_append]
  rw [Lib.decDigits, dif_neg h]
  simp only [Int.toNat_natCast, strOfNums]
  rfl
theorem strOfNums_size (l : List Int) : (strOfNums l).size = l.length := by simp [strOfNums, ByteArray.size]
theorem plain_l0 : ∀ (N n : Nat), n < N → n < 1000000 → ∀ x3 : ByteArray, x3.size + N ≤ 1000000000 → Ans (fun k => spec_l1Plain.l0 k n x3) (fun b => b = numB n ++ x3)
  | 0, n, h, _, _, _ => by omega
  | N + 1, n, h, hn, x3, hx => by
    refine Ans.succ ?_
    unfold spec_l1Plain.l0
    by_cases h9 : n < 10
    · refine Ans.neg (by omega) ?_
      have e : (wrap64 (48 + (n : Int))) % 256 = ((48 + n : Nat) : Int) := by unfold wrap64; omega
      rw [e]
      refine Ans.bsome (Ans.pos (by rw [strOfNums_size]; simp; omega) (Ans.pure ?_))
      rw [numB_small h9]
    · refine Ans.pos (by omega) ?_
      have e1 : Int.tmod (n : Int) 10 = ((n % 10 : Nat) : Int) := by rw [Int.tmod_eq_emod_of_nonneg (by omega)]; rfl
      have e2 : Int.tdiv (n : Int) 10 = ((n / 10 : Nat) : Int) := by rw [Int.tdiv_eq_ediv_of_nonneg (by omega)]; rfl
      have e : (wrap64 (48 + Int.tmod (n : Int) 10)) % 256 = ((48 + n % 10 : Nat) : Int) := by rw [e1]; unfold wrap64; omega
      have e3 : wrap64 (Int.tdiv (n : Int) 10) = ((n / 10 : Nat) : Int) := by rw [e2]; unfold wrap64; omega
      rw [e, e3]
      have hs : (strOfNums [((48 + n % 10 : Nat) : Int)]).size = 1 := by rw [strOfNums_size]; rfl
      refine Ans.bsome (Ans.pos (by rw [hs]; omega) ?_)
      refine (plain_l0 N (n / 10) (by omega) (by omega) (strOfNums [((48 + n % 10 : Nat) : Int)] ++ x3) (by rw [ByteArray.size_append, hs]; omega)).mono ?_
      rintro v rfl
      rw [numB_big h9, ByteArray.append_assoc]
theorem plain_a {n : Nat} (hn : n < 1000000) : Ans (fun k => spec_l1Plain.f k n) (fun b => b = numB n) := by
  refine (plain_l0 (n + 1) n (by omega) hn (⟨#[]⟩ : ByteArray) (by simp [ByteArray.size]; omega)).mono ?_
  rintro v rfl
  exact ba_ext (by simp)
theorem len_size (s : ByteArray) : s.data.toList.length = s.size := by rw [Array.length_toList]; rfl
def wlpB : ByteArray → List UInt8 → List ByteArray
  | w, [] => [w]
  | w, c :: r => if c = 32 then w :: wlpB ⟨#[]⟩ r else wlpB (w ++ ⟨#[c]⟩) r
theorem bt_get (s : ByteArray) (i : Nat) (h : i < s.size) : bt s i = ((s.data.toList[i]'(by rw [len_size]; exact h)).toNat : Int) := by
  unfold bt
  simp only [Int.toNat_natCast, dif_pos h]
  rfl
theorem extract_get (s : ByteArray) (i : Nat) (h : i < s.size) : s.extract i (i + 1) = ⟨#[s.data.toList[i]'(by rw [len_size]; exact h)]⟩ := by
  apply ba_ext
  have hl : i < s.data.toList.length := by rw [len_size]; exact h
  rw [Lib.extract_data]
  have e : s.data.toList.drop i = s.data.toList[i] :: s.data.toList.drop (i + 1) := List.drop_eq_getElem_cons hl
  rw [e, show i + 1 - i = 1 by omega]
  rfl
theorem words_l0 (s : ByteArray) (hs : s.size ≤ 1048576) : ∀ (m i : Nat), s.size - i = m → i ≤ s.size → ∀ (x3 : List ByteArray) (x4 : ByteArray), x3.length ≤ i → x4.size ≤ i →
    Ans (fun k => spec_l1Words.l0 k s x3 x4 i) (fun r => r = x3 ++ wlpB x4 (s.data.toList.drop i))
  | 0, i, hm, hi, x3, x4, h3, h4 => by
    refine Ans.succ ?_
    unfold spec_l1Words.l0
    refine Ans.neg (by omega) (Ans.pos (by omega) (Ans.pure ?_))
    rw [List.drop_eq_nil_of_le (by rw [len_size]; omega)]
    rfl
  | m + 1, i, hm, hi, x3, x4, h3, h4 => by
    have hlt : i < s.size := by omega
    have hl : i < s.data.toList.length := by rw [len_size]; exact hlt
    have hw : wrap64 ((i : Int) + 1) = ((i + 1 : Nat) : Int) := by unfold wrap64; omega
    have e : s.data.toList.drop i = s.data.toList[i] :: s.data.toList.drop (i + 1) := List.drop_eq_getElem_cons hl
    refine Ans.succ ?_
    unfold spec_l1Words.l0
    refine Ans.pos (by omega) (Ans.pos (by omega) ?_)
    rw [bt_get s i hlt, hw, e]
    by_cases hc : s.data.toList[i] = 32
    · refine Ans.pos (by rw [hc]; rfl) (Ans.pos (by omega) ?_)
      refine (words_l0 s hs m (i + 1) (by omega) (by omega) (x3 ++ [x4]) (⟨#[]⟩ : ByteArray) (by simp; omega) (Nat.zero_le _)).mono ?_
      rintro v rfl
      rw [wlpB, if_pos hc]
      simp
    · refine Ans.neg (fun h => hc (UInt8.toNat_inj.mp (by have : ((32 : UInt8).toNat : Int) = 32 := rfl; omega))) (Ans.pos (by omega) (Ans.pos (by omega) ?_))
      have ex : s.extract ((i : Int)).toNat ((((i + 1 : Nat) : Int))).toNat = ⟨#[s.data.toList[i]]⟩ := by simp only [Int.toNat_natCast]; exact extract_get s i hlt
      rw [ex]
      have h1 : (⟨#[s.data.toList[i]]⟩ : ByteArray).size = 1 := rfl
      refine Ans.pos (by rw [h1]; omega) ?_
      refine (words_l0 s hs m (i + 1) (by omega) (by omega) x3 (x4 ++ ⟨#[s.data.toList[i]]⟩) (by omega) (by rw [ByteArray.size_append, h1]; omega)).mono ?_
      rintro v rfl
      rw [wlpB, if_neg hc]
theorem wlpB_data : ∀ (l : List UInt8) (w : ByteArray), wlpB w l = match wlpB ⟨#[]⟩ l with
    | [] => []
    | h :: t => (w ++ h) :: t
  | [], w => by simp only [wlpB]; congr 1; exact ba_ext (by simp)
  | c :: r, w => by
    by_cases hc : c = 32
    · subst hc
      simp only [wlpB, if_true]
      congr 1; exact ba_ext (by simp)
    · simp only [wlpB, if_neg hc]
      rw [wlpB_data r (w ++ ⟨#[c]⟩), wlpB_data r (⟨#[]⟩ ++ ⟨#[c]⟩)]
      cases wlpB ⟨#[]⟩ r with
      | nil => rfl
      | cons h t => simp only [List.cons.injEq, and_true]; exact ba_ext (by simp)
theorem wlp_eq : ∀ (l : List UInt8), Lib.splitK [32] 0 (Lib.count l [32]) l = (wlpB ⟨#[]⟩ l).map (·.data.toList)
  | [] => by rw [Lib.count_miss (by simp [Lib.index])]; rfl
  | b :: l => by
    by_cases h : b = 32
    · subst h
      rw [Lib.count_cons_eq, Nat.add_comm]
      have hix : Lib.index (32 :: l) [32] = 0 := by rw [Lib.index]; simp [List.isPrefixOf]
      unfold Lib.splitK
      rw [hix]
      simp only [wlpB, if_true, List.map_cons]
      simp [wlp_eq l]
    · rw [Lib.count_cons_ne b 32 l h]
      have hp : ([32] : List UInt8).isPrefixOf (b :: l) = false := by simp [List.isPrefixOf, Ne.symm h]
      have hix : Lib.index (b :: l) [32] = if Lib.index l [32] == -1 then -1 else Lib.index l [32] + 1 := by rw [Lib.index, hp]; simp
      have ih := wlp_eq l
      simp only [wlpB, if_neg h]
      rw [wlpB_data l (⟨#[]⟩ ++ ⟨#[b]⟩)]
      by_cases hm : Lib.index l [32] = -1
      · rw [Lib.count_miss hm] at ih ⊢
        simp only [Lib.splitK] at ih ⊢
        cases hw : wlpB ⟨#[]⟩ l with
        | nil => rw [hw] at ih; simp at ih
        | cons x t => rw [hw] at ih; simp at ih ⊢; exact ⟨ih.1, ih.2⟩
      · have hge := Lib.index_ge l [32]
        obtain ⟨j, hj⟩ : ∃ j : Nat, Lib.index l [32] = j := ⟨(Lib.index l [32]).toNat, by omega⟩
        have hix' : Lib.index (b :: l) [32] = ((j + 1 : Nat) : Int) := by rw [hix, if_neg (fun e => hm (beq_iff_eq.1 e)), hj]; omega
        rw [Lib.count_hit (by simp) hj, Nat.add_comm] at ih ⊢
        unfold Lib.splitK at ih ⊢
        rw [hix', if_neg (fun h => by have := beq_iff_eq.1 h; omega)]
        rw [hj, if_neg (fun h => by have := beq_iff_eq.1 h; omega)] at ih
        cases hw : wlpB ⟨#[]⟩ l with
        | nil => rw [hw] at ih; simp at ih
        | cons x t => rw [hw] at ih; simp at ih ⊢; exact ⟨ih.1, ih.2⟩
theorem map_inj_data : ∀ {a b : List ByteArray}, a.map (·.data.toList) = b.map (·.data.toList) → a = b
  | [], [], _ => rfl
  | [], _ :: _, h => by simp at h
  | _ :: _, [], h => by simp at h
  | x :: a, y :: b, h => by
    simp only [List.map_cons, List.cons.injEq] at h
    rw [ba_ext h.1, map_inj_data h.2]
theorem wordsB_eq (s : ByteArray) : wordsB s = wlpB ⟨#[]⟩ s.data.toList := by
  apply map_inj_data
  unfold wordsB
  rw [Lib.splitB_data, ← wlp_eq]
  try rfl
theorem words_a (s : ByteArray) (hs : s.size ≤ 1048576) : Ans (fun k => spec_l1Words.f k s) (fun r => r = wordsB s) := by
  refine (words_l0 s hs _ 0 rfl (Nat.zero_le _) [] ⟨#[]⟩ (Nat.le_refl _) (Nat.le_refl _)).mono ?_
  rintro v rfl
  rw [wordsB_eq]; rfl
def joinB (w : ByteArray) (l : List ByteArray) : ByteArray := l.foldl (fun s x => s ++ ((⟨#[32]⟩ : ByteArray) ++ x)) w
def noBlank (b : ByteArray) : Prop := ∀ c ∈ b.data.toList, c ≠ 32
theorem wlpB_noBlank : ∀ (l : List UInt8) (w : ByteArray) (r : List UInt8), (∀ c ∈ l, c ≠ 32) → wlpB w (l ++ r) = wlpB (w ++ ⟨l.toArray⟩) r
  | [], w, r, _ => by simp only [List.nil_append]; congr 1; exact ba_ext (by simp)
  | c :: l, w, r, h => by
    have hc : c ≠ 32 := h c (by simp)
    simp only [List.cons_append, wlpB, if_neg hc]
    rw [wlpB_noBlank l (w ++ ⟨#[c]⟩) r (fun x hx => h x (by simp [hx]))]
    congr 1; exact ba_ext (by simp)
theorem wlpB_join : ∀ (l : List ByteArray) (w u : ByteArray), noBlank w → (∀ x ∈ l, noBlank x) → wlpB u (joinB w l).data.toList = (u ++ w) :: l
  | [], w, u, hw, _ => by
    have := wlpB_noBlank w.data.toList u [] hw
    rw [List.append_nil] at this
    show wlpB u w.data.toList = _
    rw [this]
    rfl
  | x :: l, w, u, hw, hl => by
    have e : ∀ (l : List ByteArray) (w x : ByteArray), (joinB (w ++ ((⟨#[32]⟩ : ByteArray) ++ x)) l).data.toList = w.data.toList ++ 32 :: (joinB x l).data.toList := by
      intro l
      induction l with
      | nil => intro w x; simp [joinB]
      | cons y l ih =>
        intro w x
        have h1 := ih (w ++ ((⟨#[32]⟩ : ByteArray) ++ x)) y
        have h2 := ih x y
        simp only [joinB, List.foldl_cons] at h1 h2 ⊢
        rw [h1, h2]
        simp
    have h0 : joinB w (x :: l) = joinB (w ++ ((⟨#[32]⟩ : ByteArray) ++ x)) l := rfl
    rw [h0, e, wlpB_noBlank w.data.toList u _ hw]
    simp only [wlpB, if_true]
    rw [wlpB_join l x ⟨#[]⟩ (hl x (by simp)) (fun y hy => hl y (by simp [hy]))]
    have e2 : (⟨#[]⟩ : ByteArray) ++ x = x := ba_ext (by simp)
    have e3 : u ++ ⟨w.data.toList.toArray⟩ = u ++ w := ba_ext (by simp)
    rw [e2]
theorem words_join (w : ByteArray) (l : List ByteArray) (hw : noBlank w) (hl : ∀ x ∈ l, noBlank x) : wordsB (joinB w l) = w :: l := by
  have e2 : (⟨#[]⟩ : ByteArray) ++ w = w := ba_ext (by simp)
  rw [wordsB_eq, wlpB_join l w ⟨#[]⟩ hw hl, e2]
theorem wlpB_ne : ∀ (r : List UInt8) (w : ByteArray), wlpB w r ≠ []
  | [], w => by simp [wlpB]
  | c :: r, w => by
    unfold wlpB
    split
    · simp
    · exact wlpB_ne r _
theorem join_wlpB : ∀ (r : List UInt8) (w : ByteArray), (match wlpB w r with | [] => (⟨#[]⟩ : ByteArray) | h :: t => joinB h t).data.toList = w.data.toList ++ r
  | [], w => by simp [wlpB, joinB]
  | c :: r, w => by
    by_cases hc : c = 32
    · subst hc
      simp only [wlpB, if_true]
      have ih := join_wlpB r ⟨#[]⟩
      cases hw : wlpB ⟨#[]⟩ r with
      | nil => exact absurd hw (wlpB_ne r _)
      | cons x t =>
        rw [hw] at ih
        have e : ∀ (t : List ByteArray) (w x : ByteArray), (joinB w (x :: t)).data.toList = w.data.toList ++ 32 :: (joinB x t).data.toList := by
          intro t
          induction t with
          | nil => intro w x; simp [joinB]
          | cons y t ih =>
            intro w x
            have h1 := ih (w ++ ((⟨#[32]⟩ : ByteArray) ++ x)) y
            have h2 := ih x y
            simp only [joinB, List.foldl_cons] at h1 h2 ⊢
            rw [h1, h2]
            simp
        show (joinB w (x :: t)).data.toList = _
        rw [e]
        simp only [List.append_cancel_left_eq, List.cons.injEq, true_and]
        simpa using ih
    · simp only [wlpB, if_neg hc]
      have ih := join_wlpB r (w ++ ⟨#[c]⟩)
      rw [ih]
      simp
theorem join_words (s w : ByteArray) (l : List ByteArray) (h : wordsB s = w :: l) : joinB w l = s := by
  have := join_wlpB s.data.toList ⟨#[]⟩
  rw [← wordsB_eq, h] at this
  exact ba_ext (by simpa using this)
end Go.Proofs.YtffmbccgcaghjaaGreatDoor.P
