import Derived.Test.YtffmbccgcaghjaaGreatDoorGLawFnBakRwrx3
namespace Go.Proofs.YtffmbccgcaghjaaGreatDoor.P
open Go.RowKit Go.Proofs.YtffmbccgcaghjaaGreatDoorUFnBakRwr.PrintWords Go.Proofs.YtffmbccgcaghjaaGreatDoorUFnBakRwr.PrintLast Go.Proofs.YtffmbccgcaghjaaGreatDoorUFnBakRwr.PrintMore
attribute [local go_sem] max2_int min2_int max_two min_two max_three min_three max_four min_four
set_option linter.unusedVariables false
set_option linter.unusedSimpArgs false
def spec_l3Line.f (k : Nat) (l0_0 : List (S34)) (a1 : ByteArray) : Option ((List (S34)) × ByteArray) := (spec_LinSays.f k a1).bind fun bt436 => (if bt436.2.2 = true then ((spec_l3Put.f k l0_0 bt436.1 bt436.2.1).bind fun bt440 => (if bt440.2 = 0 then (some (bt440.1, (⟨#[110, 111, 110, 101]⟩ : ByteArray))) else ((spec_LinPort.f k 50 bt440.2).bind fun t445 => (some (bt440.1, t445))))) else (some (l0_0, a1)))
theorem spec_l3Line.mono : ∀ a0 a1 k, LeO (spec_l3Line.f k a0 a1) (spec_l3Line.f (k + 1) a0 a1) := by
 intro a0 a1 k
 unfold spec_l3Line.f
 repeat' first | (with_reducible first | exact spec_LinPort.mono _ _ _ | exact spec_LinSays.mono _ _ | exact spec_l3Put.mono _ _ _ _ | exact LeO.refl _ | exact LeO.none _ | refine LeO.ite ?_ ?_ | refine LeO.bind ?_ (fun _ => ?_)) | exact spec_LinPort.mono _ _ _ | exact spec_LinSays.mono _ _ | exact spec_l3Put.mono _ _ _ _ | exact LeO.none _ | refine LeO.ite ?_ ?_ | refine LeO.bind ?_ (fun _ => ?_)
set_option maxHeartbeats 8000000 in
set_option maxRecDepth 100000 in
theorem spec_l3Line.calls (k : Nat) (P0_0_ : Nat → Prop) (u9000_ : Value) (l0_0 : List (S34)) (a1 : ByteArray) (r1 : List (S34)) (r2 : ByteArray) (w0 w : World) (hB : Below w0.heap.size w0 w) (ho0_0 : Kd.R k34 34 w w0.heap.size P0_0_ u9000_ l0_0) (h : spec_l3Line.f k l0_0 a1 = some (r1, r2)) :
  Calls Tryz.prog 46 #[.agg #[u9000_], .string a1] w fun e w' => ∃ v0_ : Value, e = .returned (.tuple #[.agg #[v0_], .string r2]) ∧ Kd.R k34 34 w' w0.heap.size (fun k_ => (P0_0_ k_ ∨ w.heap.size ≤ k_)) v0_ r1 ∧ Below w0.heap.size w0 w' ∧ Kept w w' (fun k_ => P0_0_ k_) := by
 have hu25 := Tryz.underlying25
 have hu34 := Tryz.underlying34
 have HO0_0 := Aside0.mk (show Kd.R k34 34 w w0.heap.size (fun k_ => (P0_0_ k_ ∨ w.heap.size ≤ k_)) u9000_ l0_0 from Kd.R_mono ho0_0 (fun k_ hk => (.inl hk)))
 have HK := Aside0.mk (Kept.refl w (fun k_ => P0_0_ k_))
 have HW0 := Aside0.mk hB.size
 have HB := Aside0.mk hB
 clear hB
 have H : ((spec_LinSays.f k a1).bind fun bt436 => (if bt436.2.2 = true then ((spec_l3Put.f k l0_0 bt436.1 bt436.2.1).bind fun bt440 => (if bt440.2 = 0 then (some (bt440.1, (⟨#[110, 111, 110, 101]⟩ : ByteArray))) else ((spec_LinPort.f k 50 bt440.2).bind fun t445 => (some (bt440.1, t445))))) else (some (l0_0, a1)))) = some (r1, r2) := h
 clear h
 replace H := Option.bind_eq_some_iff.mp H
 obtain ⟨⟨t436, t437, t438⟩, A30, H⟩ := H
 try dsimp only at H
 have A3 := Aside0.mk A30
 clear A30
 by_cases c4 : t438 = true
 ·subst c4
  have H1 : ((spec_l3Put.f k l0_0 t436 t437).bind fun bt440 => (if bt440.2 = 0 then (some (bt440.1, (⟨#[110, 111, 110, 101]⟩ : ByteArray))) else ((spec_LinPort.f k 50 bt440.2).bind fun t445 => (some (bt440.1, t445))))) = some (r1, r2) := by rw [if_pos rfl] at H; exact H
  clear H
  have H := H1
  clear H1
  replace H := Option.bind_eq_some_iff.mp H
  obtain ⟨⟨t440, t443⟩, A50, H⟩ := H
  try dsimp only at H
  have A5 := Aside0.mk A50
  clear A50
  by_cases c6 : t443 = 0
  ·rw [if_pos c6] at H
   have c6b0 : (t443 == 0) = true := beq_iff_eq.mpr c6
   have c6b1 : (t443 != 0) = false := bne_eq_false_iff_eq.mpr c6
   clear c6
   simp only [Option.some.injEq, Prod.mk.injEq] at H
   obtain ⟨rfl, rfl⟩ := H
   obtain ⟨Ao7, co7, eo7⟩ := Kd.R_slice HO0_0.out
   subst eo7
   go_enter Tryz.func46, Tryz.ntmps46
   go_wp2_with (first | ((with_reducible refine gate_dst (N := 2) rfl ?_); refine box_event rfl (N := 2) rfl (cs := #[.slice Ao7 l0_0.length co7]) (t := 25) hr_ ?_; intro gb434 hg w8 hbox hb; replace HO0_0 := Aside0.mk (Kd.R_below (rs HO0_0) hb); have BK434 := Aside0.mk hbox; have GW434 := Aside0.mk ((by rw [hg]; exact (by first | exact HK.out.1 | exact (show Kept w _ (fun k_ => P0_0_ k_) from m15_).1) : w.heap.size ≤ gb434)); replace HK := Aside0.mk (Kept.below (S := (fun k_ => P0_0_ k_)) m15_ hb); have GE434 := gwE HB hg; replace HB := hbS HB hb; clear hb hbox hg) | ((with_reducible refine gate_dst (N := 4) rfl ?_); refine box_event rfl (N := 4) rfl (cs := #[.slice none 0 0]) (t := 25) hr_ ?_; intro gb435 hg w9 hbox hb; replace HO0_0 := Aside0.mk (Kd.R_below (rs HO0_0) hb); have BK435 := Aside0.mk hbox; have GW435 := Aside0.mk ((by rw [hg]; exact (by first | exact HK.out.1 | exact (show Kept w _ (fun k_ => P0_0_ k_) from m16_).1) : w.heap.size ≤ gb435)); replace HK := Aside0.mk (Kept.below (S := (fun k_ => P0_0_ k_)) m16_ hb); have GE435 := gwE HB hg; replace HB := hbS HB hb; have NB434_435 := neL BK434 hg; have NB435_434 := neG BK434 hg; replace BK434 := bkB BK434 hb; clear hb hbox hg) | ((with_reducible refine gate_callee (f := 79) rfl ?_); refine gL (some 12) Tryz.func79 #[.string a1] ?_; (with_reducible refine (spec_LinSays.calls k a1 t436 t437 true _ A3.out).mono ?_); rintro e w10 ⟨rfl, hb⟩; refine ⟨_, rfl, ?_⟩; replace HO0_0 := Aside0.mk (Kd.R_below (rs HO0_0) hb); replace BK434 := bkB BK434 hb; replace BK435 := bkB BK435 hb; replace HK := Aside0.mk (Kept.below (S := (fun k_ => P0_0_ k_)) m16_ hb); replace HB := hbS HB hb; (try clear hb)) | ((with_reducible refine gate_dst (N := 6) rfl ?_); refine box_event rfl (N := 6) rfl (cs := #[.int .i64 0, .int .i64 0]) (t := 34) hr_ ?_; intro gb439 hg w11 hbox hb; replace HO0_0 := Aside0.mk (Kd.R_below (Kd.R_elderB (rs HO0_0) gb439 (Nat.le_of_eq hg.symm)) hb); have BK439 := Aside0.mk hbox; have GW439 := Aside0.mk ((by rw [hg]; exact (by first | exact HK.out.1 | exact (show Kept w _ (fun k_ => P0_0_ k_) from m16_).1) : w.heap.size ≤ gb439)); replace HK := Aside0.mk (Kept.below (S := (fun k_ => P0_0_ k_)) m16_ hb); have GE439 := gwE HB hg; replace HB := hbS HB hb; have NB434_439 := neL BK434 hg; have NB439_434 := neG BK434 hg; replace BK434 := bkB BK434 hb; have NB435_439 := neL BK435 hg; have NB439_435 := neG BK435 hg; replace BK435 := bkB BK435 hb; clear hb hbox hg; have hnb12 := NB439_434.out; have hnc12 := NB434_439.out; have hnb13 := NB439_435.out; have hnc13 := NB435_439.out; have hcz14_0 := bcell BK439 0; have hcz14_1 := bcell BK439 1; have hfz14_0 := blk_frozen BK439.out 0; have hfz14_1 := blk_frozen BK439.out 1) | ((with_reducible refine gate_store (t := 34) (p := 6) rfl ?_); refine store_event (t := 34) (p := 6) (v := ?vo_w15) (w1 := ((w11.setCell ⟨gb439, 0, none⟩ (.int .i64 t436)).setCell ⟨gb439, 1, none⟩ (.int .i64 t437))) ?hg ?ho ?hn ?hr ?_; (case ho => rfl); (case hg => rfl); (case hn => rfl); (case hr => first | (go_simp; done) | (go_simp; rfl)); intro w15 hw; have n0_ : Aside0 (Kd.R k34 34 w15 w0.heap.size (fun k_ => (P0_0_ k_ ∨ w.heap.size ≤ k_) ∧ k_ ≠ gb439) (.slice Ao7 l0_0.length co7) l0_0) := ⟨(by rw [hw]; exact (by (with_reducible repeat apply ru); exact Kd.R_mono (Kd.R_far (p := ⟨gb439, 1, none⟩) (Kd.R_far (p := ⟨gb439, 0, none⟩) (Kd.R_mono HO0_0.out (fun k_ hk => (⟨hk, hk.2⟩ : _ ∧ k_ ≠ gb439))) (fun _ hk => hk.2) (.int .i64 t436)) (fun _ hk => hk.2) (.int .i64 t437)) (fun _ hk => ⟨hk.1.1, hk.1.2⟩)))⟩; have n1_ : Aside0 (w15.heap[gb434]? = some (.cells #[.slice Ao7 l0_0.length co7] 25 (0, 0))) := ⟨(by rw [hw]; exact (by (with_reducible repeat refine bu ?_); refine blk_far ?_ NB434_439.out _; (with_reducible repeat refine bu ?_); refine blk_far ?_ NB434_439.out _; (with_reducible repeat refine bu ?_); exact BK434.out))⟩; have n2_ : Aside0 (w15.heap[gb435]? = some (.cells #[.slice none 0 0] 25 (0, 0))) := ⟨(by rw [hw]; exact (by (with_reducible repeat refine bu ?_); refine blk_far ?_ NB435_439.out _; (with_reducible repeat refine bu ?_); refine blk_far ?_ NB435_439.out _; (with_reducible repeat refine bu ?_); exact BK435.out))⟩; have n3_ : Aside0 (w15.heap[gb439]? = some (.cells #[.int .i64 t436, .int .i64 t437] 34 (0, 0))) := ⟨(by rw [hw]; exact (by (with_reducible repeat refine bu ?_); refine blk_put (cs := #[.int .i64 t436, .int .i64 0]) ?_ 1 _ rfl; (with_reducible repeat refine bu ?_); refine blk_put (cs := #[.int .i64 0, .int .i64 0]) ?_ 0 _ rfl; (with_reducible repeat refine bu ?_); exact BK439.out))⟩; have n4_ : Aside0 (Kept w w15 (fun k_ => P0_0_ k_)) := ⟨(by rw [hw]; exact m16_)⟩; have n5_ : Aside0 (Below w0.heap.size w0 w15) := ⟨(by rw [hw]; exact (bl HB))⟩; clear hw; clear HO0_0; clear BK434; clear BK435; clear BK439; clear HK; clear HB; have HO0_0 := n0_; have BK434 := n1_; have BK435 := n2_; have BK439 := n3_; have HK := n4_; have HB := n5_; clear n0_ n1_ n2_ n3_ n4_ n5_; have hnb16 := NB434_435.out; have hnc16 := NB435_434.out; have hcz17_0 := bcell BK434 0; have hfz17_0 := blk_frozen BK434.out 0; have hcz18_0 := bcell BK439 0; have hcz18_1 := bcell BK439 1; have hfz18_0 := blk_frozen BK439.out 0; have hfz18_1 := blk_frozen BK439.out 1) | ((with_reducible refine gate_callee (f := 80) rfl ?_); refine gL (some 22) Tryz.func80 #[.agg #[.slice Ao7 l0_0.length co7], .agg #[.int .i64 t436, .int .i64 t437]] ?_; (with_reducible refine (spec_l3Put.calls k (fun k_ => some k_ = (.slice Ao7 l0_0.length co7 : Value).ownBlock) (.slice Ao7 l0_0.length co7) l0_0 t436 t437 t440 t443 w0 _ ?side1 ?side2 A5.out).mono ?_); (case side1 => exact m2_); (case side2 => exact Kd.R_tight rfl HO0_0.out); rintro e w19 ⟨v441, rfl, ho0, hb, hkp⟩; refine ⟨_, rfl, ?_⟩; replace BK434 := Aside0.mk (blk_kept (bk BK434) hkp (fun hs_ => (fun e_ => (Kd.R_ne HO0_0.out BK434.out (by decide)) e_) hs_)); replace BK435 := Aside0.mk (blk_kept (bk BK435) hkp (fun hs_ => (fun e_ => (Kd.R_ne HO0_0.out BK435.out (by decide)) e_) hs_)); have HO442 := Aside0.mk (Kd.R_mono (ok' := fun k_ => (P0_0_ k_ ∨ w.heap.size ≤ k_) ∧ k_ ≠ gb439) ho0 (fun k_ hk_ => ⟨Or.elim hk_ (fun hs_ => (HO0_0.out.1 k_ (hs_).symm).1) (fun hn_ => (.inr (Nat.le_trans (by first | exact HK.out.1 | exact (show Kept w _ (fun k_ => P0_0_ k_) from m16_).1) hn_))), Or.elim hk_ (fun hs_ => fun e_ => (Kd.R_away HO0_0.out (fun _ hk => hk.2)) (by rw [← e_]; exact hs_)) (fun hn_ => (Kd.freshB (g := gb439) (o := .cells #[.int .i64 t436, .int .i64 t437] 34 (0, 0)) (bk BK439) k_ hn_))⟩)); replace BK439 := Aside0.mk (blk_kept (bk BK439) hkp (fun hs_ => (fun e_ => (Kd.R_away HO0_0.out (fun _ hk => hk.2)) e_) hs_)); replace HK := Aside0.mk (Kept.then_ (S := (fun k_ => P0_0_ k_)) m16_ hkp (fun k_ hs_ => (fun e_ => (HO0_0.out.1 k_ e_.symm).1) hs_)); replace HB := Aside0.mk hb; clear HO0_0; (try clear hb); (try clear hkp); (try clear ho0)) | ((with_reducible refine gate_dst (N := 8) rfl ?_); refine box_event rfl (N := 8) rfl (cs := #[.slice none 0 0]) (t := 25) hr_ ?_; intro gb444 hg w20 hbox hb; replace HO442 := Aside0.mk (Kd.R_below (rs HO442) hb); have BK444 := Aside0.mk hbox; have GW444 := Aside0.mk ((by rw [hg]; exact (by first | exact HK.out.1 | exact (show Kept w _ (fun k_ => P0_0_ k_) from m16_).1) : w.heap.size ≤ gb444)); replace HK := Aside0.mk (Kept.below (S := (fun k_ => P0_0_ k_)) m16_ hb); have GE444 := gwE HB hg; replace HB := hbS HB hb; have NB434_444 := neL BK434 hg; have NB444_434 := neG BK434 hg; replace BK434 := bkB BK434 hb; have NB435_444 := neL BK435 hg; have NB444_435 := neG BK435 hg; replace BK435 := bkB BK435 hb; have NB439_444 := neL BK439 hg; have NB444_439 := neG BK439 hg; replace BK439 := bkB BK439 hb; clear hb hbox hg; obtain ⟨Ao21, co21, eo21⟩ := Kd.R_slice HO442.out; subst eo21; have hnb22 := NB444_434.out; have hnc22 := NB434_444.out; have hnb23 := NB444_435.out; have hnc23 := NB435_444.out; have hnb24 := NB444_439.out; have hnc24 := NB439_444.out; have hcz25_0 := bcell BK444 0; have hfz25_0 := blk_frozen BK444.out 0; have hcz26_0 := bcell BK435 0; have hfz26_0 := blk_frozen BK435.out 0))
   refine bodyPost_ret (results_ct rfl _ _ gb435 25 #[.slice Ao21 t440.length co21] (0, 0) _ rfl (by (with_reducible repeat refine bu ?_); refine blk_put (cs := #[.slice none 0 0]) ?_ 0 _ rfl; (with_reducible repeat refine bu ?_); refine blk_far ?_ NB435_444.out _; (with_reducible repeat refine bu ?_); exact BK435.out) Tryz.underlying25 rfl (by kernel_rfl)) rfl ?_
   exact ⟨_, fi_, by (with_reducible repeat apply ru); exact Kd.R_mono (Kd.R_far (p := ⟨gb435, 0, none⟩) (Kd.R_far (p := ⟨gb444, 0, none⟩) (Kd.R_types (Kd.R_types HO442.out BK444.out (by decide)) BK435.out (by decide)) (fun _ hk => hk.1.2) (.slice Ao21 t440.length co21)) (fun _ hk => hk.2) (.slice Ao21 t440.length co21)) (fun _ hk => hk.1.1.1), m2_, m16_⟩
  ·rw [if_neg c6] at H
   have c6b0 : (t443 == 0) = false := beq_eq_false_iff_ne.mpr c6
   have c6b1 : (t443 != 0) = true := bne_iff_ne.mpr c6
   replace H := Option.bind_eq_some_iff.mp H
   obtain ⟨t445, A270, H⟩ := H
   try dsimp only at H
   have A27 := Aside0.mk A270
   clear A270
   simp only [Option.some.injEq, Prod.mk.injEq] at H
   obtain ⟨rfl, rfl⟩ := H
   obtain ⟨Ao28, co28, eo28⟩ := Kd.R_slice HO0_0.out
   subst eo28
   go_enter Tryz.func46, Tryz.ntmps46
   try go_wp2_with (first | ((with_reducible refine gate_dst (N := 2) rfl ?_); refine box_event rfl (N := 2) rfl (cs := #[.slice Ao28 l0_0.length co28]) (t := 25) hr_ ?_; intro gb434 hg w29 hbox hb; replace HO0_0 := Aside0.mk (Kd.R_below (rs HO0_0) hb); have BK434 := Aside0.mk hbox; have GW434 := Aside0.mk ((by rw [hg]; exact (by first | exact HK.out.1 | exact (show Kept w _ (fun k_ => P0_0_ k_) from m15_).1) : w.heap.size ≤ gb434)); replace HK := Aside0.mk (Kept.below (S := (fun k_ => P0_0_ k_)) m15_ hb); have GE434 := gwE HB hg; replace HB := hbS HB hb; clear hb hbox hg) | ((with_reducible refine gate_dst (N := 4) rfl ?_); refine box_event rfl (N := 4) rfl (cs := #[.slice none 0 0]) (t := 25) hr_ ?_; intro gb435 hg w30 hbox hb; replace HO0_0 := Aside0.mk (Kd.R_below (rs HO0_0) hb); have BK435 := Aside0.mk hbox; have GW435 := Aside0.mk ((by rw [hg]; exact (by first | exact HK.out.1 | exact (show Kept w _ (fun k_ => P0_0_ k_) from m16_).1) : w.heap.size ≤ gb435)); replace HK := Aside0.mk (Kept.below (S := (fun k_ => P0_0_ k_)) m16_ hb); have GE435 := gwE HB hg; replace HB := hbS HB hb; have NB434_435 := neL BK434 hg; have NB435_434 := neG BK434 hg; replace BK434 := bkB BK434 hb; clear hb hbox hg) | ((with_reducible refine gate_callee (f := 79) rfl ?_); refine gL (some 12) Tryz.func79 #[.string a1] ?_; (with_reducible refine (spec_LinSays.calls k a1 t436 t437 true _ A3.out).mono ?_); rintro e w31 ⟨rfl, hb⟩; refine ⟨_, rfl, ?_⟩; replace HO0_0 := Aside0.mk (Kd.R_below (rs HO0_0) hb); replace BK434 := bkB BK434 hb; replace BK435 := bkB BK435 hb; replace HK := Aside0.mk (Kept.below (S := (fun k_ => P0_0_ k_)) m16_ hb); replace HB := hbS HB hb; (try clear hb)) | ((with_reducible refine gate_dst (N := 6) rfl ?_); refine box_event rfl (N := 6) rfl (cs := #[.int .i64 0, .int .i64 0]) (t := 34) hr_ ?_; intro gb439 hg w32 hbox hb; replace HO0_0 := Aside0.mk (Kd.R_below (Kd.R_elderB (rs HO0_0) gb439 (Nat.le_of_eq hg.symm)) hb); have BK439 := Aside0.mk hbox; have GW439 := Aside0.mk ((by rw [hg]; exact (by first | exact HK.out.1 | exact (show Kept w _ (fun k_ => P0_0_ k_) from m16_).1) : w.heap.size ≤ gb439)); replace HK := Aside0.mk (Kept.below (S := (fun k_ => P0_0_ k_)) m16_ hb); have GE439 := gwE HB hg; replace HB := hbS HB hb; have NB434_439 := neL BK434 hg; have NB439_434 := neG BK434 hg; replace BK434 := bkB BK434 hb; have NB435_439 := neL BK435 hg; have NB439_435 := neG BK435 hg; replace BK435 := bkB BK435 hb; clear hb hbox hg; have hnb33 := NB439_434.out; have hnc33 := NB434_439.out; have hnb34 := NB439_435.out; have hnc34 := NB435_439.out; have hcz35_0 := bcell BK439 0; have hcz35_1 := bcell BK439 1; have hfz35_0 := blk_frozen BK439.out 0; have hfz35_1 := blk_frozen BK439.out 1) | ((with_reducible refine gate_store (t := 34) (p := 6) rfl ?_); refine store_event (t := 34) (p := 6) (v := ?vo_w36) (w1 := ((w32.setCell ⟨gb439, 0, none⟩ (.int .i64 t436)).setCell ⟨gb439, 1, none⟩ (.int .i64 t437))) ?hg ?ho ?hn ?hr ?_; (case ho => rfl); (case hg => rfl); (case hn => rfl); (case hr => first | (go_simp; done) | (go_simp; rfl)); intro w36 hw; have n0_ : Aside0 (Kd.R k34 34 w36 w0.heap.size (fun k_ => (P0_0_ k_ ∨ w.heap.size ≤ k_) ∧ k_ ≠ gb439) (.slice Ao28 l0_0.length co28) l0_0) := ⟨(by rw [hw]; exact (by (with_reducible repeat apply ru); exact Kd.R_mono (Kd.R_far (p := ⟨gb439, 1, none⟩) (Kd.R_far (p := ⟨gb439, 0, none⟩) (Kd.R_mono HO0_0.out (fun k_ hk => (⟨hk, hk.2⟩ : _ ∧ k_ ≠ gb439))) (fun _ hk => hk.2) (.int .i64 t436)) (fun _ hk => hk.2) (.int .i64 t437)) (fun _ hk => ⟨hk.1.1, hk.1.2⟩)))⟩; have n1_ : Aside0 (w36.heap[gb434]? = some (.cells #[.slice Ao28 l0_0.length co28] 25 (0, 0))) := ⟨(by rw [hw]; exact (by (with_reducible repeat refine bu ?_); refine blk_far ?_ NB434_439.out _; (with_reducible repeat refine bu ?_); refine blk_far ?_ NB434_439.out _; (with_reducible repeat refine bu ?_); exact BK434.out))⟩; have n2_ : Aside0 (w36.heap[gb435]? = some (.cells #[.slice none 0 0] 25 (0, 0))) := ⟨(by rw [hw]; exact (by (with_reducible repeat refine bu ?_); refine blk_far ?_ NB435_439.out _; (with_reducible repeat refine bu ?_); refine blk_far ?_ NB435_439.out _; (with_reducible repeat refine bu ?_); exact BK435.out))⟩; have n3_ : Aside0 (w36.heap[gb439]? = some (.cells #[.int .i64 t436, .int .i64 t437] 34 (0, 0))) := ⟨(by rw [hw]; exact (by (with_reducible repeat refine bu ?_); refine blk_put (cs := #[.int .i64 t436, .int .i64 0]) ?_ 1 _ rfl; (with_reducible repeat refine bu ?_); refine blk_put (cs := #[.int .i64 0, .int .i64 0]) ?_ 0 _ rfl; (with_reducible repeat refine bu ?_); exact BK439.out))⟩; have n4_ : Aside0 (Kept w w36 (fun k_ => P0_0_ k_)) := ⟨(by rw [hw]; exact m16_)⟩; have n5_ : Aside0 (Below w0.heap.size w0 w36) := ⟨(by rw [hw]; exact (bl HB))⟩; clear hw; clear HO0_0; clear BK434; clear BK435; clear BK439; clear HK; clear HB; have HO0_0 := n0_; have BK434 := n1_; have BK435 := n2_; have BK439 := n3_; have HK := n4_; have HB := n5_; clear n0_ n1_ n2_ n3_ n4_ n5_; have hnb37 := NB434_435.out; have hnc37 := NB435_434.out; have hcz38_0 := bcell BK434 0; have hfz38_0 := blk_frozen BK434.out 0; have hcz39_0 := bcell BK439 0; have hcz39_1 := bcell BK439 1; have hfz39_0 := blk_frozen BK439.out 0; have hfz39_1 := blk_frozen BK439.out 1) | ((with_reducible refine gate_callee (f := 80) rfl ?_); refine gL (some 22) Tryz.func80 #[.agg #[.slice Ao28 l0_0.length co28], .agg #[.int .i64 t436, .int .i64 t437]] ?_; (with_reducible refine (spec_l3Put.calls k (fun k_ => some k_ = (.slice Ao28 l0_0.length co28 : Value).ownBlock) (.slice Ao28 l0_0.length co28) l0_0 t436 t437 t440 t443 w0 _ ?side1 ?side2 A5.out).mono ?_); (case side1 => exact m2_); (case side2 => exact Kd.R_tight rfl HO0_0.out); rintro e w40 ⟨v441, rfl, ho0, hb, hkp⟩; refine ⟨_, rfl, ?_⟩; replace BK434 := Aside0.mk (blk_kept (bk BK434) hkp (fun hs_ => (fun e_ => (Kd.R_ne HO0_0.out BK434.out (by decide)) e_) hs_)); replace BK435 := Aside0.mk (blk_kept (bk BK435) hkp (fun hs_ => (fun e_ => (Kd.R_ne HO0_0.out BK435.out (by decide)) e_) hs_)); have HO442 := Aside0.mk (Kd.R_mono (ok' := fun k_ => (P0_0_ k_ ∨ w.heap.size ≤ k_) ∧ k_ ≠ gb439) ho0 (fun k_ hk_ => ⟨Or.elim hk_ (fun hs_ => (HO0_0.out.1 k_ (hs_).symm).1) (fun hn_ => (.inr (Nat.le_trans (by first | exact HK.out.1 | exact (show Kept w _ (fun k_ => P0_0_ k_) from m16_).1) hn_))), Or.elim hk_ (fun hs_ => fun e_ => (Kd.R_away HO0_0.out (fun _ hk => hk.2)) (by rw [← e_]; exact hs_)) (fun hn_ => (Kd.freshB (g := gb439) (o := .cells #[.int .i64 t436, .int .i64 t437] 34 (0, 0)) (bk BK439) k_ hn_))⟩)); replace BK439 := Aside0.mk (blk_kept (bk BK439) hkp (fun hs_ => (fun e_ => (Kd.R_away HO0_0.out (fun _ hk => hk.2)) e_) hs_)); replace HK := Aside0.mk (Kept.then_ (S := (fun k_ => P0_0_ k_)) m16_ hkp (fun k_ hs_ => (fun e_ => (HO0_0.out.1 k_ e_.symm).1) hs_)); replace HB := Aside0.mk hb; clear HO0_0; (try clear hb); (try clear hkp); (try clear ho0)) | ((with_reducible refine gate_dst (N := 8) rfl ?_); refine box_event rfl (N := 8) rfl (cs := #[.slice none 0 0]) (t := 25) hr_ ?_; intro gb444 hg w41 hbox hb; replace HO442 := Aside0.mk (Kd.R_below (rs HO442) hb); have BK444 := Aside0.mk hbox; have GW444 := Aside0.mk ((by rw [hg]; exact (by first | exact HK.out.1 | exact (show Kept w _ (fun k_ => P0_0_ k_) from m16_).1) : w.heap.size ≤ gb444)); replace HK := Aside0.mk (Kept.below (S := (fun k_ => P0_0_ k_)) m16_ hb); have GE444 := gwE HB hg; replace HB := hbS HB hb; have NB434_444 := neL BK434 hg; have NB444_434 := neG BK434 hg; replace BK434 := bkB BK434 hb; have NB435_444 := neL BK435 hg; have NB444_435 := neG BK435 hg; replace BK435 := bkB BK435 hb; have NB439_444 := neL BK439 hg; have NB444_439 := neG BK439 hg; replace BK439 := bkB BK439 hb; clear hb hbox hg; obtain ⟨Ao42, co42, eo42⟩ := Kd.R_slice HO442.out; subst eo42; have hnb43 := NB444_434.out; have hnc43 := NB434_444.out; have hnb44 := NB444_435.out; have hnc44 := NB435_444.out; have hnb45 := NB444_439.out; have hnc45 := NB439_444.out; have hcz46_0 := bcell BK444 0; have hfz46_0 := blk_frozen BK444.out 0))
   have n0_ : Aside0 (Kd.R k34 34 (w41.setCell ⟨gb444, 0, none⟩ (.slice Ao42 t440.length co42)) w0.heap.size (fun k_ => (P0_0_ k_ ∨ w.heap.size ≤ k_) ∧ k_ ≠ gb439) (.slice Ao42 t440.length co42) t440) := ⟨by (with_reducible repeat apply ru); exact Kd.R_mono (Kd.R_far (p := ⟨gb444, 0, none⟩) (Kd.R_types HO442.out BK444.out (by decide)) (fun _ hk => hk.2) (.slice Ao42 t440.length co42)) (fun _ hk => ⟨hk.1.1, hk.1.2⟩)⟩
   have n1_ : Aside0 ((w41.setCell ⟨gb444, 0, none⟩ (.slice Ao42 t440.length co42)).heap[gb434]? = some (.cells #[.slice Ao28 l0_0.length co28] 25 (0, 0))) := ⟨by (with_reducible repeat refine bu ?_); refine blk_far ?_ NB434_444.out _; (with_reducible repeat refine bu ?_); exact BK434.out⟩
   have n2_ : Aside0 ((w41.setCell ⟨gb444, 0, none⟩ (.slice Ao42 t440.length co42)).heap[gb435]? = some (.cells #[.slice none 0 0] 25 (0, 0))) := ⟨by (with_reducible repeat refine bu ?_); refine blk_far ?_ NB435_444.out _; (with_reducible repeat refine bu ?_); exact BK435.out⟩
   have n3_ : Aside0 ((w41.setCell ⟨gb444, 0, none⟩ (.slice Ao42 t440.length co42)).heap[gb439]? = some (.cells #[.int .i64 t436, .int .i64 t437] 34 (0, 0))) := ⟨by (with_reducible repeat refine bu ?_); refine blk_far ?_ NB439_444.out _; (with_reducible repeat refine bu ?_); exact BK439.out⟩
   have n4_ : Aside0 ((w41.setCell ⟨gb444, 0, none⟩ (.slice Ao42 t440.length co42)).heap[gb444]? = some (.cells #[.slice Ao42 t440.length co42] 25 (0, 0))) := ⟨by (with_reducible repeat refine bu ?_); refine blk_put (cs := #[.slice none 0 0]) ?_ 0 _ rfl; (with_reducible repeat refine bu ?_); exact BK444.out⟩
   have n5_ : Aside0 (Kept w (w41.setCell ⟨gb444, 0, none⟩ (.slice Ao42 t440.length co42)) (fun k_ => P0_0_ k_)) := ⟨m16_⟩
   have n6_ : Aside0 (Below w0.heap.size w0 (w41.setCell ⟨gb444, 0, none⟩ (.slice Ao42 t440.length co42))) := ⟨m2_⟩
   (try clear HO442)
   (try clear BK434)
   (try clear BK435)
   (try clear BK439)
   (try clear BK444)
   (try clear HK)
   (try clear HB)
   generalize (w41.setCell ⟨gb444, 0, none⟩ (.slice Ao42 t440.length co42)) = w47 at n0_ n1_ n2_ n3_ n4_ n5_ n6_ ⊢
   have HO442 := n0_
   have BK434 := n1_
   have BK435 := n2_
   have BK439 := n3_
   have BK444 := n4_
   have HK := n5_
   have HB := n6_
   clear n0_ n1_ n2_ n3_ n4_ n5_ n6_
   replace HO442 := Aside0.mk (Kd.R_drew HO442.out)
   replace BK434 := Aside0.mk (blk_drew BK434.out)
   replace BK435 := Aside0.mk (blk_drew BK435.out)
   replace BK439 := Aside0.mk (blk_drew BK439.out)
   replace BK444 := Aside0.mk (blk_drew BK444.out)
   replace HK := Aside0.mk (Kept.drew HK.out)
   replace HB := Aside0.mk (below_drew1 HB.out)
   refine start_ (n := 6) (S := fun w' => w'.cell? ⟨gb444, 0, none⟩ = some (.slice Ao42 t440.length co42)) (ds := []) #[false, false, false, false, false, false] (by kernel_rfl) rfl rfl (bcell BK444 0) (fun hHeld => ?_)
   generalize w47.drew = w48 at HO442 BK434 BK435 BK439 BK444 HK HB hHeld ⊢
   refine pu_ 1 (some 29) #[false, true, false, false, false, false] ?_
   refine pu_ 2 (some 30) #[false, true, true, false, false, false] ?_
   refine take_ (i := 0) (N := some 28) (v := ?_) (a' := ?_) #[true, true, true, false, false, false] rfl rfl (by kernel_rfl) (fun _ _ _ h => h) (Or.inl ⟨by rfl, ?_⟩) hHeld ?_ ?_
   rotate_left
   ·intro w' s0
    go_simp
    with_reducible rfl
   rotate_left
   ·simp only [Act.put, List.setIfInBounds_toArray, List.set_cons_zero, List.set_cons_succ, i64_w, i32_w]
    rfl
   refine one_ (i := 3) (N := some 31) #[true, true, true, true, false, false] rfl rfl (by kernel_rfl) (by decide) (fun K hK => ?_)
   refine gR Tryz.func64 #[.agg #[.int .i64 50, .int .i64 t443]] ?_
   with_reducible refine (spec_LinPort.calls k 50 t443 t445 _ A27.out).mono ?_
   rintro e w49 ⟨rfl, hb⟩
   refine ⟨_, rfl, ?_⟩
   replace HO442 := Aside0.mk (Kd.R_below (rs HO442) hb)
   replace BK434 := bkB BK434 hb
   replace BK435 := bkB BK435 hb
   replace BK439 := bkB BK439 hb
   replace BK444 := bkB BK444 hb
   replace HK := Aside0.mk (Kept.below (S := (fun k_ => P0_0_ k_)) m16_ hb)
   replace HB := hbS HB hb
   (try clear hb)
   (try clear hb2)
   (try clear hk)
   (try clear hi)
   refine hK.out _ _ (bcell BK444 0) (fun hHeld => ?_)
   clear hK K
   refine nm_ ?_
   refine one_ (i := 4) (N := none) #[true, true, true, true, true, false] rfl rfl (by kernel_rfl) (by decide) (fun K hK => ?_)
   have hs50 : w49.cell? ⟨gb435, 0, none⟩ = some (.slice none 0 0) := bcell BK435 0
   have hfs50 := blk_frozen BK435.out 0
   have hns50_0 := NB434_435.out
   have hns50_2 := NB439_435.out
   have hns50_3 := NB444_435.out
   have hms50_0 := NB435_434.out
   have hms50_2 := NB435_439.out
   have hms50_3 := NB435_444.out
   refine skip_ (w1 := ?_) (by rfl) rfl ?_ ?_
   rotate_left
   ·go_simp
    rfl
   refine hK.out _ _ (((cell_far (p := ⟨gb435, _, none⟩) NB444_435.out _).trans (hHeld))) (fun hHeld => ?_)
   clear hK K
   refine pu_ 5 (some 5) #[true, true, true, true, true, true] ?_
   refine done_ (by kernel_rfl) ?_
   try go_wp2
   refine bodyPost_ret (results_ct rfl _ _ gb435 25 #[.slice Ao42 t440.length co42] (0, 0) _ rfl (by (with_reducible repeat refine bu ?_); refine blk_put (cs := #[.slice none 0 0]) ?_ 0 _ rfl; (with_reducible repeat refine bu ?_); exact BK435.out) Tryz.underlying25 rfl (by kernel_rfl)) rfl ?_
   exact ⟨_, fi_, by (with_reducible repeat apply ru); exact Kd.R_mono (Kd.R_far (p := ⟨gb435, 0, none⟩) (Kd.R_types HO442.out BK435.out (by decide)) (fun _ hk => hk.2) (.slice Ao42 t440.length co42)) (fun _ hk => hk.1.1), m2_, m16_⟩
 ·replace c4 := Bool.eq_false_iff.mpr c4
  subst c4
  have H1 : (some (l0_0, a1)) = some (r1, r2) := by rw [if_neg (show ¬ (false = true) by decide)] at H; exact H
  clear H
  have H := H1
  clear H1
  simp only [Option.some.injEq, Prod.mk.injEq] at H
  obtain ⟨rfl, rfl⟩ := H
  obtain ⟨Ao51, co51, eo51⟩ := Kd.R_slice HO0_0.out
  subst eo51
  go_enter Tryz.func46, Tryz.ntmps46
  go_wp2_with (first | ((with_reducible refine gate_dst (N := 2) rfl ?_); refine box_event rfl (N := 2) rfl (cs := #[.slice Ao51 l0_0.length co51]) (t := 25) hr_ ?_; intro gb434 hg w52 hbox hb; replace HO0_0 := Aside0.mk (Kd.R_below (rs HO0_0) hb); have BK434 := Aside0.mk hbox; have GW434 := Aside0.mk ((by rw [hg]; exact (by first | exact HK.out.1 | exact (show Kept w _ (fun k_ => P0_0_ k_) from m15_).1) : w.heap.size ≤ gb434)); replace HK := Aside0.mk (Kept.below (S := (fun k_ => P0_0_ k_)) m15_ hb); have GE434 := gwE HB hg; replace HB := hbS HB hb; clear hb hbox hg) | ((with_reducible refine gate_dst (N := 4) rfl ?_); refine box_event rfl (N := 4) rfl (cs := #[.slice none 0 0]) (t := 25) hr_ ?_; intro gb435 hg w53 hbox hb; replace HO0_0 := Aside0.mk (Kd.R_below (rs HO0_0) hb); have BK435 := Aside0.mk hbox; have GW435 := Aside0.mk ((by rw [hg]; exact (by first | exact HK.out.1 | exact (show Kept w _ (fun k_ => P0_0_ k_) from m16_).1) : w.heap.size ≤ gb435)); replace HK := Aside0.mk (Kept.below (S := (fun k_ => P0_0_ k_)) m16_ hb); have GE435 := gwE HB hg; replace HB := hbS HB hb; have NB434_435 := neL BK434 hg; have NB435_434 := neG BK434 hg; replace BK434 := bkB BK434 hb; clear hb hbox hg) | ((with_reducible refine gate_callee (f := 79) rfl ?_); refine gL (some 12) Tryz.func79 #[.string a1] ?_; (with_reducible refine (spec_LinSays.calls k a1 t436 t437 false _ A3.out).mono ?_); rintro e w54 ⟨rfl, hb⟩; refine ⟨_, rfl, ?_⟩; replace HO0_0 := Aside0.mk (Kd.R_below (rs HO0_0) hb); replace BK434 := bkB BK434 hb; replace BK435 := bkB BK435 hb; replace HK := Aside0.mk (Kept.below (S := (fun k_ => P0_0_ k_)) m16_ hb); replace HB := hbS HB hb; (try clear hb)) | ((with_reducible refine gate_dst (N := 6) rfl ?_); refine box_event rfl (N := 6) rfl (cs := #[.int .i64 0, .int .i64 0]) (t := 34) hr_ ?_; intro gb439 hg w55 hbox hb; replace HO0_0 := Aside0.mk (Kd.R_below (Kd.R_elderB (rs HO0_0) gb439 (Nat.le_of_eq hg.symm)) hb); have BK439 := Aside0.mk hbox; have GW439 := Aside0.mk ((by rw [hg]; exact (by first | exact HK.out.1 | exact (show Kept w _ (fun k_ => P0_0_ k_) from m16_).1) : w.heap.size ≤ gb439)); replace HK := Aside0.mk (Kept.below (S := (fun k_ => P0_0_ k_)) m16_ hb); have GE439 := gwE HB hg; replace HB := hbS HB hb; have NB434_439 := neL BK434 hg; have NB439_434 := neG BK434 hg; replace BK434 := bkB BK434 hb; have NB435_439 := neL BK435 hg; have NB439_435 := neG BK435 hg; replace BK435 := bkB BK435 hb; clear hb hbox hg; have hnb56 := NB439_434.out; have hnc56 := NB434_439.out; have hnb57 := NB439_435.out; have hnc57 := NB435_439.out; have hcz58_0 := bcell BK439 0; have hcz58_1 := bcell BK439 1; have hfz58_0 := blk_frozen BK439.out 0; have hfz58_1 := blk_frozen BK439.out 1; have hnb59 := NB434_435.out; have hnc59 := NB435_434.out; have hcz60_0 := bcell BK434 0; have hfz60_0 := blk_frozen BK434.out 0; have hcz61_0 := bcell BK435 0; have hfz61_0 := blk_frozen BK435.out 0))
  refine bodyPost_ret (results_ct rfl _ _ gb435 25 #[.slice Ao51 l0_0.length co51] (0, 0) _ rfl (by (with_reducible repeat refine bu ?_); refine blk_put (cs := #[.slice none 0 0]) ?_ 0 _ rfl; (with_reducible repeat refine bu ?_); refine blk_far ?_ NB435_439.out _; (with_reducible repeat refine bu ?_); refine blk_far ?_ NB435_439.out _; (with_reducible repeat refine bu ?_); exact BK435.out) Tryz.underlying25 rfl (by kernel_rfl)) rfl ?_
  exact ⟨_, fi_, by (with_reducible repeat apply ru); exact Kd.R_mono (Kd.R_far (p := ⟨gb435, 0, none⟩) (Kd.R_far (p := ⟨gb439, 1, none⟩) (Kd.R_far (p := ⟨gb439, 0, none⟩) (Kd.R_types (Kd.R_mono HO0_0.out (fun k_ hk => (⟨hk, hk.2⟩ : _ ∧ k_ ≠ gb439))) BK435.out (by decide)) (fun _ hk => hk.1.2) (.int .i64 t436)) (fun _ hk => hk.1.2) (.int .i64 t437)) (fun _ hk => hk.2) (.slice Ao51 l0_0.length co51)) (fun _ hk => hk.1.1.1), m2_, m16_⟩
def spec_RwrLine.j0 : Nat → ByteArray → Bool → List (S34) → Option ((List (S34)) × ByteArray)
 | 0, _, _, _ => none
 | k + 1, x1, x13, x447000 => if x13 = true then (some (([] : List (S34)), (⟨#[]⟩ : ByteArray))) else ((spec_l3Copy.f x447000).bind fun t450 => ((spec_l3Line.f k t450 x1).bind fun bt453 => (some (bt453.1, bt453.2))))
def spec_RwrLine.f (k : Nat) (l0_0 : List (S34)) (a1 : ByteArray) : Option ((List (S34)) × ByteArray) := (spec_MapOk.f k l0_0).bind fun t448 => (if t448 = true then ((spec_LinOk.f k a1).bind fun t449 => (spec_RwrLine.j0 k a1 (!t449) l0_0)) else (spec_RwrLine.j0 k a1 true l0_0))
theorem spec_RwrLine.mono_l : ∀ k, (∀ y0 y1 y2, LeO (spec_RwrLine.j0 k y0 y1 y2) (spec_RwrLine.j0 (k + 1) y0 y1 y2))
 | 0 => fun _ _ _ r h => by simp [spec_RwrLine.j0] at h
 | k + 1 => by
  have ih0 := spec_RwrLine.mono_l k
  ·intro y0 y1 y2
   unfold spec_RwrLine.j0
   repeat' first | (with_reducible first | exact ih0 _ _ _ | exact spec_LinOk.mono _ _ | exact spec_MapOk.mono _ _ | exact spec_l3Line.mono _ _ _ | exact LeO.refl _ | exact LeO.none _ | refine LeO.ite ?_ ?_ | refine LeO.bind ?_ (fun _ => ?_)) | exact ih0 _ _ _ | exact spec_LinOk.mono _ _ | exact spec_MapOk.mono _ _ | exact spec_l3Line.mono _ _ _ | exact LeO.none _ | refine LeO.ite ?_ ?_ | refine LeO.bind ?_ (fun _ => ?_)
theorem spec_RwrLine.mono : ∀ a0 a1 k, LeO (spec_RwrLine.f k a0 a1) (spec_RwrLine.f (k + 1) a0 a1) := by
 intro a0 a1 k
 have ih0 := spec_RwrLine.mono_l k
 unfold spec_RwrLine.f
 repeat' first | (with_reducible first | exact ih0 _ _ _ | exact spec_LinOk.mono _ _ | exact spec_MapOk.mono _ _ | exact spec_l3Line.mono _ _ _ | exact LeO.refl _ | exact LeO.none _ | refine LeO.ite ?_ ?_ | refine LeO.bind ?_ (fun _ => ?_)) | exact ih0 _ _ _ | exact spec_LinOk.mono _ _ | exact spec_MapOk.mono _ _ | exact spec_l3Line.mono _ _ _ | exact LeO.none _ | refine LeO.ite ?_ ?_ | refine LeO.bind ?_ (fun _ => ?_)
set_option maxHeartbeats 8000000 in
set_option maxRecDepth 100000 in
theorem spec_RwrLine.calls (k : Nat) (A0_0 : Option Addr) (c0_0 : Nat) (l0_0 : List (S34)) (a1 : ByteArray) (r1 : List (S34)) (r2 : ByteArray) (w : World) (hr0_0 : Kd.C k34 w A0_0 l0_0.length l0_0) (hc0_0 : l0_0.length ≤ c0_0) (h : spec_RwrLine.f k l0_0 a1 = some (r1, r2)) :
  Calls Tryz.prog 14 #[.agg #[.slice A0_0 l0_0.length c0_0], .string a1] w fun e w' => ∃ v0_ : Value, e = .returned (.tuple #[.agg #[v0_], .string r2]) ∧ Kd.R k34 34 w' w.heap.size (fun _ => True) v0_ r1 ∧ Below w.heap.size w w' := by
 have hu25 := Tryz.underlying25
 have HR0_0 := Aside0.mk hr0_0
 have HC0_0 := Aside0.mk hc0_0
 clear hr0_0 hc0_0
 have HB := Aside0.mk (Below.refl w.heap.size w)
 have H : ((spec_MapOk.f k l0_0).bind fun t448 => (if t448 = true then ((spec_LinOk.f k a1).bind fun t449 => (spec_RwrLine.j0 k a1 (!t449) l0_0)) else (spec_RwrLine.j0 k a1 true l0_0))) = some (r1, r2) := h
 clear h
 have HC3 := Aside0.mk H
 clear H
 go_enter Tryz.func14, Tryz.ntmps14
 go_upto_region 1 with (first | ((with_reducible refine gate_dst (N := 2) rfl ?_); refine box_event rfl (N := 2) rfl (cs := #[.slice A0_0 l0_0.length c0_0]) (t := 25) hr_ ?_; intro gb446 hg w4 hbox hb; have BK446 := Aside0.mk hbox; have GW446 := gwE HB hg; have GE446 := gwE HB hg; replace HB := hbS HB hb; clear hb hbox hg) | ((with_reducible refine gate_dst (N := 4) rfl ?_); refine box_event rfl (N := 4) rfl (cs := #[.slice none 0 0]) (t := 25) hr_ ?_; intro gb447 hg w5 hbox hb; have BK447 := Aside0.mk hbox; have GW447 := gwE HB hg; have GE447 := gwE HB hg; replace HB := hbS HB hb; have NB446_447 := neL BK446 hg; have NB447_446 := neG BK446 hg; replace BK446 := bkB BK446 hb; clear hb hbox hg))
 (try simp only [Act.put, List.setIfInBounds_toArray, List.set_cons_zero, List.set_cons_succ])
 go_cut [13] (fun v13 wc => ∃ (kq : Nat) (x13_2 : Bool), v13 = .bool x13_2 ∧ Aside0 (spec_RwrLine.j0 kq a1 x13_2 l0_0 = some (r1, r2)) ∧ Aside0 (kq ≤ k) ∧ Aside0 (wc.heap[gb446]? = some (.cells #[(.slice A0_0 l0_0.length c0_0)] 25 (0, 0))) ∧ Aside0 (wc.heap[gb447]? = some (.cells #[(.slice none 0 0)] 25 (0, 0))) ∧ Aside0 (Below w.heap.size w wc))
 case first =>
  have H := HC3.out
  clear HC3
  replace H := Option.bind_eq_some_iff.mp H
  obtain ⟨t448, A60, H⟩ := H
  try dsimp only at H
  have A6 := Aside0.mk A60
  clear A60
  by_cases c7 : t448 = true
  ·subst c7
   have H1 : ((spec_LinOk.f k a1).bind fun t449 => (spec_RwrLine.j0 k a1 (!t449) l0_0)) = some (r1, r2) := by rw [if_pos rfl] at H; exact H
   clear H
   have H := H1
   clear H1
   replace H := Option.bind_eq_some_iff.mp H
   obtain ⟨t449, A80, H⟩ := H
   try dsimp only at H
   have A8 := Aside0.mk A80
   clear A80
   have H' := Aside0.mk H
   clear H
   have hnb9 := NB446_447.out
   have hnc9 := NB447_446.out
   have hcz10_0 := bcell BK446 0
   have hfz10_0 := blk_frozen BK446.out 0
   go_wp2_with (first | ((with_reducible refine gate_callee (f := 16) rfl ?_); refine gL (some 7) Tryz.func16 #[.agg #[.slice A0_0 l0_0.length c0_0]] ?_; (with_reducible refine (spec_MapOk.calls k _ _ l0_0 true _ ?side1 ?side2 A6.out).mono ?_); (case side1 => exact m4_); (case side2 => exact HC0_0.out); rintro e w11 ⟨rfl, hb⟩; refine ⟨_, rfl, ?_⟩; replace BK446 := bkB BK446 hb; replace BK447 := bkB BK447 hb; replace HB := hbS HB hb; (try clear hb)) | (go_at_call 17; (with_reducible refine (spec_LinOk.calls k a1 t449 _ A8.out).mono ?_); rintro e w' ⟨rfl, ⟨nd, rfl⟩⟩))
   go_meet
   case rel => exact ⟨_, (!t449), rs_, H', ⟨by first | omega | exact Nat.le_refl _⟩, ⟨bk BK446⟩, ⟨bk BK447⟩, ⟨m2_⟩⟩
  ·replace c7 := Bool.eq_false_iff.mpr c7
   subst c7
   have H1 : (spec_RwrLine.j0 k a1 true l0_0) = some (r1, r2) := by rw [if_neg (show ¬ (false = true) by decide)] at H; exact H
   clear H
   have H := H1
   clear H1
   have H' := Aside0.mk H
   clear H
   have hnb12 := NB446_447.out
   have hnc12 := NB447_446.out
   have hcz13_0 := bcell BK446 0
   have hfz13_0 := blk_frozen BK446.out 0
   go_wp2_with (first | ((with_reducible refine gate_callee (f := 16) rfl ?_); refine gL (some 7) Tryz.func16 #[.agg #[.slice A0_0 l0_0.length c0_0]] ?_; (with_reducible refine (spec_MapOk.calls k _ _ l0_0 false _ ?side1 ?side2 A6.out).mono ?_); (case side1 => exact m4_); (case side2 => exact HC0_0.out); rintro e w14 ⟨rfl, hb⟩; refine ⟨_, rfl, ?_⟩; replace BK446 := bkB BK446 hb; replace BK447 := bkB BK447 hb; replace HB := hbS HB hb; (try clear hb)))
   go_meet
   case rel => exact ⟨_, (true), rs_, H', ⟨by first | omega | exact Nat.le_refl _⟩, ⟨bk BK446⟩, ⟨bk BK447⟩, ⟨m2_⟩⟩
 case rest =>
  clear HC3
  try clear c1
  try clear p2
  try clear c7
  try clear c9
  try clear c12
  try clear c14
  try clear hcz10_0
  try clear hcz13_0
  try clear hfz10_0
  try clear hfz13_0
  obtain ⟨kq, x13_2, rfl, HA, HJ2, BK446, BK447, HB⟩ := hcut
  cases kq with
  | zero => exact absurd HA.out (by simp [spec_RwrLine.j0])
  | succ kj2 =>
   have H := HA.out
   clear HA
   simp only [spec_RwrLine.j0] at H
   by_cases c15 : x13_2 = true
   ·subst c15
    have H1 : (some (([] : List (S34)), (⟨#[]⟩ : ByteArray))) = some (r1, r2) := by rw [if_pos rfl] at H; exact H
    clear H
    have H := H1
    clear H1
    simp only [Option.some.injEq, Prod.mk.injEq] at H
    obtain ⟨rfl, rfl⟩ := H
    have hnb16 := NB447_446.out
    have hnc16 := NB446_447.out
    have hcz17_0 := bcell BK447 0
    have hfz17_0 := blk_frozen BK447.out 0
    go_wp2
    refine bodyPost_ret (results_ct rfl _ _ gb447 25 #[.slice none 0 0] (0, 0) _ rfl (by (with_reducible repeat refine bu ?_); refine blk_put (cs := #[.slice none 0 0]) ?_ 0 _ rfl; (with_reducible repeat refine bu ?_); exact BK447.out) Tryz.underlying25 rfl (by kernel_rfl)) rfl ?_
    exact ⟨_, fi_, by first | exact Kd.R_nil _ _ _ _ _ | exact Kd.N_nil _ _ _ _ _ | exact Kd.V_nil _ _ _ _ _ | exact Kd.Q_nil _ _ _ _ _ | exact Kd.S_nil _ _ _ _ _, m2_⟩
   ·replace c15 := Bool.eq_false_iff.mpr c15
    subst c15
    have H1 : ((spec_l3Copy.f l0_0).bind fun t450 => ((spec_l3Line.f kj2 t450 a1).bind fun bt453 => (some (bt453.1, bt453.2)))) = some (r1, r2) := by rw [if_neg (show ¬ (false = true) by decide)] at H; exact H
    clear H
    have H := H1
    clear H1
    replace H := Option.bind_eq_some_iff.mp H
    obtain ⟨t450, A180, H⟩ := H
    try dsimp only at H
    have A18 := Aside0.mk A180
    clear A180
    replace H := Option.bind_eq_some_iff.mp H
    obtain ⟨⟨t453, t456⟩, A190, H⟩ := H
    try dsimp only at H
    have A19 := Aside0.mk A190
    clear A190
    simp only [Option.some.injEq, Prod.mk.injEq] at H
    obtain ⟨rfl, rfl⟩ := H
    have hnb20 := NB446_447.out
    have hnc20 := NB447_446.out
    have hcz21_0 := bcell BK446 0
    have hfz21_0 := blk_frozen BK446.out 0
    go_wp2_with (first | ((with_reducible refine gate_callee (f := 47) rfl ?_); refine gL (some 16) Tryz.func47 #[.agg #[.slice A0_0 l0_0.length c0_0]] ?_; (with_reducible refine (spec_l3Copy.calls _ _ l0_0 t450 _ ?side1 ?side2 A18.out).mono ?_); (case side1 => exact m4_); (case side2 => exact HC0_0.out); rintro e w22 ⟨v451, rfl, ho0, hb⟩; refine ⟨_, rfl, ?_⟩; have HO452 := Aside0.mk (Kd.R_lower ho0 (below_size (bl HB))); replace BK446 := bkB BK446 hb; replace BK447 := bkB BK447 hb; replace HB := hbS HB hb; (try clear hb); (try clear ho0); obtain ⟨Ao23, co23, eo23⟩ := Kd.R_slice HO452.out; subst eo23) | ((with_reducible refine gate_callee (f := 46) rfl ?_); refine gL (some 18) Tryz.func46 #[.agg #[.slice Ao23 t450.length co23], .string a1] ?_; (with_reducible refine (spec_l3Line.calls kj2 (fun k_ => some k_ = (.slice Ao23 t450.length co23 : Value).ownBlock) (.slice Ao23 t450.length co23) t450 a1 t453 t456 w _ ?side1 ?side2 A19.out).mono ?_); (case side1 => exact m2_); (case side2 => exact Kd.R_tight rfl HO452.out); rintro e w24 ⟨v454, rfl, ho0, hb, hkp⟩; refine ⟨_, rfl, ?_⟩; replace BK446 := Aside0.mk (blk_kept (bk BK446) hkp (fun hs_ => (fun e_ => (Kd.R_ne HO452.out BK446.out (by decide)) e_) hs_)); replace BK447 := Aside0.mk (blk_kept (bk BK447) hkp (fun hs_ => (fun e_ => (Kd.R_ne HO452.out BK447.out (by decide)) e_) hs_)); have HO455 := Aside0.mk (Kd.R_mono (ok' := fun k_ => True) ho0 (fun k_ hk_ => trivial)); replace HB := Aside0.mk hb; clear HO452; (try clear hb); (try clear hkp); (try clear ho0); obtain ⟨Ao25, co25, eo25⟩ := Kd.R_slice HO455.out; subst eo25; have hcz26_0 := bcell BK447 0; have hfz26_0 := blk_frozen BK447.out 0))
    refine bodyPost_ret (results_ct rfl _ _ gb447 25 #[.slice Ao25 t453.length co25] (0, 0) _ rfl (by (with_reducible repeat refine bu ?_); refine blk_put (cs := #[.slice none 0 0]) ?_ 0 _ rfl; (with_reducible repeat refine bu ?_); exact BK447.out) Tryz.underlying25 rfl (by kernel_rfl)) rfl ?_
    exact ⟨_, fi_, by (with_reducible repeat apply ru); exact Kd.R_mono (Kd.R_far (p := ⟨gb447, 0, none⟩) (Kd.R_types HO455.out BK447.out (by decide)) (fun _ hk => hk.2) (.slice Ao25 t453.length co25)) (fun _ hk => trivial), m2_⟩
end Go.Proofs.YtffmbccgcaghjaaGreatDoor.P
namespace Go.Proofs.YtffmbccgcaghjaaGreatDoor.P
open Go.RowKit Go.Proofs.YtffmbccgcaghjaaGreatDoorUFnBakRwr.PrintWords Go.Proofs.YtffmbccgcaghjaaGreatDoorUFnBakRwr.PrintLast Go.Proofs.YtffmbccgcaghjaaGreatDoorUFnBakRwr.PrintMore
attribute [local go_sem] max2_int min2_int max_two min_two max_three min_three max_four min_four
set_option linter.unusedVariables false
set_option linter.unusedSimpArgs false
attribute [local go_sem high] eqA34
def laws_haEnds.l0 : Nat → List (S34) → List (S34) → Int → Option (Bool)
 | 0, _, _, _ => none
 | k + 1, x0, x1, x5 => if x5 < (x0.length : Int) then (if 0 ≤ x5 then (if x5 < (x1.length : Int) then (if (!(((rd_T34 x0 x5).f0) == ((rd_T34 x1 x5).f0)) || (!(((rd_T34 x0 x5).f1) == ((rd_T34 x1 x5).f1)))) = true then (some false) else (laws_haEnds.l0 k x0 x1 (wrap64 (x5 + 1)))) else (none)) else (none)) else (some true)
def laws_haEnds.f (k : Nat) (l0 : List (S34)) (l1 : List (S34)) : Option (Bool) := if (l0.length : Int) = (l1.length : Int) then (laws_haEnds.l0 k l0 l1 0) else (some false)
theorem laws_haEnds.mono_l : ∀ k, (∀ y0 y1 y2, LeO (laws_haEnds.l0 k y0 y1 y2) (laws_haEnds.l0 (k + 1) y0 y1 y2))
 | 0 => fun _ _ _ r h => by simp [laws_haEnds.l0] at h
 | k + 1 => by
  have ih0 := laws_haEnds.mono_l k
  ·intro y0 y1 y2
   unfold laws_haEnds.l0
   repeat' first | (with_reducible first | exact ih0 _ _ _ | exact LeO.refl _ | exact LeO.none _ | refine LeO.ite ?_ ?_ | refine LeO.bind ?_ (fun _ => ?_)) | exact ih0 _ _ _ | exact LeO.none _ | refine LeO.ite ?_ ?_ | refine LeO.bind ?_ (fun _ => ?_)
theorem laws_haEnds.mono : ∀ a0 a1 k, LeO (laws_haEnds.f k a0 a1) (laws_haEnds.f (k + 1) a0 a1) := by
 intro a0 a1 k
 have ih0 := laws_haEnds.mono_l k
 unfold laws_haEnds.f
 repeat' first | (with_reducible first | exact ih0 _ _ _ | exact LeO.refl _ | exact LeO.none _ | refine LeO.ite ?_ ?_ | refine LeO.bind ?_ (fun _ => ?_)) | exact ih0 _ _ _ | exact LeO.none _ | refine LeO.ite ?_ ?_ | refine LeO.bind ?_ (fun _ => ?_)
set_option maxHeartbeats 8000000 in
set_option maxRecDepth 100000 in
theorem laws_haEnds.calls (k : Nat) (A0 : Option Addr) (c0 : Nat) (l0 : List (S34)) (A1 : Option Addr) (c1 : Nat) (l1 : List (S34)) (r : Bool) (w : World) (hr0 : Kd.C k34 w A0 l0.length l0) (hc0 : l0.length ≤ c0) (hr1 : Kd.C k34 w A1 l1.length l1) (hc1 : l1.length ≤ c1) (h : laws_haEnds.f k l0 l1 = some r) :
  Calls Tryz.prog 15 #[.slice A0 l0.length c0, .slice A1 l1.length c1] w fun e w' => e = .returned (.bool r) ∧ Drawn0 w w' := by
 have hu34 := Tryz.underlying34
 have HR0 := Aside0.mk hr0
 have HC0 := Aside0.mk hc0
 clear hr0 hc0
 have HR1 := Aside0.mk hr1
 have HC1 := Aside0.mk hc1
 clear hr1 hc1
 have H : (if (l0.length : Int) = (l1.length : Int) then (laws_haEnds.l0 k l0 l1 0) else (some false)) = some r := h
 clear h
 by_cases c3 : (l0.length : Int) = (l1.length : Int)
 ·rw [if_pos c3] at H
  have c3b0 : ((l0.length : Int) == (l1.length : Int)) = true := beq_iff_eq.mpr c3
  have c3b1 : ((l0.length : Int) != (l1.length : Int)) = false := bne_eq_false_iff_eq.mpr c3
  have c3b2 : (l0.length == l1.length) = true := by first | simpa using c3 | (simp at c3 ⊢; omega)
  clear c3
  have H' := Aside0.mk H
  clear H
  go_enter Tryz.func15, Tryz.ntmps15
  go_wp2
  repeat (go_quiet (fail); try go_wp2)
  go_loopg [5] k (fun kq v5 w' => ∃ (x5_1 : Int), v5 = .int .i64 x5_1 ∧ Aside0 (laws_haEnds.l0 kq l0 l1 x5_1 = some r) ∧ Aside0 (kq ≤ k) ∧ Drawn0 w w')
  case atStart => exact ⟨(0), rs_, H', ⟨Nat.le_refl _⟩, by repeat (first | exact Drawn0.refl _ | apply Drawn0.step)⟩
  case round =>
   clear H'
   try clear c1
   try clear p2
   try clear c3
   try clear c3b0
   try clear c3b1
   try clear c3b2
   obtain ⟨x5_1, rfl, HA, HK1, ⟨m1, rfl⟩⟩ := hrel
   cases gk with
   | zero => exact absurd HA.out (by simp [laws_haEnds.l0])
   | succ k1 =>
    have H := HA.out
    clear HA
    simp only [laws_haEnds.l0] at H
    by_cases c4 : x5_1 < (l0.length : Int)
    ·rw [if_pos c4] at H
     have c4b0 : decide (x5_1 < (l0.length : Int)) = true := decide_eq_true c4
     clear c4
     by_cases c5 : 0 ≤ x5_1
     ·rw [if_pos c5] at H
      have c5b0 : decide (0 ≤ x5_1) = true := decide_eq_true c5
      clear c5
      by_cases c6 : x5_1 < (l1.length : Int)
      ·rw [if_pos c6] at H
       have c6b0 : decide (x5_1 < (l1.length : Int)) = true := decide_eq_true c6
       clear c6
       by_cases c7 : (!(((rd_T34 l0 x5_1).f0) == ((rd_T34 l1 x5_1).f0)) || (!(((rd_T34 l0 x5_1).f1) == ((rd_T34 l1 x5_1).f1)))) = true
       ·rw [if_pos c7] at H
        have c7b0 : (!(((rd_T34 l0 x5_1).f0) == ((rd_T34 l1 x5_1).f0)) || (!(((rd_T34 l0 x5_1).f1) == ((rd_T34 l1 x5_1).f1)))) = true := c7
        clear c7
        obtain rfl := Option.some.inj H
        have p457 : 0 ≤ (x5_1 : Int) := of_decide_eq_true da_
        have q457 : x5_1 < (l0.length : Int) := of_decide_eq_true da_
        obtain ⟨ad457, e457, hx457_0, hx457_1⟩ := at_T34 HR0.out x5_1 p457 q457
        cases e457
        replace p457 := eq_true p457
        replace q457 := eq_true q457
        have p458 : 0 ≤ (x5_1 : Int) := of_decide_eq_true da_
        have q458 : x5_1 < (l1.length : Int) := of_decide_eq_true da_
        obtain ⟨ad458, e458, hx458_0, hx458_1⟩ := at_T34 HR1.out x5_1 p458 q458
        cases e458
        replace p458 := eq_true p458
        replace q458 := eq_true q458
        go_wp2
        repeat (go_quiet (fail); try go_wp2)
        go_ret
        exact ⟨by first | rfl | (simp; done) | (simp [*]; done), by repeat (first | exact Drawn0.refl _ | apply Drawn0.step)⟩
       ·rw [if_neg c7] at H
        have c7b0 : (!(((rd_T34 l0 x5_1).f0) == ((rd_T34 l1 x5_1).f0)) || (!(((rd_T34 l0 x5_1).f1) == ((rd_T34 l1 x5_1).f1)))) = false := by simpa using c7
        clear c7
        have H' := Aside0.mk H
        clear H
        have p457 : 0 ≤ (x5_1 : Int) := of_decide_eq_true da_
        have q457 : x5_1 < (l0.length : Int) := of_decide_eq_true da_
        obtain ⟨ad457, e457, hx457_0, hx457_1⟩ := at_T34 HR0.out x5_1 p457 q457
        cases e457
        replace p457 := eq_true p457
        replace q457 := eq_true q457
        have p458 : 0 ≤ (x5_1 : Int) := of_decide_eq_true da_
        have q458 : x5_1 < (l1.length : Int) := of_decide_eq_true da_
        obtain ⟨ad458, e458, hx458_0, hx458_1⟩ := at_T34 HR1.out x5_1 p458 q458
        cases e458
        replace p458 := eq_true p458
        replace q458 := eq_true q458
        go_wp2
        repeat (go_quiet (fail); try go_wp2)
        go_roundg k1
        case measure => have := HK1.out; omega
        case rel => exact ⟨(wrap64 (x5_1 + 1)), rs_, H', ⟨by have := HK1.out; omega⟩, by repeat (first | exact Drawn0.refl _ | apply Drawn0.step)⟩
      ·rw [if_neg c6] at H
       exact absurd H (by simp)
     ·rw [if_neg c5] at H
      exact absurd H (by simp)
    ·rw [if_neg c4] at H
     have c4b0 : decide (x5_1 < (l0.length : Int)) = false := decide_eq_false c4
     clear c4
     obtain rfl := Option.some.inj H
     go_wp2
     repeat (go_quiet (fail); try go_wp2)
     go_ret
     exact ⟨by first | rfl | (simp; done) | (simp [*]; done), by repeat (first | exact Drawn0.refl _ | apply Drawn0.step)⟩
 ·rw [if_neg c3] at H
  have c3b0 : ((l0.length : Int) == (l1.length : Int)) = false := beq_eq_false_iff_ne.mpr c3
  have c3b1 : ((l0.length : Int) != (l1.length : Int)) = true := bne_iff_ne.mpr c3
  have c3b2 : (l0.length == l1.length) = false := by first | simpa using c3 | (simp at c3 ⊢; omega)
  obtain rfl := Option.some.inj H
  go_enter Tryz.func15, Tryz.ntmps15
  go_wp2
  repeat (go_quiet (fail); try go_wp2)
  go_ret
  exact ⟨by first | rfl | (simp; done) | (simp [*]; done), by repeat (first | exact Drawn0.refl _ | apply Drawn0.step)⟩
end Go.Proofs.YtffmbccgcaghjaaGreatDoor.P
namespace Go.Proofs.YtffmbccgcaghjaaGreatDoor.P
open Go.RowKit Go.Proofs.YtffmbccgcaghjaaGreatDoorUFnBakRwr.PrintWords Go.Proofs.YtffmbccgcaghjaaGreatDoorUFnBakRwr.PrintLast Go.Proofs.YtffmbccgcaghjaaGreatDoorUFnBakRwr.PrintMore
attribute [local go_sem] max2_int min2_int max_two min_two max_three min_three max_four min_four
set_option linter.unusedVariables false
set_option linter.unusedSimpArgs false
def laws_haOk.f  : Option (Bool) := (impl_LinOk.f (⟨#[97]⟩ : ByteArray)).bind fun t459 => (some t459)
set_option maxHeartbeats 8000000 in
set_option maxRecDepth 100000 in
theorem laws_haOk.calls  (r : Bool) (w : World) (h : laws_haOk.f  = some r) :
  Calls Tryz.prog 18 #[] w fun e w' => e = .returned (.bool r) ∧ Below w.heap.size w w' := by
 have HB := Aside0.mk (Below.refl w.heap.size w)
 have H : ((impl_LinOk.f (⟨#[97]⟩ : ByteArray)).bind fun t459 => (some t459)) = some r := h
 clear h
 replace H := Option.bind_eq_some_iff.mp H
 obtain ⟨t459, A10, H⟩ := H
 try dsimp only at H
 have A1 := Aside0.mk A10
 clear A10
 obtain rfl := Option.some.inj H
 go_enter Tryz.func18, Tryz.ntmps18
 go_wp2_with (first | ((with_reducible refine gate_callee (f := 22) rfl ?_); refine gL (some 1) Tryz.func22 #[.string (⟨#[97]⟩ : ByteArray)] ?_; (with_reducible refine (impl_LinOk.calls (⟨#[97]⟩ : ByteArray) t459 _ A1.out).mono ?_); rintro e w2 ⟨rfl, hb⟩; refine ⟨_, rfl, ?_⟩; replace HB := hbS HB hb; (try clear hb)))
 go_ret
 exact ⟨fi_, m0_⟩
def spec_DrawLinOk.f (k : Nat) (l0 : List Int) : Option (ByteArray) := (spec_l20Open.f l0).bind fun bt573 => ((spec_l20Line.f k bt573.1 bt573.2).bind fun bt576 => ((spec_l20Rd_pick.f k bt573.1 bt576.2 4).bind fun bt578 => (if bt578.1 = 0 then ((some (([(⟨#[97, 98, 99, 100, 101, 102, 103, 104, 105, 106, 32, 107, 108, 109, 110, 111, 112]⟩ : ByteArray), (⟨#[65]⟩ : ByteArray), (⟨#[97, 59, 98]⟩ : ByteArray), (⟨#[10]⟩ : ByteArray), (⟨#[97, 98, 99, 100, 101, 102, 103, 104, 105, 106, 32, 107, 108, 109, 110, 111]⟩ : ByteArray)] : List ByteArray) : List ByteArray)).bind fun y580 => ((spec_l20Rd_pick.f k bt573.1 bt578.2 5).bind fun bt583 => (if 0 ≤ bt583.1 then (if bt583.1 < (y580.length : Int) then (some (rdOf ByteArray.empty y580 bt583.1)) else (none)) else (none)))) else (if bt578.1 = 1 then ((spec_l20Bent.f k bt573.1 bt578.2 bt576.1).bind fun bt586 => (some bt586.1)) else (some bt576.1)))))
theorem spec_DrawLinOk.mono : ∀ a0 k, LeO (spec_DrawLinOk.f k a0) (spec_DrawLinOk.f (k + 1) a0) := by
 intro a0 k
 unfold spec_DrawLinOk.f
 repeat' first | (with_reducible first | exact spec_l20Bent.mono _ _ _ _ | exact spec_l20Line.mono _ _ _ | exact spec_l20Rd_pick.mono _ _ _ _ | exact LeO.refl _ | exact LeO.none _ | refine LeO.ite ?_ ?_ | refine LeO.bind ?_ (fun _ => ?_)) | exact spec_l20Bent.mono _ _ _ _ | exact spec_l20Line.mono _ _ _ | exact spec_l20Rd_pick.mono _ _ _ _ | exact LeO.none _ | refine LeO.ite ?_ ?_ | refine LeO.bind ?_ (fun _ => ?_)
set_option maxHeartbeats 8000000 in
set_option maxRecDepth 100000 in
theorem spec_DrawLinOk.calls (k : Nat) (A0 : Option Addr) (c0 : Nat) (l0 : List Int) (r : ByteArray) (w : World) (hr0 : Kd.C (Kd.int .u8) w A0 l0.length l0) (hc0 : l0.length ≤ c0) (h : spec_DrawLinOk.f k l0 = some r) :
  Calls Tryz.prog 65 #[.slice A0 l0.length c0] w fun e w' => e = .returned (.string r) ∧ Below w.heap.size w w' := by
 have HR0 := Aside0.mk hr0
 have HC0 := Aside0.mk hc0
 clear hr0 hc0
 have HB := Aside0.mk (Below.refl w.heap.size w)
 have H : ((spec_l20Open.f l0).bind fun bt573 => ((spec_l20Line.f k bt573.1 bt573.2).bind fun bt576 => ((spec_l20Rd_pick.f k bt573.1 bt576.2 4).bind fun bt578 => (if bt578.1 = 0 then ((some (([(⟨#[97, 98, 99, 100, 101, 102, 103, 104, 105, 106, 32, 107, 108, 109, 110, 111, 112]⟩ : ByteArray), (⟨#[65]⟩ : ByteArray), (⟨#[97, 59, 98]⟩ : ByteArray), (⟨#[10]⟩ : ByteArray), (⟨#[97, 98, 99, 100, 101, 102, 103, 104, 105, 106, 32, 107, 108, 109, 110, 111]⟩ : ByteArray)] : List ByteArray) : List ByteArray)).bind fun y580 => ((spec_l20Rd_pick.f k bt573.1 bt578.2 5).bind fun bt583 => (if 0 ≤ bt583.1 then (if bt583.1 < (y580.length : Int) then (some (rdOf ByteArray.empty y580 bt583.1)) else (none)) else (none)))) else (if bt578.1 = 1 then ((spec_l20Bent.f k bt573.1 bt578.2 bt576.1).bind fun bt586 => (some bt586.1)) else (some bt576.1)))))) = some r := h
 clear h
 replace H := Option.bind_eq_some_iff.mp H
 obtain ⟨⟨t573, t574⟩, A20, H⟩ := H
 try dsimp only at H
 have A2 := Aside0.mk A20
 clear A20
 replace H := Option.bind_eq_some_iff.mp H
 obtain ⟨⟨t576, t577⟩, A30, H⟩ := H
 try dsimp only at H
 have A3 := Aside0.mk A30
 clear A30
 replace H := Option.bind_eq_some_iff.mp H
 obtain ⟨⟨t578, t579⟩, A40, H⟩ := H
 try dsimp only at H
 have A4 := Aside0.mk A40
 clear A40
 by_cases c5 : t578 = 0
 ·rw [if_pos c5] at H
  have c5b0 : (t578 == 0) = true := beq_iff_eq.mpr c5
  have c5b1 : (t578 != 0) = false := bne_eq_false_iff_eq.mpr c5
  clear c5
  obtain ⟨y580, hy580⟩ : ∃ y_ : List ByteArray, y_ = (([(⟨#[97, 98, 99, 100, 101, 102, 103, 104, 105, 106, 32, 107, 108, 109, 110, 111, 112]⟩ : ByteArray), (⟨#[65]⟩ : ByteArray), (⟨#[97, 59, 98]⟩ : ByteArray), (⟨#[10]⟩ : ByteArray), (⟨#[97, 98, 99, 100, 101, 102, 103, 104, 105, 106, 32, 107, 108, 109, 110, 111]⟩ : ByteArray)] : List ByteArray)) := ⟨_, rfl⟩
  replace H : ((spec_l20Rd_pick.f k t573 t579 5).bind fun bt583 => (if 0 ≤ bt583.1 then (if bt583.1 < (y580.length : Int) then (some (rdOf ByteArray.empty y580 bt583.1)) else (none)) else (none))) = some r := by first | (rw [hy580]; with_reducible exact H) | (have H2_ := (Option.bind_some _ _).symm.trans H; rw [hy580]; with_reducible exact H2_) | (have H2_ := (Option.bind_some _ _).symm.trans H; with_reducible exact H2_) | with_reducible exact H | (rw [hy580]; exact H) | exact H
  have Ny580 := Aside0.mk hy580
  clear hy580
  replace H := Option.bind_eq_some_iff.mp H
  obtain ⟨⟨t583, t584⟩, A60, H⟩ := H
  try dsimp only at H
  have A6 := Aside0.mk A60
  clear A60
  by_cases c7 : 0 ≤ t583
  ·rw [if_pos c7] at H
   have c7b0 : decide (0 ≤ t583) = true := decide_eq_true c7
   clear c7
   by_cases c8 : t583 < (y580.length : Int)
   ·rw [if_pos c8] at H
    have c8b0 : decide (t583 < (y580.length : Int)) = true := decide_eq_true c8
    clear c8
    obtain rfl := Option.some.inj H
    go_enter Tryz.func65, Tryz.ntmps65
    go_wp2_with (first | ((with_reducible refine gate_callee (f := 40) rfl ?_); refine gL (some 6) Tryz.func40 #[.slice A0 l0.length c0] ?_; (with_reducible refine (spec_l20Open.calls _ _ l0 t573 t574 w _ ?side1 ?side2 ?side3 A2.out).mono ?_); (case side1 => exact m0_); (case side2 => exact HR0.out); (case side3 => exact HC0.out); rintro e w9 ⟨g575, rfl, hi, hb, hb2⟩; refine ⟨_, rfl, ?_⟩; replace HB := Aside0.mk hb; have HI575 := Aside0.mk hi; (try clear hb); (try clear hb2); (try clear hi)) | ((with_reducible refine gate_callee (f := 42) rfl ?_); refine gL (some 8) Tryz.func42 #[.pointer (some ⟨g575, 0, none⟩)] ?_; (with_reducible refine (spec_l20Line.calls k g575 t573 t574 t576 t577 w _ ?side1 ?side2 A3.out).mono ?_); (case side1 => exact m30_); (case side2 => exact m31_); rintro e w10 ⟨rfl, hi, hb, hk⟩; refine ⟨_, rfl, ?_⟩; replace HB := Aside0.mk hb; replace HI575 := Aside0.mk hi; (try clear hb); (try clear hk); (try clear hi)) | ((with_reducible refine gate_callee (f := 63) rfl ?_); refine gL (some 10) Tryz.func63 #[.pointer (some ⟨g575, 0, none⟩), .int .i64 4] ?_; (with_reducible refine (spec_l20Rd_pick.calls k g575 t573 t577 4 t578 t579 w _ ?side1 ?side2 A4.out).mono ?_); (case side1 => exact m30_); (case side2 => exact m31_); rintro e w11 ⟨rfl, hi, hb, hk⟩; refine ⟨_, rfl, ?_⟩; replace HB := Aside0.mk hb; replace HI575 := Aside0.mk hi; (try clear hb); (try clear hk); (try clear hi)) | ((with_reducible refine gate_dst (N := 13) rfl ?_); refine Kd.R_lit Kd.string _ 9 rfl (N := 13) rfl (xs := ([(⟨#[97, 98, 99, 100, 101, 102, 103, 104, 105, 106, 32, 107, 108, 109, 110, 111, 112]⟩ : ByteArray), (⟨#[65]⟩ : ByteArray), (⟨#[97, 59, 98]⟩ : ByteArray), (⟨#[10]⟩ : ByteArray), (⟨#[97, 98, 99, 100, 101, 102, 103, 104, 105, 106, 32, 107, 108, 109, 110, 111]⟩ : ByteArray)] : List ByteArray)) (inner := [.string (⟨#[97, 98, 99, 100, 101, 102, 103, 104, 105, 106, 32, 107, 108, 109, 110, 111, 112]⟩ : ByteArray), .string (⟨#[65]⟩ : ByteArray), .string (⟨#[97, 59, 98]⟩ : ByteArray), .string (⟨#[10]⟩ : ByteArray), .string (⟨#[97, 98, 99, 100, 101, 102, 103, 104, 105, 106, 32, 107, 108, 109, 110, 111]⟩ : ByteArray)]) (ok := fun _ => True) (okp := fun _ => True) hr_ ?hp (fun _ hk => hk) trivial (Below.refl _ _) (Nat.le_refl _) (by simp) ?_; (case hp => exact (Reps.one (show Kd.M Kd.string _ _ _ (⟨#[97, 98, 99, 100, 101, 102, 103, 104, 105, 106, 32, 107, 108, 109, 110, 111, 112]⟩ : ByteArray) [.string (⟨#[97, 98, 99, 100, 101, 102, 103, 104, 105, 106, 32, 107, 108, 109, 110, 111, 112]⟩ : ByteArray)] from rfl) (Reps.one (show Kd.M Kd.string _ _ _ (⟨#[65]⟩ : ByteArray) [.string (⟨#[65]⟩ : ByteArray)] from rfl) (Reps.one (show Kd.M Kd.string _ _ _ (⟨#[97, 59, 98]⟩ : ByteArray) [.string (⟨#[97, 59, 98]⟩ : ByteArray)] from rfl) (Reps.one (show Kd.M Kd.string _ _ _ (⟨#[10]⟩ : ByteArray) [.string (⟨#[10]⟩ : ByteArray)] from rfl) (Reps.one (show Kd.M Kd.string _ _ _ (⟨#[97, 98, 99, 100, 101, 102, 103, 104, 105, 106, 32, 107, 108, 109, 110, 111]⟩ : ByteArray) [.string (⟨#[97, 98, 99, 100, 101, 102, 103, 104, 105, 106, 32, 107, 108, 109, 110, 111]⟩ : ByteArray)] from rfl) (Reps.none _ _))))))); intro v581 w12 ho13 hb hg_ hnew_; clear hg_ hnew_; (first | rw [← Ny580.out] at ho13 | (simp only [Int.reduceToNat] at ho13; rw [← Ny580.out] at ho13)); have HO582 := Aside0.mk (Kd.R_lower ho13 (below_size m31_)); replace HB := Aside0.mk (below_step m31_ hb); replace HI575 := Aside0.mk (IsS84.below m30_ hb); clear hb ho13) | ((with_reducible refine gate_callee (f := 63) rfl ?_); refine gL (some 15) Tryz.func63 #[.pointer (some ⟨g575, 0, none⟩), .int .i64 5] ?_; (with_reducible refine (spec_l20Rd_pick.calls k g575 t573 t579 5 t583 t584 w _ ?side1 ?side2 A6.out).mono ?_); (case side1 => exact m30_); (case side2 => exact m31_); rintro e w14 ⟨rfl, hi, hb, hk⟩; refine ⟨_, rfl, ?_⟩; replace HO582 := Aside0.mk (Kd.R_mono (Kd.R_keep (IsS84.apart (show IsS84 w _ g575 t573 t579 from m30_) (rs HO582) (by decide)) hk (fun _ h => h.2)) (fun _ h => h.1)); replace HB := Aside0.mk hb; replace HI575 := Aside0.mk hi; (try clear hb); (try clear hk); (try clear hi); obtain ⟨Ao15, co15, eo15⟩ := Kd.R_slice HO582.out; subst eo15; have p585 : 0 ≤ (t583 : Int) := of_decide_eq_true da_; have q585 : t583 < (y580.length : Int) := of_decide_eq_true da_; obtain ⟨ad585, e585, hx585_0⟩ := Kd.at_string (Kd.R_reads' HO582.out).2.2 t583 p585 q585; cases e585; replace p585 := eq_true p585; replace q585 := eq_true q585))
    go_ret
    exact ⟨fi_, m31_⟩
   ·rw [if_neg c8] at H
    exact absurd H (by simp)
  ·rw [if_neg c7] at H
   exact absurd H (by simp)
 ·rw [if_neg c5] at H
  have c5b0 : (t578 == 0) = false := beq_eq_false_iff_ne.mpr c5
  have c5b1 : (t578 != 0) = true := bne_iff_ne.mpr c5
  by_cases c16 : t578 = 1
  ·rw [if_pos c16] at H
   have c16b0 : (t578 == 1) = true := beq_iff_eq.mpr c16
   have c16b1 : (t578 != 1) = false := bne_eq_false_iff_eq.mpr c16
   clear c16
   replace H := Option.bind_eq_some_iff.mp H
   obtain ⟨⟨t586, t587⟩, A170, H⟩ := H
   try dsimp only at H
   have A17 := Aside0.mk A170
   clear A170
   obtain rfl := Option.some.inj H
   go_enter Tryz.func65, Tryz.ntmps65
   go_wp2_with (first | ((with_reducible refine gate_callee (f := 40) rfl ?_); refine gL (some 6) Tryz.func40 #[.slice A0 l0.length c0] ?_; (with_reducible refine (spec_l20Open.calls _ _ l0 t573 t574 w _ ?side1 ?side2 ?side3 A2.out).mono ?_); (case side1 => exact m0_); (case side2 => exact HR0.out); (case side3 => exact HC0.out); rintro e w18 ⟨g575, rfl, hi, hb, hb2⟩; refine ⟨_, rfl, ?_⟩; replace HB := Aside0.mk hb; have HI575 := Aside0.mk hi; (try clear hb); (try clear hb2); (try clear hi)) | ((with_reducible refine gate_callee (f := 42) rfl ?_); refine gL (some 8) Tryz.func42 #[.pointer (some ⟨g575, 0, none⟩)] ?_; (with_reducible refine (spec_l20Line.calls k g575 t573 t574 t576 t577 w _ ?side1 ?side2 A3.out).mono ?_); (case side1 => exact m30_); (case side2 => exact m31_); rintro e w19 ⟨rfl, hi, hb, hk⟩; refine ⟨_, rfl, ?_⟩; replace HB := Aside0.mk hb; replace HI575 := Aside0.mk hi; (try clear hb); (try clear hk); (try clear hi)) | ((with_reducible refine gate_callee (f := 63) rfl ?_); refine gL (some 10) Tryz.func63 #[.pointer (some ⟨g575, 0, none⟩), .int .i64 4] ?_; (with_reducible refine (spec_l20Rd_pick.calls k g575 t573 t577 4 t578 t579 w _ ?side1 ?side2 A4.out).mono ?_); (case side1 => exact m30_); (case side2 => exact m31_); rintro e w20 ⟨rfl, hi, hb, hk⟩; refine ⟨_, rfl, ?_⟩; replace HB := Aside0.mk hb; replace HI575 := Aside0.mk hi; (try clear hb); (try clear hk); (try clear hi)) | ((with_reducible refine gate_callee (f := 44) rfl ?_); refine gL (some 22) Tryz.func44 #[.pointer (some ⟨g575, 0, none⟩), .string t576] ?_; (with_reducible refine (spec_l20Bent.calls k g575 t573 t579 t576 t586 t587 w _ ?side1 ?side2 A17.out).mono ?_); (case side1 => exact m30_); (case side2 => exact m31_); rintro e w21 ⟨rfl, hi, hb, hk⟩; refine ⟨_, rfl, ?_⟩; replace HB := Aside0.mk hb; replace HI575 := Aside0.mk hi; (try clear hb); (try clear hk); (try clear hi)))
   go_ret
   exact ⟨fi_, m31_⟩
  ·rw [if_neg c16] at H
   have c16b0 : (t578 == 1) = false := beq_eq_false_iff_ne.mpr c16
   have c16b1 : (t578 != 1) = true := bne_iff_ne.mpr c16
   obtain rfl := Option.some.inj H
   go_enter Tryz.func65, Tryz.ntmps65
   go_wp2_with (first | ((with_reducible refine gate_callee (f := 40) rfl ?_); refine gL (some 6) Tryz.func40 #[.slice A0 l0.length c0] ?_; (with_reducible refine (spec_l20Open.calls _ _ l0 t573 t574 w _ ?side1 ?side2 ?side3 A2.out).mono ?_); (case side1 => exact m0_); (case side2 => exact HR0.out); (case side3 => exact HC0.out); rintro e w22 ⟨g575, rfl, hi, hb, hb2⟩; refine ⟨_, rfl, ?_⟩; replace HB := Aside0.mk hb; have HI575 := Aside0.mk hi; (try clear hb); (try clear hb2); (try clear hi)) | ((with_reducible refine gate_callee (f := 42) rfl ?_); refine gL (some 8) Tryz.func42 #[.pointer (some ⟨g575, 0, none⟩)] ?_; (with_reducible refine (spec_l20Line.calls k g575 t573 t574 t576 t577 w _ ?side1 ?side2 A3.out).mono ?_); (case side1 => exact m30_); (case side2 => exact m31_); rintro e w23 ⟨rfl, hi, hb, hk⟩; refine ⟨_, rfl, ?_⟩; replace HB := Aside0.mk hb; replace HI575 := Aside0.mk hi; (try clear hb); (try clear hk); (try clear hi)) | ((with_reducible refine gate_callee (f := 63) rfl ?_); refine gL (some 10) Tryz.func63 #[.pointer (some ⟨g575, 0, none⟩), .int .i64 4] ?_; (with_reducible refine (spec_l20Rd_pick.calls k g575 t573 t577 4 t578 t579 w _ ?side1 ?side2 A4.out).mono ?_); (case side1 => exact m30_); (case side2 => exact m31_); rintro e w24 ⟨rfl, hi, hb, hk⟩; refine ⟨_, rfl, ?_⟩; replace HB := Aside0.mk hb; replace HI575 := Aside0.mk hi; (try clear hb); (try clear hk); (try clear hi)))
   go_ret
   exact ⟨fi_, m31_⟩
def spec_DrawBakLine.f (k : Nat) (l0 : List Int) : Option ((List (S34)) × ByteArray) := (spec_l20Open.f l0).bind fun bt589 => ((spec_l20Table.f k bt589.1 bt589.2 12).bind fun bt592 => ((spec_l20Rd_pick.f k bt589.1 bt592.2 3).bind fun bt597 => (if bt597.1 > 0 then ((spec_l20Rd_pick.f k bt589.1 bt597.2 8).bind fun bt599 => ((spec_LinPort.f k 50 (wrap64 (500 + bt599.1))).bind fun t601 => (some (bt592.1, t601)))) else ((spec_DrawLinOk.f k l0).bind fun t602 => (some (bt592.1, t602))))))
theorem spec_DrawBakLine.mono : ∀ a0 k, LeO (spec_DrawBakLine.f k a0) (spec_DrawBakLine.f (k + 1) a0) := by
 intro a0 k
 unfold spec_DrawBakLine.f
 repeat' first | (with_reducible first | exact spec_DrawLinOk.mono _ _ | exact spec_LinPort.mono _ _ _ | exact spec_l20Rd_pick.mono _ _ _ _ | exact spec_l20Table.mono _ _ _ _ | exact LeO.refl _ | exact LeO.none _ | refine LeO.ite ?_ ?_ | refine LeO.bind ?_ (fun _ => ?_)) | exact spec_DrawLinOk.mono _ _ | exact spec_LinPort.mono _ _ _ | exact spec_l20Rd_pick.mono _ _ _ _ | exact spec_l20Table.mono _ _ _ _ | exact LeO.none _ | refine LeO.ite ?_ ?_ | refine LeO.bind ?_ (fun _ => ?_)
def spec_DrawBakLine.T4 : Bool × List (List Nat × List Nat) := (true, [([], []), ([], []), ([1], [1]), ([2], [2]), ([3], [3]), ([4, 2], [4]), ([0, 5, 0], [0]), ([5, 6, 0, 1, 2, 3, 4, 5, 6], [5])])
def spec_DrawBakLine.B4 : List Nat := [0, 0, 2, 6, 14, 30, 63, 127]
theorem spec_DrawBakLine.tab4 : rtab .any (opsOf Tryz.f30 4) = spec_DrawBakLine.T4 := by kernel_rfl
theorem spec_DrawBakLine.bits4 : waitsOk spec_DrawBakLine.T4.2 spec_DrawBakLine.B4 = true := by kernel_rfl
set_option maxHeartbeats 8000000 in
set_option maxRecDepth 100000 in
theorem spec_DrawBakLine.calls (k : Nat) (A0 : Option Addr) (c0 : Nat) (l0 : List Int) (r1 : List (S34)) (r2 : ByteArray) (w : World) (hr0 : Kd.C (Kd.int .u8) w A0 l0.length l0) (hc0 : l0.length ≤ c0) (h : spec_DrawBakLine.f k l0 = some (r1, r2)) :
  Calls Tryz.prog 30 #[.slice A0 l0.length c0] w fun e w' => ∃ v0_ : Value, e = .returned (.tuple #[.agg #[v0_], .string r2]) ∧ Kd.R k34 34 w' w.heap.size (fun _ => True) v0_ r1 ∧ Below w.heap.size w w' := by
 have hu25 := Tryz.underlying25
 have hu34 := Tryz.underlying34
 have HR0 := Aside0.mk hr0
 have HC0 := Aside0.mk hc0
 clear hr0 hc0
 have HB := Aside0.mk (Below.refl w.heap.size w)
 have H : ((spec_l20Open.f l0).bind fun bt589 => ((spec_l20Table.f k bt589.1 bt589.2 12).bind fun bt592 => ((spec_l20Rd_pick.f k bt589.1 bt592.2 3).bind fun bt597 => (if bt597.1 > 0 then ((spec_l20Rd_pick.f k bt589.1 bt597.2 8).bind fun bt599 => ((spec_LinPort.f k 50 (wrap64 (500 + bt599.1))).bind fun t601 => (some (bt592.1, t601)))) else ((spec_DrawLinOk.f k l0).bind fun t602 => (some (bt592.1, t602))))))) = some (r1, r2) := h
 clear h
 replace H := Option.bind_eq_some_iff.mp H
 obtain ⟨⟨t589, t590⟩, A20, H⟩ := H
 try dsimp only at H
 have A2 := Aside0.mk A20
 clear A20
 replace H := Option.bind_eq_some_iff.mp H
 obtain ⟨⟨t592, t595⟩, A30, H⟩ := H
 try dsimp only at H
 have A3 := Aside0.mk A30
 clear A30
 replace H := Option.bind_eq_some_iff.mp H
 obtain ⟨⟨t597, t598⟩, A40, H⟩ := H
 try dsimp only at H
 have A4 := Aside0.mk A40
 clear A40
 by_cases c5 : t597 > 0
 ·rw [if_pos c5] at H
  have c5b0 : decide (0 < t597) = true := decide_eq_true c5
  clear c5
  replace H := Option.bind_eq_some_iff.mp H
  obtain ⟨⟨t599, t600⟩, A60, H⟩ := H
  try dsimp only at H
  have A6 := Aside0.mk A60
  clear A60
  replace H := Option.bind_eq_some_iff.mp H
  obtain ⟨t601, A70, H⟩ := H
  try dsimp only at H
  have A7 := Aside0.mk A70
  clear A70
  simp only [Option.some.injEq, Prod.mk.injEq] at H
  obtain ⟨rfl, rfl⟩ := H
  go_enter Tryz.func30, Tryz.ntmps30
  try go_wp2_with (first | ((with_reducible refine gate_dst (N := 2) rfl ?_); refine box_event rfl (N := 2) rfl (cs := #[.slice none 0 0]) (t := 25) hr_ ?_; intro gb588 hg w8 hbox hb; have BK588 := Aside0.mk hbox; have GW588 := gwE HB hg; have GE588 := gwE HB hg; replace HB := hbS HB hb; clear hb hbox hg) | ((with_reducible refine gate_callee (f := 40) rfl ?_); refine gL (some 7) Tryz.func40 #[.slice A0 l0.length c0] ?_; (with_reducible refine (spec_l20Open.calls _ _ l0 t589 t590 w _ ?side1 ?side2 ?side3 A2.out).mono ?_); (case side1 => exact m2_); (case side2 => exact HR0.out); (case side3 => exact HC0.out); rintro e w9 ⟨g591, rfl, hi, hb, hb2⟩; refine ⟨_, rfl, ?_⟩; replace HB := Aside0.mk hb; have HI591 := Aside0.mk hi; have NB591_588 := Aside0.mk (IsS84.ne_blk hi (blk_below (g := gb588) (o := .cells #[.slice none 0 0] 25 (0, 0)) (bk BK588) hb2) (by decide)); have NB588_591 := Aside0.mk (Ne.symm (IsS84.ne_blk hi (blk_below (g := gb588) (o := .cells #[.slice none 0 0] 25 (0, 0)) (bk BK588) hb2) (by decide))); replace BK588 := Aside0.mk (blk_below (g := gb588) (o := .cells #[.slice none 0 0] 25 (0, 0)) (bk BK588) hb2); (try clear hb); (try clear hb2); (try clear hi)) | ((with_reducible refine gate_callee (f := 41) rfl ?_); refine gL (some 9) Tryz.func41 #[.pointer (some ⟨g591, 0, none⟩), .int .i64 12] ?_; (with_reducible refine (spec_l20Table.calls k g591 t589 t590 12 t592 t595 w _ ?side1 ?side2 A3.out).mono ?_); (case side1 => exact m17_); (case side2 => exact m18_); rintro e w10 ⟨v593, rfl, ho0, hi, hb, hk⟩; refine ⟨_, rfl, ?_⟩; replace BK588 := Aside0.mk (KeepBut.blk hk (g' := gb588) (o := .cells #[.slice none 0 0] 25 (0, 0)) (bk BK588) NB588_591.out (by simp)); have HO594 := Aside0.mk (Kd.R_lower ho0 (below_size m18_)); replace HB := Aside0.mk hb; replace HI591 := Aside0.mk hi; (try clear hb); (try clear hk); (try clear hi); (try clear ho0)) | ((with_reducible refine gate_dst (N := 5) rfl ?_); refine box_event rfl (N := 5) rfl (cs := #[.slice none 0 0]) (t := 25) hr_ ?_; intro gb596 hg w11 hbox hb; replace HO594 := Aside0.mk (Kd.R_below (rs HO594) hb); have BK596 := Aside0.mk hbox; have GW596 := Aside0.mk ((by rw [hg]; exact (below_size m18_) : w.heap.size ≤ gb596)); have GE596 := Aside0.mk ((by rw [hg]; exact (below_size m18_) : w.heap.size ≤ gb596)); replace HB := Aside0.mk (below_step m18_ hb); have NB588_596 := neL BK588 hg; have NB596_588 := neG BK588 hg; replace BK588 := bkB BK588 hb; have NB591_596 := Aside0.mk ((by rw [hg]; exact Nat.ne_of_lt (IsS84.lt (show IsS84 w _ g591 t589 t595 from m17_)) : g591 ≠ gb596)); have NB596_591 := Aside0.mk ((by rw [hg]; exact Nat.ne_of_gt (IsS84.lt (show IsS84 w _ g591 t589 t595 from m17_)) : gb596 ≠ g591)); replace HI591 := Aside0.mk (IsS84.below m17_ hb); clear hb hbox hg; obtain ⟨Ao12, co12, eo12⟩ := Kd.R_slice HO594.out; subst eo12; have hnb13 := NB596_588.out; have hnc13 := NB588_596.out; have hnb14 := NB596_591.out; have hnc14 := NB591_596.out; have hcz15_0 := bcell BK596 0; have hfz15_0 := blk_frozen BK596.out 0) | ((with_reducible refine gate_callee (f := 63) rfl ?_); refine gL (some 11) Tryz.func63 #[.pointer (some ⟨g591, 0, none⟩), .int .i64 3] ?_; (with_reducible refine (spec_l20Rd_pick.calls k g591 t589 t595 3 t597 t598 w _ ?side1 ?side2 A4.out).mono ?_); (case side1 => exact m17_); (case side2 => exact m18_); rintro e w16 ⟨rfl, hi, hb, hk⟩; refine ⟨_, rfl, ?_⟩; replace BK588 := Aside0.mk (KeepBut.blk hk (g' := gb588) (o := .cells #[.slice none 0 0] 25 (0, 0)) (by (with_reducible repeat refine bu ?_); refine blk_far ?_ NB588_596.out _; (with_reducible repeat refine bu ?_); exact BK588.out) NB588_591.out (by simp)); replace HO594 := Aside0.mk (Kd.R_mono (Kd.R_keep (IsS84.apart (show IsS84 w _ g591 t589 t595 from m17_) (by (with_reducible repeat apply ru); exact (Kd.R_mono (Kd.R_far (p := ⟨gb596, 0, none⟩) (Kd.R_types HO594.out BK596.out (by decide)) (fun _ hk => hk.2) (.slice Ao12 t592.length co12)) (fun _ h_ => h_.1))) (by decide)) hk (fun _ h => h.2)) (fun _ h => h.1)); replace BK596 := Aside0.mk (KeepBut.blk hk (g' := gb596) (o := .cells #[.slice Ao12 t592.length co12] 25 (0, 0)) (by (with_reducible repeat refine bu ?_); refine blk_put (cs := #[.slice none 0 0]) ?_ 0 _ rfl; (with_reducible repeat refine bu ?_); exact BK596.out) NB596_591.out (by simp)); replace HB := Aside0.mk hb; replace HI591 := Aside0.mk hi; (try clear hb); (try clear hk); (try clear hi)))
  replace HO594 := Aside0.mk (Kd.R_drew HO594.out)
  replace BK588 := Aside0.mk (blk_drew BK588.out)
  replace BK596 := Aside0.mk (blk_drew BK596.out)
  replace HI591 := Aside0.mk (IsS84.drew HI591.out)
  replace HB := Aside0.mk (below_drew1 HB.out)
  refine start_ (n := 8) (S := fun w' => w'.cell? ⟨gb596, 0, none⟩ = some (.slice Ao12 t592.length co12)) (ds := []) #[false, false, false, false, false, false, false, false] (by kernel_rfl) rfl rfl (bcell BK596 0) (fun hHeld => ?_); refine with_tabW spec_DrawBakLine.tab4 spec_DrawBakLine.bits4 (fun HT_ HW_ => ?_)
  generalize w16.drew = w17 at HO594 BK588 BK596 HI591 HB hHeld ⊢
  refine pu_ 1 (some 14) #[false, true, false, false, false, false, false, false] ?_
  refine take_ (i := 0) (N := some 13) (v := ?_) (a' := ?_) #[true, true, false, false, false, false, false, false] rfl rfl (take_ofW HT_.out HW_.out (by kernel_rfl)) (fun _ _ _ h => h) (Or.inl ⟨by rfl, ?_⟩) hHeld ?_ ?_
  rotate_left
  ·intro w' s0
   go_simp
   with_reducible rfl
  rotate_left
  ·simp only [Act.put, List.setIfInBounds_toArray, List.set_cons_zero, List.set_cons_succ, i64_w, i32_w]
   rfl
  refine on_ 2 (some 15) #[true, true, true, false, false, false, false, false] (fun K hK => ?_)
  refine gR Tryz.func63 #[.pointer (some ⟨g591, 0, none⟩), .int .i64 8] ?_
  with_reducible refine (spec_l20Rd_pick.calls k g591 t589 t598 8 t599 t600 w _ ?side1 ?side2 A6.out).mono ?_
  (case side1 => exact m17_)
  (case side2 => exact m18_)
  rintro e w18 ⟨rfl, hi, hb, hk⟩
  refine ⟨_, rfl, ?_⟩
  replace BK588 := Aside0.mk (KeepBut.blk hk (g' := gb588) (o := .cells #[.slice none 0 0] 25 (0, 0)) (bk BK588) NB588_591.out (by simp))
  replace HO594 := Aside0.mk (Kd.R_mono (Kd.R_keep (IsS84.apart (show IsS84 w _ g591 t589 t598 from m17_) (rs HO594) (by decide)) hk (fun _ h => h.2)) (fun _ h => h.1))
  replace BK596 := Aside0.mk (KeepBut.blk hk (g' := gb596) (o := .cells #[.slice Ao12 t592.length co12] 25 (0, 0)) (bk BK596) NB596_591.out (by simp))
  replace HB := Aside0.mk hb
  replace HI591 := Aside0.mk hi
  (try clear hb)
  (try clear hb2)
  (try clear hk)
  (try clear hi)
  refine hK.out _ _ (bcell BK596 0) (fun hHeld => ?_)
  clear hK K
  refine nm_ ?_
  refine pu_ 3 (some 16) #[true, true, true, true, false, false, false, false] ?_
  refine pu_ 4 (some 17) #[true, true, true, true, true, false, false, false] ?_
  refine on_ 5 (some 18) #[true, true, true, true, true, true, false, false] (fun K hK => ?_)
  refine gR Tryz.func64 #[.agg #[.int .i64 50, .int .i64 (wrap64 (500 + t599))]] ?_
  with_reducible refine (spec_LinPort.calls k 50 (wrap64 (500 + t599)) t601 _ A7.out).mono ?_
  rintro e w19 ⟨rfl, hb⟩
  refine ⟨_, rfl, ?_⟩
  replace HO594 := Aside0.mk (Kd.R_below (rs HO594) hb)
  replace BK588 := bkB BK588 hb
  replace BK596 := bkB BK596 hb
  replace HB := Aside0.mk (below_step m18_ hb)
  replace HI591 := Aside0.mk (IsS84.below m17_ hb)
  (try clear hb)
  (try clear hb2)
  (try clear hk)
  (try clear hi)
  refine hK.out _ _ (bcell BK596 0) (fun hHeld => ?_)
  clear hK K
  refine nm_ ?_
  refine on_ 6 none #[true, true, true, true, true, true, true, false] (fun K hK => ?_)
  have hs20 : w19.cell? ⟨gb588, 0, none⟩ = some (.slice none 0 0) := bcell BK588 0
  have hfs20 := blk_frozen BK588.out 0
  have hns20_1 := NB596_588.out
  have hms20_1 := NB588_596.out
  refine skip_ (w1 := ?_) (by rfl) rfl ?_ ?_
  rotate_left
  ·go_simp
   rfl
  refine hK.out _ _ (((cell_far (p := ⟨gb588, _, none⟩) NB596_588.out _).trans (hHeld))) (fun hHeld => ?_)
  clear hK K
  refine pu_ 7 (some 3) #[true, true, true, true, true, true, true, true] ?_
  refine done_ (done_of HT_.out (by kernel_rfl)) ?_
  try go_wp2
  refine bodyPost_ret (results_ct rfl _ _ gb588 25 #[.slice Ao12 t592.length co12] (0, 0) _ rfl (by (with_reducible repeat refine bu ?_); refine blk_put (cs := #[.slice none 0 0]) ?_ 0 _ rfl; (with_reducible repeat refine bu ?_); exact BK588.out) Tryz.underlying25 rfl (by kernel_rfl)) rfl ?_
  exact ⟨_, fi_, by (with_reducible repeat apply ru); exact Kd.R_mono (Kd.R_far (p := ⟨gb588, 0, none⟩) (Kd.R_types HO594.out BK588.out (by decide)) (fun _ hk => hk.2) (.slice Ao12 t592.length co12)) (fun _ hk => trivial), m18_⟩
 ·rw [if_neg c5] at H
  have c5b0 : decide (0 < t597) = false := decide_eq_false c5
  clear c5
  replace H := Option.bind_eq_some_iff.mp H
  obtain ⟨t602, A210, H⟩ := H
  try dsimp only at H
  have A21 := Aside0.mk A210
  clear A210
  simp only [Option.some.injEq, Prod.mk.injEq] at H
  obtain ⟨rfl, rfl⟩ := H
  go_enter Tryz.func30, Tryz.ntmps30
  try go_wp2_with (first | ((with_reducible refine gate_dst (N := 2) rfl ?_); refine box_event rfl (N := 2) rfl (cs := #[.slice none 0 0]) (t := 25) hr_ ?_; intro gb588 hg w22 hbox hb; have BK588 := Aside0.mk hbox; have GW588 := gwE HB hg; have GE588 := gwE HB hg; replace HB := hbS HB hb; clear hb hbox hg) | ((with_reducible refine gate_callee (f := 40) rfl ?_); refine gL (some 7) Tryz.func40 #[.slice A0 l0.length c0] ?_; (with_reducible refine (spec_l20Open.calls _ _ l0 t589 t590 w _ ?side1 ?side2 ?side3 A2.out).mono ?_); (case side1 => exact m2_); (case side2 => exact HR0.out); (case side3 => exact HC0.out); rintro e w23 ⟨g591, rfl, hi, hb, hb2⟩; refine ⟨_, rfl, ?_⟩; replace HB := Aside0.mk hb; have HI591 := Aside0.mk hi; have NB591_588 := Aside0.mk (IsS84.ne_blk hi (blk_below (g := gb588) (o := .cells #[.slice none 0 0] 25 (0, 0)) (bk BK588) hb2) (by decide)); have NB588_591 := Aside0.mk (Ne.symm (IsS84.ne_blk hi (blk_below (g := gb588) (o := .cells #[.slice none 0 0] 25 (0, 0)) (bk BK588) hb2) (by decide))); replace BK588 := Aside0.mk (blk_below (g := gb588) (o := .cells #[.slice none 0 0] 25 (0, 0)) (bk BK588) hb2); (try clear hb); (try clear hb2); (try clear hi)) | ((with_reducible refine gate_callee (f := 41) rfl ?_); refine gL (some 9) Tryz.func41 #[.pointer (some ⟨g591, 0, none⟩), .int .i64 12] ?_; (with_reducible refine (spec_l20Table.calls k g591 t589 t590 12 t592 t595 w _ ?side1 ?side2 A3.out).mono ?_); (case side1 => exact m17_); (case side2 => exact m18_); rintro e w24 ⟨v593, rfl, ho0, hi, hb, hk⟩; refine ⟨_, rfl, ?_⟩; replace BK588 := Aside0.mk (KeepBut.blk hk (g' := gb588) (o := .cells #[.slice none 0 0] 25 (0, 0)) (bk BK588) NB588_591.out (by simp)); have HO594 := Aside0.mk (Kd.R_lower ho0 (below_size m18_)); replace HB := Aside0.mk hb; replace HI591 := Aside0.mk hi; (try clear hb); (try clear hk); (try clear hi); (try clear ho0)) | ((with_reducible refine gate_dst (N := 5) rfl ?_); refine box_event rfl (N := 5) rfl (cs := #[.slice none 0 0]) (t := 25) hr_ ?_; intro gb596 hg w25 hbox hb; replace HO594 := Aside0.mk (Kd.R_below (rs HO594) hb); have BK596 := Aside0.mk hbox; have GW596 := Aside0.mk ((by rw [hg]; exact (below_size m18_) : w.heap.size ≤ gb596)); have GE596 := Aside0.mk ((by rw [hg]; exact (below_size m18_) : w.heap.size ≤ gb596)); replace HB := Aside0.mk (below_step m18_ hb); have NB588_596 := neL BK588 hg; have NB596_588 := neG BK588 hg; replace BK588 := bkB BK588 hb; have NB591_596 := Aside0.mk ((by rw [hg]; exact Nat.ne_of_lt (IsS84.lt (show IsS84 w _ g591 t589 t595 from m17_)) : g591 ≠ gb596)); have NB596_591 := Aside0.mk ((by rw [hg]; exact Nat.ne_of_gt (IsS84.lt (show IsS84 w _ g591 t589 t595 from m17_)) : gb596 ≠ g591)); replace HI591 := Aside0.mk (IsS84.below m17_ hb); clear hb hbox hg; obtain ⟨Ao26, co26, eo26⟩ := Kd.R_slice HO594.out; subst eo26; have hnb27 := NB596_588.out; have hnc27 := NB588_596.out; have hnb28 := NB596_591.out; have hnc28 := NB591_596.out; have hcz29_0 := bcell BK596 0; have hfz29_0 := blk_frozen BK596.out 0) | ((with_reducible refine gate_callee (f := 63) rfl ?_); refine gL (some 11) Tryz.func63 #[.pointer (some ⟨g591, 0, none⟩), .int .i64 3] ?_; (with_reducible refine (spec_l20Rd_pick.calls k g591 t589 t595 3 t597 t598 w _ ?side1 ?side2 A4.out).mono ?_); (case side1 => exact m17_); (case side2 => exact m18_); rintro e w30 ⟨rfl, hi, hb, hk⟩; refine ⟨_, rfl, ?_⟩; replace BK588 := Aside0.mk (KeepBut.blk hk (g' := gb588) (o := .cells #[.slice none 0 0] 25 (0, 0)) (by (with_reducible repeat refine bu ?_); refine blk_far ?_ NB588_596.out _; (with_reducible repeat refine bu ?_); exact BK588.out) NB588_591.out (by simp)); replace HO594 := Aside0.mk (Kd.R_mono (Kd.R_keep (IsS84.apart (show IsS84 w _ g591 t589 t595 from m17_) (by (with_reducible repeat apply ru); exact (Kd.R_mono (Kd.R_far (p := ⟨gb596, 0, none⟩) (Kd.R_types HO594.out BK596.out (by decide)) (fun _ hk => hk.2) (.slice Ao26 t592.length co26)) (fun _ h_ => h_.1))) (by decide)) hk (fun _ h => h.2)) (fun _ h => h.1)); replace BK596 := Aside0.mk (KeepBut.blk hk (g' := gb596) (o := .cells #[.slice Ao26 t592.length co26] 25 (0, 0)) (by (with_reducible repeat refine bu ?_); refine blk_put (cs := #[.slice none 0 0]) ?_ 0 _ rfl; (with_reducible repeat refine bu ?_); exact BK596.out) NB596_591.out (by simp)); replace HB := Aside0.mk hb; replace HI591 := Aside0.mk hi; (try clear hb); (try clear hk); (try clear hi)))
  replace HO594 := Aside0.mk (Kd.R_drew HO594.out)
  replace BK588 := Aside0.mk (blk_drew BK588.out)
  replace BK596 := Aside0.mk (blk_drew BK596.out)
  replace HI591 := Aside0.mk (IsS84.drew HI591.out)
  replace HB := Aside0.mk (below_drew1 HB.out)
  refine start_ (n := 5) (S := fun w' => w'.cell? ⟨gb596, 0, none⟩ = some (.slice Ao26 t592.length co26)) (ds := []) #[false, false, false, false, false] (by kernel_rfl) rfl rfl (bcell BK596 0) (fun hHeld => ?_)
  generalize w30.drew = w31 at HO594 BK588 BK596 HI591 HB hHeld ⊢
  refine pu_ 1 (some 20) #[false, true, false, false, false] ?_
  refine take_ (i := 0) (N := some 19) (v := ?_) (a' := ?_) #[true, true, false, false, false] rfl rfl (by kernel_rfl) (fun _ _ _ h => h) (Or.inl ⟨by rfl, ?_⟩) hHeld ?_ ?_
  rotate_left
  ·intro w' s0
   go_simp
   with_reducible rfl
  rotate_left
  ·simp only [Act.put, List.setIfInBounds_toArray, List.set_cons_zero, List.set_cons_succ, i64_w, i32_w]
   rfl
  refine one_ (i := 2) (N := some 21) #[true, true, true, false, false] rfl rfl (by kernel_rfl) (by decide) (fun K hK => ?_)
  refine gR Tryz.func65 #[.slice A0 l0.length c0] ?_
  with_reducible refine (spec_DrawLinOk.calls k _ _ l0 t602 _ ?side1 ?side2 A21.out).mono ?_
  (case side1 => exact m1_)
  (case side2 => exact HC0.out)
  rintro e w32 ⟨rfl, hb⟩
  refine ⟨_, rfl, ?_⟩
  replace HO594 := Aside0.mk (Kd.R_below (rs HO594) hb)
  replace BK588 := bkB BK588 hb
  replace BK596 := bkB BK596 hb
  replace HB := Aside0.mk (below_step m18_ hb)
  replace HI591 := Aside0.mk (IsS84.below m17_ hb)
  (try clear hb)
  (try clear hb2)
  (try clear hk)
  (try clear hi)
  refine hK.out _ _ (bcell BK596 0) (fun hHeld => ?_)
  clear hK K
  refine nm_ ?_
  refine one_ (i := 3) (N := none) #[true, true, true, true, false] rfl rfl (by kernel_rfl) (by decide) (fun K hK => ?_)
  have hs33 : w32.cell? ⟨gb588, 0, none⟩ = some (.slice none 0 0) := bcell BK588 0
  have hfs33 := blk_frozen BK588.out 0
  have hns33_1 := NB596_588.out
  have hms33_1 := NB588_596.out
  refine skip_ (w1 := ?_) (by rfl) rfl ?_ ?_
  rotate_left
  ·go_simp
   rfl
  refine hK.out _ _ (((cell_far (p := ⟨gb588, _, none⟩) NB596_588.out _).trans (hHeld))) (fun hHeld => ?_)
  clear hK K
  refine pu_ 4 (some 3) #[true, true, true, true, true] ?_
  refine done_ (by kernel_rfl) ?_
  try go_wp2
  refine bodyPost_ret (results_ct rfl _ _ gb588 25 #[.slice Ao26 t592.length co26] (0, 0) _ rfl (by (with_reducible repeat refine bu ?_); refine blk_put (cs := #[.slice none 0 0]) ?_ 0 _ rfl; (with_reducible repeat refine bu ?_); exact BK588.out) Tryz.underlying25 rfl (by kernel_rfl)) rfl ?_
  exact ⟨_, fi_, by (with_reducible repeat apply ru); exact Kd.R_mono (Kd.R_far (p := ⟨gb588, 0, none⟩) (Kd.R_types HO594.out BK588.out (by decide)) (fun _ hk => hk.2) (.slice Ao26 t592.length co26)) (fun _ hk => trivial), m18_⟩
def impl_LinBox.f (a0 : ByteArray) : Option (Int × Bool) := (impl_said.f a0).bind fun bt603 => (if bt603.2.2 = true then (if bt603.1 = 50 then (some (bt603.2.1, true)) else (some (0, false))) else (some (0, false)))
set_option maxHeartbeats 8000000 in
set_option maxRecDepth 100000 in
theorem impl_LinBox.calls (a0 : ByteArray) (r1 : Int) (r2 : Bool) (w : World) (h : impl_LinBox.f a0 = some (r1, r2)) (hE : EnvE w) :
  Calls Tryz.prog 38 #[.string a0] w fun e w' => e = .returned (.tuple #[.int .i64 r1, .bool r2]) ∧ Below w.heap.size w w' := by
 have hu34 := Tryz.underlying34
 have HB := Aside0.mk (Below.refl w.heap.size w)
 have H : ((impl_said.f a0).bind fun bt603 => (if bt603.2.2 = true then (if bt603.1 = 50 then (some (bt603.2.1, true)) else (some (0, false))) else (some (0, false)))) = some (r1, r2) := h
 clear h
 replace H := Option.bind_eq_some_iff.mp H
 obtain ⟨⟨t603, t604, t605⟩, A20, H⟩ := H
 try dsimp only at H
 have A2 := Aside0.mk A20
 clear A20
 by_cases c3 : t605 = true
 ·subst c3
  have H1 : (if t603 = 50 then (some (t604, true)) else (some (0, false))) = some (r1, r2) := by rw [if_pos rfl] at H; exact H
  clear H
  have H := H1
  clear H1
  by_cases c4 : t603 = 50
  ·rw [if_pos c4] at H
   have c4b0 : (t603 == 50) = true := beq_iff_eq.mpr c4
   have c4b1 : (t603 != 50) = false := bne_eq_false_iff_eq.mpr c4
   clear c4
   simp only [Option.some.injEq, Prod.mk.injEq] at H
   obtain ⟨rfl, rfl⟩ := H
   go_enter Tryz.func38, Tryz.ntmps38
   go_wp2_with (first | ((with_reducible refine gate_callee (f := 51) rfl ?_); refine gL (some 8) Tryz.func51 #[.string a0] ?_; (with_reducible refine (impl_said.calls a0 t603 t604 true _ A2.out (EnvE.below hE (bl HB))).mono ?_); rintro e w5 ⟨rfl, hb⟩; refine ⟨_, rfl, ?_⟩; replace HB := hbS HB hb; (try clear hb)) | ((with_reducible refine gate_dst (N := 4) rfl ?_); refine box_event rfl (N := 4) rfl (cs := #[.int .i64 0, .int .i64 0]) (t := 34) hr_ ?_; intro gb606 hg w6 hbox hb; have BK606 := Aside0.mk hbox; have GW606 := gwE HB hg; have GE606 := gwE HB hg; replace HB := hbS HB hb; clear hb hbox hg; have hcz7_0 := bcell BK606 0; have hcz7_1 := bcell BK606 1; have hfz7_0 := blk_frozen BK606.out 0; have hfz7_1 := blk_frozen BK606.out 1))
   go_ret2
   exact ⟨fi_, m2_⟩
  ·rw [if_neg c4] at H
   have c4b0 : (t603 == 50) = false := beq_eq_false_iff_ne.mpr c4
   have c4b1 : (t603 != 50) = true := bne_iff_ne.mpr c4
   simp only [Option.some.injEq, Prod.mk.injEq] at H
   obtain ⟨rfl, rfl⟩ := H
   go_enter Tryz.func38, Tryz.ntmps38
   go_wp2_with (first | ((with_reducible refine gate_callee (f := 51) rfl ?_); refine gL (some 8) Tryz.func51 #[.string a0] ?_; (with_reducible refine (impl_said.calls a0 t603 t604 true _ A2.out (EnvE.below hE (bl HB))).mono ?_); rintro e w8 ⟨rfl, hb⟩; refine ⟨_, rfl, ?_⟩; replace HB := hbS HB hb; (try clear hb)) | ((with_reducible refine gate_dst (N := 4) rfl ?_); refine box_event rfl (N := 4) rfl (cs := #[.int .i64 0, .int .i64 0]) (t := 34) hr_ ?_; intro gb606 hg w9 hbox hb; have BK606 := Aside0.mk hbox; have GW606 := gwE HB hg; have GE606 := gwE HB hg; replace HB := hbS HB hb; clear hb hbox hg; have hcz10_0 := bcell BK606 0; have hcz10_1 := bcell BK606 1; have hfz10_0 := blk_frozen BK606.out 0; have hfz10_1 := blk_frozen BK606.out 1))
   go_ret2
   exact ⟨fi_, m2_⟩
 ·replace c3 := Bool.eq_false_iff.mpr c3
  subst c3
  have H1 : (some (0, false)) = some (r1, r2) := by rw [if_neg (show ¬ (false = true) by decide)] at H; exact H
  clear H
  have H := H1
  clear H1
  simp only [Option.some.injEq, Prod.mk.injEq] at H
  obtain ⟨rfl, rfl⟩ := H
  go_enter Tryz.func38, Tryz.ntmps38
  go_wp2_with (first | ((with_reducible refine gate_callee (f := 51) rfl ?_); refine gL (some 8) Tryz.func51 #[.string a0] ?_; (with_reducible refine (impl_said.calls a0 t603 t604 false _ A2.out (EnvE.below hE (bl HB))).mono ?_); rintro e w11 ⟨rfl, hb⟩; refine ⟨_, rfl, ?_⟩; replace HB := hbS HB hb; (try clear hb)) | ((with_reducible refine gate_dst (N := 4) rfl ?_); refine box_event rfl (N := 4) rfl (cs := #[.int .i64 0, .int .i64 0]) (t := 34) hr_ ?_; intro gb606 hg w12 hbox hb; have BK606 := Aside0.mk hbox; have GW606 := gwE HB hg; have GE606 := gwE HB hg; replace HB := hbS HB hb; clear hb hbox hg; have hcz13_0 := bcell BK606 0; have hcz13_1 := bcell BK606 1; have hfz13_0 := blk_frozen BK606.out 0; have hfz13_1 := blk_frozen BK606.out 1))
  go_ret2
  exact ⟨fi_, m2_⟩
def impl_MapTab_goesIn.f (l0_0 : List (S34)) (a1 : ByteArray) : Option (ByteArray) := (impl_LinBox.f a1).bind fun bt608 => (if bt608.2 = true then ((impl_MapEnd.f l0_0 bt608.1).bind fun bt610 => (if bt610.2.2 = true then ((impl_LinPort.f bt610.1 bt610.2.1).bind fun t614 => (some t614)) else (some a1))) else (some a1))
set_option maxHeartbeats 8000000 in
set_option maxRecDepth 100000 in
theorem impl_MapTab_goesIn.calls (A0_0 : Option Addr) (c0_0 : Nat) (l0_0 : List (S34)) (a1 : ByteArray) (r : ByteArray) (w : World) (hr0_0 : Kd.C k34 w A0_0 l0_0.length l0_0) (hc0_0 : l0_0.length ≤ c0_0) (h : impl_MapTab_goesIn.f l0_0 a1 = some r) (hE : EnvE w) :
  Calls Tryz.prog 66 #[.agg #[.slice A0_0 l0_0.length c0_0], .string a1] w fun e w' => e = .returned (.string r) ∧ Below w.heap.size w w' := by
 have hu25 := Tryz.underlying25
 have hu34 := Tryz.underlying34
 have HR0_0 := Aside0.mk hr0_0
 have HC0_0 := Aside0.mk hc0_0
 clear hr0_0 hc0_0
 have HB := Aside0.mk (Below.refl w.heap.size w)
 have H : ((impl_LinBox.f a1).bind fun bt608 => (if bt608.2 = true then ((impl_MapEnd.f l0_0 bt608.1).bind fun bt610 => (if bt610.2.2 = true then ((impl_LinPort.f bt610.1 bt610.2.1).bind fun t614 => (some t614)) else (some a1))) else (some a1))) = some r := h
 clear h
 replace H := Option.bind_eq_some_iff.mp H
 obtain ⟨⟨t608, t609⟩, A30, H⟩ := H
 try dsimp only at H
 have A3 := Aside0.mk A30
 clear A30
 by_cases c4 : t609 = true
 ·subst c4
  have H1 : ((impl_MapEnd.f l0_0 t608).bind fun bt610 => (if bt610.2.2 = true then ((impl_LinPort.f bt610.1 bt610.2.1).bind fun t614 => (some t614)) else (some a1))) = some r := by rw [if_pos rfl] at H; exact H
  clear H
  have H := H1
  clear H1
  replace H := Option.bind_eq_some_iff.mp H
  obtain ⟨⟨t610, t611, t612⟩, A50, H⟩ := H
  try dsimp only at H
  have A5 := Aside0.mk A50
  clear A50
  by_cases c6 : t612 = true
  ·subst c6
   have H1 : ((impl_LinPort.f t610 t611).bind fun t614 => (some t614)) = some r := by rw [if_pos rfl] at H; exact H
   clear H
   have H := H1
   clear H1
   replace H := Option.bind_eq_some_iff.mp H
   obtain ⟨t614, A70, H⟩ := H
   try dsimp only at H
   have A7 := Aside0.mk A70
   clear A70
   obtain rfl := Option.some.inj H
   go_enter Tryz.func66, Tryz.ntmps66
   go_wp2_with (first | ((with_reducible refine gate_dst (N := 2) rfl ?_); refine box_event rfl (N := 2) rfl (cs := #[.slice A0_0 l0_0.length c0_0]) (t := 25) hr_ ?_; intro gb607 hg w8 hbox hb; have BK607 := Aside0.mk hbox; have GW607 := gwE HB hg; have GE607 := gwE HB hg; replace HB := hbS HB hb; clear hb hbox hg) | ((with_reducible refine gate_callee (f := 38) rfl ?_); refine gL (some 11) Tryz.func38 #[.string a1] ?_; (with_reducible refine (impl_LinBox.calls a1 t608 true _ A3.out (EnvE.below hE (bl HB))).mono ?_); rintro e w9 ⟨rfl, hb⟩; refine ⟨_, rfl, ?_⟩; replace BK607 := bkB BK607 hb; replace HB := hbS HB hb; (try clear hb); have hcz10_0 := bcell BK607 0; have hfz10_0 := blk_frozen BK607.out 0) | ((with_reducible refine gate_callee (f := 94) rfl ?_); refine gL (some 18) Tryz.func94 #[.agg #[.slice A0_0 l0_0.length c0_0], .int .i64 t608] ?_; (with_reducible refine (impl_MapEnd.calls _ _ l0_0 t608 t610 t611 true _ ?side1 ?side2 A5.out).mono ?_); (case side1 => exact m4_); (case side2 => exact HC0_0.out); rintro e w11 ⟨rfl, hb⟩; refine ⟨_, rfl, ?_⟩; replace BK607 := bkB BK607 hb; replace HB := hbS HB hb; (try clear hb)) | ((with_reducible refine gate_dst (N := 7) rfl ?_); refine box_event rfl (N := 7) rfl (cs := #[.int .i64 0, .int .i64 0]) (t := 34) hr_ ?_; intro gb613 hg w12 hbox hb; have BK613 := Aside0.mk hbox; have GW613 := gwE HB hg; have GE613 := gwE HB hg; replace HB := hbS HB hb; have NB607_613 := neL BK607 hg; have NB613_607 := neG BK607 hg; replace BK607 := bkB BK607 hb; clear hb hbox hg; have hnb13 := NB613_607.out; have hnc13 := NB607_613.out; have hcz14_0 := bcell BK613 0; have hcz14_1 := bcell BK613 1; have hfz14_0 := blk_frozen BK613.out 0; have hfz14_1 := blk_frozen BK613.out 1) | ((with_reducible refine gate_callee (f := 24) rfl ?_); refine gL (some 23) Tryz.func24 #[.agg #[.int .i64 t610, .int .i64 t611]] ?_; (with_reducible refine (impl_LinPort.calls t610 t611 t614 _ A7.out (EnvT.below hE.e.t (bl HB))).mono ?_); rintro e w15 ⟨rfl, hb⟩; refine ⟨_, rfl, ?_⟩; replace BK607 := Aside0.mk (blk_below (g := gb607) (o := .cells #[.slice A0_0 l0_0.length c0_0] 25 (0, 0)) (by (with_reducible repeat refine bu ?_); refine blk_far ?_ NB607_613.out _; (with_reducible repeat refine bu ?_); refine blk_far ?_ NB607_613.out _; (with_reducible repeat refine bu ?_); exact BK607.out) hb); replace BK613 := Aside0.mk (blk_below (g := gb613) (o := .cells #[.int .i64 t610, .int .i64 t611] 34 (0, 0)) (by (with_reducible repeat refine bu ?_); refine blk_put (cs := #[.int .i64 t610, .int .i64 0]) ?_ 1 _ rfl; (with_reducible repeat refine bu ?_); refine blk_put (cs := #[.int .i64 0, .int .i64 0]) ?_ 0 _ rfl; (with_reducible repeat refine bu ?_); exact BK613.out) hb); replace HB := hbS HB hb; (try clear hb)))
   go_ret
   exact ⟨fi_, m2_⟩
  ·replace c6 := Bool.eq_false_iff.mpr c6
   subst c6
   have H1 : (some a1) = some r := by rw [if_neg (show ¬ (false = true) by decide)] at H; exact H
   clear H
   have H := H1
   clear H1
   obtain rfl := Option.some.inj H
   go_enter Tryz.func66, Tryz.ntmps66
   go_wp2_with (first | ((with_reducible refine gate_dst (N := 2) rfl ?_); refine box_event rfl (N := 2) rfl (cs := #[.slice A0_0 l0_0.length c0_0]) (t := 25) hr_ ?_; intro gb607 hg w16 hbox hb; have BK607 := Aside0.mk hbox; have GW607 := gwE HB hg; have GE607 := gwE HB hg; replace HB := hbS HB hb; clear hb hbox hg) | ((with_reducible refine gate_callee (f := 38) rfl ?_); refine gL (some 11) Tryz.func38 #[.string a1] ?_; (with_reducible refine (impl_LinBox.calls a1 t608 true _ A3.out (EnvE.below hE (bl HB))).mono ?_); rintro e w17 ⟨rfl, hb⟩; refine ⟨_, rfl, ?_⟩; replace BK607 := bkB BK607 hb; replace HB := hbS HB hb; (try clear hb); have hcz18_0 := bcell BK607 0; have hfz18_0 := blk_frozen BK607.out 0) | ((with_reducible refine gate_callee (f := 94) rfl ?_); refine gL (some 18) Tryz.func94 #[.agg #[.slice A0_0 l0_0.length c0_0], .int .i64 t608] ?_; (with_reducible refine (impl_MapEnd.calls _ _ l0_0 t608 t610 t611 false _ ?side1 ?side2 A5.out).mono ?_); (case side1 => exact m4_); (case side2 => exact HC0_0.out); rintro e w19 ⟨rfl, hb⟩; refine ⟨_, rfl, ?_⟩; replace BK607 := bkB BK607 hb; replace HB := hbS HB hb; (try clear hb)) | ((with_reducible refine gate_dst (N := 7) rfl ?_); refine box_event rfl (N := 7) rfl (cs := #[.int .i64 0, .int .i64 0]) (t := 34) hr_ ?_; intro gb613 hg w20 hbox hb; have BK613 := Aside0.mk hbox; have GW613 := gwE HB hg; have GE613 := gwE HB hg; replace HB := hbS HB hb; have NB607_613 := neL BK607 hg; have NB613_607 := neG BK607 hg; replace BK607 := bkB BK607 hb; clear hb hbox hg; have hnb21 := NB613_607.out; have hnc21 := NB607_613.out; have hcz22_0 := bcell BK613 0; have hcz22_1 := bcell BK613 1; have hfz22_0 := blk_frozen BK613.out 0; have hfz22_1 := blk_frozen BK613.out 1))
   go_ret
   exact ⟨fi_, m2_⟩
 ·replace c4 := Bool.eq_false_iff.mpr c4
  subst c4
  have H1 : (some a1) = some r := by rw [if_neg (show ¬ (false = true) by decide)] at H; exact H
  clear H
  have H := H1
  clear H1
  obtain rfl := Option.some.inj H
  go_enter Tryz.func66, Tryz.ntmps66
  go_wp2_with (first | ((with_reducible refine gate_dst (N := 2) rfl ?_); refine box_event rfl (N := 2) rfl (cs := #[.slice A0_0 l0_0.length c0_0]) (t := 25) hr_ ?_; intro gb607 hg w23 hbox hb; have BK607 := Aside0.mk hbox; have GW607 := gwE HB hg; have GE607 := gwE HB hg; replace HB := hbS HB hb; clear hb hbox hg) | ((with_reducible refine gate_callee (f := 38) rfl ?_); refine gL (some 11) Tryz.func38 #[.string a1] ?_; (with_reducible refine (impl_LinBox.calls a1 t608 false _ A3.out (EnvE.below hE (bl HB))).mono ?_); rintro e w24 ⟨rfl, hb⟩; refine ⟨_, rfl, ?_⟩; replace BK607 := bkB BK607 hb; replace HB := hbS HB hb; (try clear hb)))
  go_ret
  exact ⟨fi_, m2_⟩
def impl_BakLine.f (k : Nat) (l0_0 : List (S34)) (a1 : ByteArray) : Option (ByteArray) := (impl_MapOk.f k l0_0).bind fun t616 => (if t616 = true then ((impl_LinOk.f a1).bind fun t617 => (if t617 = true then ((impl_MapTab_goesIn.f l0_0 a1).bind fun t618 => (some t618)) else (some (⟨#[]⟩ : ByteArray)))) else (some (⟨#[]⟩ : ByteArray)))
theorem impl_BakLine.mono : ∀ a0 a1 k, LeO (impl_BakLine.f k a0 a1) (impl_BakLine.f (k + 1) a0 a1) := by
 intro a0 a1 k
 unfold impl_BakLine.f
 repeat' first | (with_reducible first | exact impl_MapOk.mono _ _ | exact LeO.refl _ | exact LeO.none _ | refine LeO.ite ?_ ?_ | refine LeO.bind ?_ (fun _ => ?_)) | exact impl_MapOk.mono _ _ | exact LeO.none _ | refine LeO.ite ?_ ?_ | refine LeO.bind ?_ (fun _ => ?_)
set_option maxHeartbeats 8000000 in
set_option maxRecDepth 100000 in
theorem impl_BakLine.calls (k : Nat) (A0_0 : Option Addr) (c0_0 : Nat) (l0_0 : List (S34)) (a1 : ByteArray) (r : ByteArray) (w : World) (hr0_0 : Kd.C k34 w A0_0 l0_0.length l0_0) (hc0_0 : l0_0.length ≤ c0_0) (h : impl_BakLine.f k l0_0 a1 = some r) (hE : EnvE w) :
  Calls Tryz.prog 31 #[.agg #[.slice A0_0 l0_0.length c0_0], .string a1] w fun e w' => e = .returned (.string r) ∧ Below w.heap.size w w' := by
 have hu25 := Tryz.underlying25
 have HR0_0 := Aside0.mk hr0_0
 have HC0_0 := Aside0.mk hc0_0
 clear hr0_0 hc0_0
 have HB := Aside0.mk (Below.refl w.heap.size w)
 have H : ((impl_MapOk.f k l0_0).bind fun t616 => (if t616 = true then ((impl_LinOk.f a1).bind fun t617 => (if t617 = true then ((impl_MapTab_goesIn.f l0_0 a1).bind fun t618 => (some t618)) else (some (⟨#[]⟩ : ByteArray)))) else (some (⟨#[]⟩ : ByteArray)))) = some r := h
 clear h
 replace H := Option.bind_eq_some_iff.mp H
 obtain ⟨t616, A30, H⟩ := H
 try dsimp only at H
 have A3 := Aside0.mk A30
 clear A30
 by_cases c4 : t616 = true
 ·subst c4
  have H1 : ((impl_LinOk.f a1).bind fun t617 => (if t617 = true then ((impl_MapTab_goesIn.f l0_0 a1).bind fun t618 => (some t618)) else (some (⟨#[]⟩ : ByteArray)))) = some r := by rw [if_pos rfl] at H; exact H
  clear H
  have H := H1
  clear H1
  replace H := Option.bind_eq_some_iff.mp H
  obtain ⟨t617, A50, H⟩ := H
  try dsimp only at H
  have A5 := Aside0.mk A50
  clear A50
  by_cases c6 : t617 = true
  ·subst c6
   have H1 : ((impl_MapTab_goesIn.f l0_0 a1).bind fun t618 => (some t618)) = some r := by rw [if_pos rfl] at H; exact H
   clear H
   have H := H1
   clear H1
   replace H := Option.bind_eq_some_iff.mp H
   obtain ⟨t618, A70, H⟩ := H
   try dsimp only at H
   have A7 := Aside0.mk A70
   clear A70
   obtain rfl := Option.some.inj H
   go_enter Tryz.func31, Tryz.ntmps31
   go_wp2_with (first | ((with_reducible refine gate_dst (N := 2) rfl ?_); refine box_event rfl (N := 2) rfl (cs := #[.slice A0_0 l0_0.length c0_0]) (t := 25) hr_ ?_; intro gb615 hg w8 hbox hb; have BK615 := Aside0.mk hbox; have GW615 := gwE HB hg; have GE615 := gwE HB hg; replace HB := hbS HB hb; clear hb hbox hg; have hcz9_0 := bcell BK615 0; have hfz9_0 := blk_frozen BK615.out 0) | ((with_reducible refine gate_callee (f := 20) rfl ?_); refine gL (some 6) Tryz.func20 #[.agg #[.slice A0_0 l0_0.length c0_0]] ?_; (with_reducible refine (impl_MapOk.calls k _ _ l0_0 true _ ?side1 ?side2 A3.out).mono ?_); (case side1 => exact m4_); (case side2 => exact HC0_0.out); rintro e w10 ⟨rfl, hb⟩; refine ⟨_, rfl, ?_⟩; replace BK615 := bkB BK615 hb; replace HB := hbS HB hb; (try clear hb)) | (go_at_call 22; (with_reducible refine (impl_LinOk.calls a1 true _ A5.out).mono ?_); rintro e w11 ⟨rfl, hb⟩; replace BK615 := bkB BK615 hb; replace HB := hbS HB hb; (try clear hb); have hcz12_0 := bcell BK615 0; have hfz12_0 := blk_frozen BK615.out 0) | ((with_reducible refine gate_callee (f := 66) rfl ?_); refine gL (some 15) Tryz.func66 #[.agg #[.slice A0_0 l0_0.length c0_0], .string a1] ?_; (with_reducible refine (impl_MapTab_goesIn.calls _ _ l0_0 a1 t618 _ ?side1 ?side2 A7.out (EnvE.below hE (bl HB))).mono ?_); (case side1 => exact m4_); (case side2 => exact HC0_0.out); rintro e w13 ⟨rfl, hb⟩; refine ⟨_, rfl, ?_⟩; replace BK615 := bkB BK615 hb; replace HB := hbS HB hb; (try clear hb)))
   go_ret
   exact ⟨fi_, m2_⟩
  ·replace c6 := Bool.eq_false_iff.mpr c6
   subst c6
   have H1 : (some (⟨#[]⟩ : ByteArray)) = some r := by rw [if_neg (show ¬ (false = true) by decide)] at H; exact H
   clear H
   have H := H1
   clear H1
   obtain rfl := Option.some.inj H
   go_enter Tryz.func31, Tryz.ntmps31
   go_wp2_with (first | ((with_reducible refine gate_dst (N := 2) rfl ?_); refine box_event rfl (N := 2) rfl (cs := #[.slice A0_0 l0_0.length c0_0]) (t := 25) hr_ ?_; intro gb615 hg w14 hbox hb; have BK615 := Aside0.mk hbox; have GW615 := gwE HB hg; have GE615 := gwE HB hg; replace HB := hbS HB hb; clear hb hbox hg; have hcz15_0 := bcell BK615 0; have hfz15_0 := blk_frozen BK615.out 0) | ((with_reducible refine gate_callee (f := 20) rfl ?_); refine gL (some 6) Tryz.func20 #[.agg #[.slice A0_0 l0_0.length c0_0]] ?_; (with_reducible refine (impl_MapOk.calls k _ _ l0_0 true _ ?side1 ?side2 A3.out).mono ?_); (case side1 => exact m4_); (case side2 => exact HC0_0.out); rintro e w16 ⟨rfl, hb⟩; refine ⟨_, rfl, ?_⟩; replace BK615 := bkB BK615 hb; replace HB := hbS HB hb; (try clear hb)) | (go_at_call 22; (with_reducible refine (impl_LinOk.calls a1 false _ A5.out).mono ?_); rintro e w17 ⟨rfl, hb⟩; replace BK615 := bkB BK615 hb; replace HB := hbS HB hb; (try clear hb)))
   go_ret
   exact ⟨fi_, m2_⟩
 ·replace c4 := Bool.eq_false_iff.mpr c4
  subst c4
  have H1 : (some (⟨#[]⟩ : ByteArray)) = some r := by rw [if_neg (show ¬ (false = true) by decide)] at H; exact H
  clear H
  have H := H1
  clear H1
  obtain rfl := Option.some.inj H
  go_enter Tryz.func31, Tryz.ntmps31
  go_wp2_with (first | ((with_reducible refine gate_dst (N := 2) rfl ?_); refine box_event rfl (N := 2) rfl (cs := #[.slice A0_0 l0_0.length c0_0]) (t := 25) hr_ ?_; intro gb615 hg w18 hbox hb; have BK615 := Aside0.mk hbox; have GW615 := gwE HB hg; have GE615 := gwE HB hg; replace HB := hbS HB hb; clear hb hbox hg; have hcz19_0 := bcell BK615 0; have hfz19_0 := blk_frozen BK615.out 0) | ((with_reducible refine gate_callee (f := 20) rfl ?_); refine gL (some 6) Tryz.func20 #[.agg #[.slice A0_0 l0_0.length c0_0]] ?_; (with_reducible refine (impl_MapOk.calls k _ _ l0_0 false _ ?side1 ?side2 A3.out).mono ?_); (case side1 => exact m4_); (case side2 => exact HC0_0.out); rintro e w20 ⟨rfl, hb⟩; refine ⟨_, rfl, ?_⟩; replace BK615 := bkB BK615 hb; replace HB := hbS HB hb; (try clear hb)))
  go_ret
  exact ⟨fi_, m2_⟩
mutual
def laws_FnBakRwr.j0 : Nat → List Int → List Int → Bool → Option (Bool)
 | 0, _, _, _ => none
 | k + 1, x0, x1, x25 => if x25 = true then (some true) else ((spec_DrawRwrLine.f k x0).bind fun bt619 => ((spec_DrawBakLine.f k x1).bind fun bt624 => ((impl_RwrLine.f k bt619.1 bt619.2).bind fun bt629 => ((spec_RwrLine.f k bt619.1 bt619.2).bind fun bt634 => (if bt629.2.toList = bt634.2.toList then ((impl_LinSays.f bt619.2).bind fun bt639 => ((spec_MapOk.f k bt619.1).bind fun t643 => (if t643 = true then ((spec_LinOk.f k bt619.2).bind fun t644 => (if t644 = true then (if bt639.2.2 = true then (if bt629.2.toList = ([110, 111, 110, 101] : List UInt8) then (laws_FnBakRwr.j1 k bt624.2 false bt624.1) else ((impl_BakLine.f k bt629.1 bt629.2).bind fun t645 => (laws_FnBakRwr.j1 k bt624.2 (t645.toList != bt619.2.toList) bt624.1))) else (laws_FnBakRwr.j1 k bt624.2 false bt624.1)) else (laws_FnBakRwr.j1 k bt624.2 false bt624.1))) else (laws_FnBakRwr.j1 k bt624.2 false bt624.1)))) else (some false))))))
def laws_FnBakRwr.j1 : Nat → ByteArray → Bool → List (S34) → Option (Bool)
 | 0, _, _, _ => none
 | k + 1, x8, x75, x629000 => if x75 = true then (some false) else ((impl_BakLine.f k x629000 x8).bind fun t646 => ((spec_MapOk.f k x629000).bind fun t647 => (if t647 = true then ((spec_LinOk.f k x8).bind fun t648 => (if t648 = true then (laws_FnBakRwr.j2 k x8 t646 (t646.toList == x8.toList) x629000) else (laws_FnBakRwr.j2 k x8 t646 true x629000))) else (laws_FnBakRwr.j2 k x8 t646 true x629000))))
def laws_FnBakRwr.j2 : Nat → ByteArray → ByteArray → Bool → List (S34) → Option (Bool)
 | 0, _, _, _, _ => none
 | k + 1, x8, x15, x91, x629000 => if x91 = true then ((laws_haOk.f).bind fun t649 => (some t649)) else ((impl_RwrLine.f k x629000 x15).bind fun bt650 => (if bt650.2.toList = x8.toList then ((laws_haEnds.f k bt650.1 x629000).bind fun t655 => (some t655)) else (some false)))
end
def laws_FnBakRwr.f (k : Nat) (l0 : List Int) (l1 : List Int) : Option (Bool) := if (l0.length : Int) > 1048576 then (laws_FnBakRwr.j0 k l0 l1 true) else (laws_FnBakRwr.j0 k l0 l1 (decide ((l1.length : Int) > 1048576)))
theorem laws_FnBakRwr.mono_l : ∀ k, (∀ y0 y1 y2, LeO (laws_FnBakRwr.j0 k y0 y1 y2) (laws_FnBakRwr.j0 (k + 1) y0 y1 y2)) ∧ (∀ y0 y1 y2, LeO (laws_FnBakRwr.j1 k y0 y1 y2) (laws_FnBakRwr.j1 (k + 1) y0 y1 y2)) ∧ (∀ y0 y1 y2 y3, LeO (laws_FnBakRwr.j2 k y0 y1 y2 y3) (laws_FnBakRwr.j2 (k + 1) y0 y1 y2 y3))
 | 0 => ⟨fun _ _ _ r h => by simp [laws_FnBakRwr.j0] at h, fun _ _ _ r h => by simp [laws_FnBakRwr.j1] at h, fun _ _ _ _ r h => by simp [laws_FnBakRwr.j2] at h⟩
 | k + 1 => by
  obtain ⟨ih0, ih1, ih2⟩ := laws_FnBakRwr.mono_l k
  refine ⟨?_, ?_, ?_⟩
  ·intro y0 y1 y2
   unfold laws_FnBakRwr.j0
   repeat' first | (with_reducible first | exact ih0 _ _ _ | exact ih1 _ _ _ | exact ih2 _ _ _ _ | exact impl_BakLine.mono _ _ _ | exact impl_RwrLine.mono _ _ _ | exact laws_haEnds.mono _ _ _ | exact spec_DrawBakLine.mono _ _ | exact spec_DrawRwrLine.mono _ _ | exact spec_LinOk.mono _ _ | exact spec_MapOk.mono _ _ | exact spec_RwrLine.mono _ _ _ | exact LeO.refl _ | exact LeO.none _ | refine LeO.ite ?_ ?_ | refine LeO.bind ?_ (fun _ => ?_)) | exact ih0 _ _ _ | exact ih1 _ _ _ | exact ih2 _ _ _ _ | exact impl_BakLine.mono _ _ _ | exact impl_RwrLine.mono _ _ _ | exact laws_haEnds.mono _ _ _ | exact spec_DrawBakLine.mono _ _ | exact spec_DrawRwrLine.mono _ _ | exact spec_LinOk.mono _ _ | exact spec_MapOk.mono _ _ | exact spec_RwrLine.mono _ _ _ | exact LeO.none _ | refine LeO.ite ?_ ?_ | refine LeO.bind ?_ (fun _ => ?_)
  ·intro y0 y1 y2
   unfold laws_FnBakRwr.j1
   repeat' first | (with_reducible first | exact ih0 _ _ _ | exact ih1 _ _ _ | exact ih2 _ _ _ _ | exact impl_BakLine.mono _ _ _ | exact impl_RwrLine.mono _ _ _ | exact laws_haEnds.mono _ _ _ | exact spec_DrawBakLine.mono _ _ | exact spec_DrawRwrLine.mono _ _ | exact spec_LinOk.mono _ _ | exact spec_MapOk.mono _ _ | exact spec_RwrLine.mono _ _ _ | exact LeO.refl _ | exact LeO.none _ | refine LeO.ite ?_ ?_ | refine LeO.bind ?_ (fun _ => ?_)) | exact ih0 _ _ _ | exact ih1 _ _ _ | exact ih2 _ _ _ _ | exact impl_BakLine.mono _ _ _ | exact impl_RwrLine.mono _ _ _ | exact laws_haEnds.mono _ _ _ | exact spec_DrawBakLine.mono _ _ | exact spec_DrawRwrLine.mono _ _ | exact spec_LinOk.mono _ _ | exact spec_MapOk.mono _ _ | exact spec_RwrLine.mono _ _ _ | exact LeO.none _ | refine LeO.ite ?_ ?_ | refine LeO.bind ?_ (fun _ => ?_)
  ·intro y0 y1 y2 y3
   unfold laws_FnBakRwr.j2
   repeat' first | (with_reducible first | exact ih0 _ _ _ | exact ih1 _ _ _ | exact ih2 _ _ _ _ | exact impl_BakLine.mono _ _ _ | exact impl_RwrLine.mono _ _ _ | exact laws_haEnds.mono _ _ _ | exact spec_DrawBakLine.mono _ _ | exact spec_DrawRwrLine.mono _ _ | exact spec_LinOk.mono _ _ | exact spec_MapOk.mono _ _ | exact spec_RwrLine.mono _ _ _ | exact LeO.refl _ | exact LeO.none _ | refine LeO.ite ?_ ?_ | refine LeO.bind ?_ (fun _ => ?_)) | exact ih0 _ _ _ | exact ih1 _ _ _ | exact ih2 _ _ _ _ | exact impl_BakLine.mono _ _ _ | exact impl_RwrLine.mono _ _ _ | exact laws_haEnds.mono _ _ _ | exact spec_DrawBakLine.mono _ _ | exact spec_DrawRwrLine.mono _ _ | exact spec_LinOk.mono _ _ | exact spec_MapOk.mono _ _ | exact spec_RwrLine.mono _ _ _ | exact LeO.none _ | refine LeO.ite ?_ ?_ | refine LeO.bind ?_ (fun _ => ?_)
theorem laws_FnBakRwr.mono : ∀ a0 a1 k, LeO (laws_FnBakRwr.f k a0 a1) (laws_FnBakRwr.f (k + 1) a0 a1) := by
 intro a0 a1 k
 obtain ⟨ih0, ih1, ih2⟩ := laws_FnBakRwr.mono_l k
 unfold laws_FnBakRwr.f
 repeat' first | (with_reducible first | exact ih0 _ _ _ | exact ih1 _ _ _ | exact ih2 _ _ _ _ | exact impl_BakLine.mono _ _ _ | exact impl_RwrLine.mono _ _ _ | exact laws_haEnds.mono _ _ _ | exact spec_DrawBakLine.mono _ _ | exact spec_DrawRwrLine.mono _ _ | exact spec_LinOk.mono _ _ | exact spec_MapOk.mono _ _ | exact spec_RwrLine.mono _ _ _ | exact LeO.refl _ | exact LeO.none _ | refine LeO.ite ?_ ?_ | refine LeO.bind ?_ (fun _ => ?_)) | exact ih0 _ _ _ | exact ih1 _ _ _ | exact ih2 _ _ _ _ | exact impl_BakLine.mono _ _ _ | exact impl_RwrLine.mono _ _ _ | exact laws_haEnds.mono _ _ _ | exact spec_DrawBakLine.mono _ _ | exact spec_DrawRwrLine.mono _ _ | exact spec_LinOk.mono _ _ | exact spec_MapOk.mono _ _ | exact spec_RwrLine.mono _ _ _ | exact LeO.none _ | refine LeO.ite ?_ ?_ | refine LeO.bind ?_ (fun _ => ?_)
set_option maxHeartbeats 8000000 in
set_option maxRecDepth 100000 in
theorem laws_FnBakRwr.calls (k : Nat) (A0 : Option Addr) (c0 : Nat) (l0 : List Int) (A1 : Option Addr) (c1 : Nat) (l1 : List Int) (r : Bool) (w : World) (hr0 : Kd.C (Kd.int .u8) w A0 l0.length l0) (hc0 : l0.length ≤ c0) (hr1 : Kd.C (Kd.int .u8) w A1 l1.length l1) (hc1 : l1.length ≤ c1) (h : laws_FnBakRwr.f k l0 l1 = some r) (hrt : Aside0 (r = true)) (hE : EnvE w) :
  Calls Tryz.prog 5 #[.slice A0 l0.length c0, .slice A1 l1.length c1] w fun e w' => e = .returned (.bool r) ∧ Below w.heap.size w w' := by
 have hu25 := Tryz.underlying25
 have hu34 := Tryz.underlying34
 have HR0 := Aside0.mk hr0
 have HC0 := Aside0.mk hc0
 clear hr0 hc0
 have HR1 := Aside0.mk hr1
 have HC1 := Aside0.mk hc1
 clear hr1 hc1
 have HB := Aside0.mk (Below.refl w.heap.size w)
 have H : (if (l0.length : Int) > 1048576 then (laws_FnBakRwr.j0 k l0 l1 true) else (laws_FnBakRwr.j0 k l0 l1 (decide ((l1.length : Int) > 1048576)))) = some r := h
 clear h
 have HC3 := Aside0.mk H
 clear H
 go_enter Tryz.func5, Tryz.ntmps5
 go_upto_region 1 with (fail)
 go_cut [25] (fun v25 wc => ∃ (kq : Nat) (x25_2 : Bool), v25 = .bool x25_2 ∧ Aside0 (laws_FnBakRwr.j0 kq l0 l1 x25_2 = some r) ∧ Aside0 (kq ≤ k) ∧ Aside0 (Below w.heap.size w wc))
 case first =>
  have H := HC3.out
  clear HC3
  by_cases c4 : (l0.length : Int) > 1048576
  ·rw [if_pos c4] at H
   have c4b0 : decide (1048576 < (l0.length : Int)) = true := decide_eq_true c4
   have c4b1 : decide (1048576 < l0.length) = true := decide_eq_true (by omega)
   clear c4
   (first | rw [c4b0] | (simp only [i64_w, i32_w]; rw [c4b0]) | skip)
   have H' := Aside0.mk H
   clear H
   go_wp2
   go_meet
   case rel => exact ⟨_, (true), rs_, H', ⟨by first | omega | exact Nat.le_refl _⟩, ⟨m0_⟩⟩
  ·rw [if_neg c4] at H
   have c4b0 : decide (1048576 < (l0.length : Int)) = false := decide_eq_false c4
   have c4b1 : decide (1048576 < l0.length) = false := decide_eq_false (by omega)
   clear c4
   (first | rw [c4b0] | (simp only [i64_w, i32_w]; rw [c4b0]) | skip)
   have H' := Aside0.mk H
   clear H
   go_wp2
   go_meet
   case rel => exact ⟨_, (decide ((l1.length : Int) > 1048576)), rs_, H', ⟨by first | omega | exact Nat.le_refl _⟩, ⟨m0_⟩⟩
 case rest =>
  clear HC3
  try clear c1
  try clear p2
  try clear c4
  try clear c4b0
  try clear c4b1
  obtain ⟨kq, x25_2, rfl, HA, HJ2, HB⟩ := hcut
  cases kq with
  | zero => exact absurd HA.out (by simp [laws_FnBakRwr.j0])
  | succ kj2 =>
   have H := HA.out
   clear HA
   simp only [laws_FnBakRwr.j0] at H
   by_cases c5 : x25_2 = true
   ·subst c5
    have H1 : (some true) = some r := by rw [if_pos rfl] at H; exact H
    clear H
    have H := H1
    clear H1
    obtain rfl := Option.some.inj H
    go_wp2
    go_ret
    exact ⟨fi_, m0_⟩
   ·replace c5 := Bool.eq_false_iff.mpr c5
    subst c5
    have H1 : ((spec_DrawRwrLine.f kj2 l0).bind fun bt619 => ((spec_DrawBakLine.f kj2 l1).bind fun bt624 => ((impl_RwrLine.f kj2 bt619.1 bt619.2).bind fun bt629 => ((spec_RwrLine.f kj2 bt619.1 bt619.2).bind fun bt634 => (if bt629.2.toList = bt634.2.toList then ((impl_LinSays.f bt619.2).bind fun bt639 => ((spec_MapOk.f kj2 bt619.1).bind fun t643 => (if t643 = true then ((spec_LinOk.f kj2 bt619.2).bind fun t644 => (if t644 = true then (if bt639.2.2 = true then (if bt629.2.toList = ([110, 111, 110, 101] : List UInt8) then (laws_FnBakRwr.j1 kj2 bt624.2 false bt624.1) else ((impl_BakLine.f kj2 bt629.1 bt629.2).bind fun t645 => (laws_FnBakRwr.j1 kj2 bt624.2 (t645.toList != bt619.2.toList) bt624.1))) else (laws_FnBakRwr.j1 kj2 bt624.2 false bt624.1)) else (laws_FnBakRwr.j1 kj2 bt624.2 false bt624.1))) else (laws_FnBakRwr.j1 kj2 bt624.2 false bt624.1)))) else (some false)))))) = some r := by rw [if_neg (show ¬ (false = true) by decide)] at H; exact H
    clear H
    have H := H1
    clear H1
    replace H := Option.bind_eq_some_iff.mp H
    obtain ⟨⟨t619, t622⟩, A60, H⟩ := H
    try dsimp only at H
    have A6 := Aside0.mk A60
    clear A60
    replace H := Option.bind_eq_some_iff.mp H
    obtain ⟨⟨t624, t627⟩, A70, H⟩ := H
    try dsimp only at H
    have A7 := Aside0.mk A70
    clear A70
    replace H := Option.bind_eq_some_iff.mp H
    obtain ⟨⟨t629, t632⟩, A80, H⟩ := H
    try dsimp only at H
    have A8 := Aside0.mk A80
    clear A80
    replace H := Option.bind_eq_some_iff.mp H
    obtain ⟨⟨t634, t637⟩, A90, H⟩ := H
    try dsimp only at H
    have A9 := Aside0.mk A90
    clear A90
    by_cases c10 : t632.toList = t637.toList
    ·rw [if_pos c10] at H
     have c10b0 : (t632.toList == t637.toList) = true := beq_iff_eq.mpr c10
     have c10b1 : (t632.toList != t637.toList) = false := bne_eq_false_iff_eq.mpr c10
     clear c10
     replace H := Option.bind_eq_some_iff.mp H
     obtain ⟨⟨t639, t640, t641⟩, A110, H⟩ := H
     try dsimp only at H
     have A11 := Aside0.mk A110
     clear A110
     have HC12 := Aside0.mk H
     clear H
     go_upto_region 10 with (first | ((with_reducible refine gate_callee (f := 12) rfl ?_); refine gL (some 28) Tryz.func12 #[.slice A0 l0.length c0] ?_; (with_reducible refine (spec_DrawRwrLine.calls kj2 _ _ l0 t619 t622 _ ?side1 ?side2 A6.out).mono ?_); (case side1 => exact m1_); (case side2 => exact HC0.out); rintro e w13 ⟨v620, rfl, ho0, hb⟩; refine ⟨_, rfl, ?_⟩; have HO621 := Aside0.mk (Kd.R_lower ho0 (below_size (bl HB))); replace HB := hbS HB hb; (try clear hb); (try clear ho0)) | ((with_reducible refine gate_dst (N := 5) rfl ?_); refine box_event rfl (N := 5) rfl (cs := #[.slice none 0 0]) (t := 25) hr_ ?_; intro gb623 hg w14 hbox hb; replace HO621 := Aside0.mk (Kd.R_below (rs HO621) hb); have BK623 := Aside0.mk hbox; have GW623 := gwE HB hg; have GE623 := gwE HB hg; replace HB := hbS HB hb; clear hb hbox hg; obtain ⟨Ao15, co15, eo15⟩ := Kd.R_slice HO621.out; subst eo15; have hcz16_0 := bcell BK623 0; have hfz16_0 := blk_frozen BK623.out 0) | ((with_reducible refine gate_callee (f := 30) rfl ?_); refine gL (some 33) Tryz.func30 #[.slice A1 l1.length c1] ?_; (with_reducible refine (spec_DrawBakLine.calls kj2 _ _ l1 t624 t627 _ ?side1 ?side2 A7.out).mono ?_); (case side1 => exact Kd.C_below HR1.out (bl HB)); (case side2 => exact HC1.out); rintro e w17 ⟨v625, rfl, ho0, hb⟩; refine ⟨_, rfl, ?_⟩; have HO626 := Aside0.mk (Kd.R_lower (Kd.R_new' ho0 (Kd.R_lt (by (with_reducible repeat apply ru); exact (Kd.R_mono (Kd.R_far (p := ⟨gb623, 0, none⟩) (Kd.R_types HO621.out BK623.out (by decide)) (fun _ hk => hk.2) (.slice Ao15 t619.length co15)) (fun _ h_ => h_.1))))) (below_size (bl HB))); replace HO621 := Aside0.mk (Kd.R_elder' (by (with_reducible repeat apply ru); exact (Kd.R_mono (Kd.R_far (p := ⟨gb623, 0, none⟩) (Kd.R_types HO621.out BK623.out (by decide)) (fun _ hk => hk.2) (.slice Ao15 t619.length co15)) (fun _ h_ => h_.1))) (Kd.R_base ho0) hb); replace BK623 := Aside0.mk (blk_below (g := gb623) (o := .cells #[.slice Ao15 t619.length co15] 25 (0, 0)) (by (with_reducible repeat refine bu ?_); refine blk_put (cs := #[.slice none 0 0]) ?_ 0 _ rfl; (with_reducible repeat refine bu ?_); exact BK623.out) hb); replace HB := hbS HB hb; (try clear hb); (try clear hk); (try clear ho0)) | ((with_reducible refine gate_dst (N := 7) rfl ?_); refine box_event rfl (N := 7) rfl (cs := #[.slice none 0 0]) (t := 25) hr_ ?_; intro gb628 hg w18 hbox hb; replace HO621 := Aside0.mk (Kd.R_below (rs HO621) hb); replace HO626 := Aside0.mk (Kd.R_below (rs HO626) hb); have BK628 := Aside0.mk hbox; have GW628 := gwE HB hg; have GE628 := gwE HB hg; replace HB := hbS HB hb; have NB623_628 := neL BK623 hg; have NB628_623 := neG BK623 hg; replace BK623 := bkB BK623 hb; clear hb hbox hg; obtain ⟨Ao19, co19, eo19⟩ := Kd.R_slice HO626.out; subst eo19; have hnb20 := NB628_623.out; have hnc20 := NB623_628.out; have hcz21_0 := bcell BK628 0; have hfz21_0 := blk_frozen BK628.out 0; have hcz22_0 := bcell BK623 0; have hfz22_0 := blk_frozen BK623.out 0) | ((with_reducible refine gate_callee (f := 13) rfl ?_); refine gL (some 39) Tryz.func13 #[.agg #[.slice Ao15 t619.length co15], .string t622] ?_; (with_reducible refine (impl_RwrLine.calls kj2 _ _ t619 t622 t629 t632 _ ?side1 ?side2 A8.out (EnvE.below hE (bl HB))).mono ?_); (case side1 => refine (Kd.R_reads' (e := 34) (base := w.heap.size) (ok := fun k_ => (True ∧ some k_ ≠ (.slice Ao19 t624.length co19 : Value).ownBlock)) (n := t619.length) (c := co15) ?_).2.2; exact (by (with_reducible repeat apply ru); exact (Kd.R_mono (Kd.R_far (p := ⟨gb628, 0, none⟩) (Kd.R_types HO621.out BK628.out (by decide)) (fun _ hk => hk.2) (.slice Ao19 t624.length co19)) (fun _ h_ => h_.1)))); (case side2 => exact (Kd.R_reads' HO621.out).2.1); rintro e w23 ⟨v630, rfl, ho0, hb⟩; refine ⟨_, rfl, ?_⟩; have HO631 := Aside0.mk (Kd.R_lower (Kd.R_new' (Kd.R_new' ho0 (Kd.R_lt (by (with_reducible repeat apply ru); exact (Kd.R_mono (Kd.R_far (p := ⟨gb628, 0, none⟩) (Kd.R_types HO621.out BK628.out (by decide)) (fun _ hk => hk.2) (.slice Ao19 t624.length co19)) (fun _ h_ => h_.1))))) (Kd.R_lt (by (with_reducible repeat apply ru); exact (Kd.R_mono (Kd.R_far (p := ⟨gb628, 0, none⟩) (Kd.R_types HO626.out BK628.out (by decide)) (fun _ hk => hk.2) (.slice Ao19 t624.length co19)) (fun _ h_ => h_.1))))) (below_size (bl HB))); replace HO621 := Aside0.mk (Kd.R_elder' (by (with_reducible repeat apply ru); exact (Kd.R_mono (Kd.R_far (p := ⟨gb628, 0, none⟩) (Kd.R_types HO621.out BK628.out (by decide)) (fun _ hk => hk.2) (.slice Ao19 t624.length co19)) (fun _ h_ => h_.1))) (Kd.R_base ho0) hb); replace HO626 := Aside0.mk (Kd.R_elder' (by (with_reducible repeat apply ru); exact (Kd.R_mono (Kd.R_far (p := ⟨gb628, 0, none⟩) (Kd.R_types HO626.out BK628.out (by decide)) (fun _ hk => hk.2) (.slice Ao19 t624.length co19)) (fun _ h_ => h_.1))) (Kd.R_base ho0) hb); replace BK623 := Aside0.mk (blk_below (g := gb623) (o := .cells #[.slice Ao15 t619.length co15] 25 (0, 0)) (by (with_reducible repeat refine bu ?_); refine blk_far ?_ NB623_628.out _; (with_reducible repeat refine bu ?_); exact BK623.out) hb); replace BK628 := Aside0.mk (blk_below (g := gb628) (o := .cells #[.slice Ao19 t624.length co19] 25 (0, 0)) (by (with_reducible repeat refine bu ?_); refine blk_put (cs := #[.slice none 0 0]) ?_ 0 _ rfl; (with_reducible repeat refine bu ?_); exact BK628.out) hb); replace HB := hbS HB hb; (try clear hb); (try clear hk); (try clear ho0)) | ((with_reducible refine gate_dst (N := 9) rfl ?_); refine box_event rfl (N := 9) rfl (cs := #[.slice none 0 0]) (t := 25) hr_ ?_; intro gb633 hg w24 hbox hb; replace HO621 := Aside0.mk (Kd.R_below (rs HO621) hb); replace HO626 := Aside0.mk (Kd.R_below (rs HO626) hb); replace HO631 := Aside0.mk (Kd.R_below (rs HO631) hb); have BK633 := Aside0.mk hbox; have GW633 := gwE HB hg; have GE633 := gwE HB hg; replace HB := hbS HB hb; have NB623_633 := neL BK623 hg; have NB633_623 := neG BK623 hg; replace BK623 := bkB BK623 hb; have NB628_633 := neL BK628 hg; have NB633_628 := neG BK628 hg; replace BK628 := bkB BK628 hb; clear hb hbox hg; obtain ⟨Ao25, co25, eo25⟩ := Kd.R_slice HO631.out; subst eo25; have hnb26 := NB633_623.out; have hnc26 := NB623_633.out; have hnb27 := NB633_628.out; have hnc27 := NB628_633.out; have hcz28_0 := bcell BK633 0; have hfz28_0 := blk_frozen BK633.out 0; have hcz29_0 := bcell BK623 0; have hfz29_0 := blk_frozen BK623.out 0) | ((with_reducible refine gate_callee (f := 14) rfl ?_); refine gL (some 45) Tryz.func14 #[.agg #[.slice Ao15 t619.length co15], .string t622] ?_; (with_reducible refine (spec_RwrLine.calls kj2 _ _ t619 t622 t634 t637 _ ?side1 ?side2 A9.out).mono ?_); (case side1 => refine (Kd.R_reads' (e := 34) (base := w.heap.size) (ok := fun k_ => ((True ∧ some k_ ≠ (.slice Ao19 t624.length co19 : Value).ownBlock) ∧ some k_ ≠ (.slice Ao25 t629.length co25 : Value).ownBlock)) (n := t619.length) (c := co15) ?_).2.2; exact (by (with_reducible repeat apply ru); exact (Kd.R_mono (Kd.R_far (p := ⟨gb633, 0, none⟩) (Kd.R_types HO621.out BK633.out (by decide)) (fun _ hk => hk.2) (.slice Ao25 t629.length co25)) (fun _ h_ => h_.1)))); (case side2 => exact (Kd.R_reads' HO621.out).2.1); rintro e w30 ⟨v635, rfl, ho0, hb⟩; refine ⟨_, rfl, ?_⟩; have HO636 := Aside0.mk (Kd.R_lower (Kd.R_new' (Kd.R_new' (Kd.R_new' ho0 (Kd.R_lt (by (with_reducible repeat apply ru); exact (Kd.R_mono (Kd.R_far (p := ⟨gb633, 0, none⟩) (Kd.R_types HO621.out BK633.out (by decide)) (fun _ hk => hk.2) (.slice Ao25 t629.length co25)) (fun _ h_ => h_.1))))) (Kd.R_lt (by (with_reducible repeat apply ru); exact (Kd.R_mono (Kd.R_far (p := ⟨gb633, 0, none⟩) (Kd.R_types HO626.out BK633.out (by decide)) (fun _ hk => hk.2) (.slice Ao25 t629.length co25)) (fun _ h_ => h_.1))))) (Kd.R_lt (by (with_reducible repeat apply ru); exact (Kd.R_mono (Kd.R_far (p := ⟨gb633, 0, none⟩) (Kd.R_types HO631.out BK633.out (by decide)) (fun _ hk => hk.2) (.slice Ao25 t629.length co25)) (fun _ h_ => h_.1))))) (below_size (bl HB))); replace HO621 := Aside0.mk (Kd.R_elder' (by (with_reducible repeat apply ru); exact (Kd.R_mono (Kd.R_far (p := ⟨gb633, 0, none⟩) (Kd.R_types HO621.out BK633.out (by decide)) (fun _ hk => hk.2) (.slice Ao25 t629.length co25)) (fun _ h_ => h_.1))) (Kd.R_base ho0) hb); replace HO626 := Aside0.mk (Kd.R_elder' (by (with_reducible repeat apply ru); exact (Kd.R_mono (Kd.R_far (p := ⟨gb633, 0, none⟩) (Kd.R_types HO626.out BK633.out (by decide)) (fun _ hk => hk.2) (.slice Ao25 t629.length co25)) (fun _ h_ => h_.1))) (Kd.R_base ho0) hb); replace HO631 := Aside0.mk (Kd.R_elder' (by (with_reducible repeat apply ru); exact (Kd.R_mono (Kd.R_far (p := ⟨gb633, 0, none⟩) (Kd.R_types HO631.out BK633.out (by decide)) (fun _ hk => hk.2) (.slice Ao25 t629.length co25)) (fun _ h_ => h_.1))) (Kd.R_base ho0) hb); replace BK623 := Aside0.mk (blk_below (g := gb623) (o := .cells #[.slice Ao15 t619.length co15] 25 (0, 0)) (by (with_reducible repeat refine bu ?_); refine blk_far ?_ NB623_633.out _; (with_reducible repeat refine bu ?_); exact BK623.out) hb); replace BK628 := Aside0.mk (blk_below (g := gb628) (o := .cells #[.slice Ao19 t624.length co19] 25 (0, 0)) (by (with_reducible repeat refine bu ?_); refine blk_far ?_ NB628_633.out _; (with_reducible repeat refine bu ?_); exact BK628.out) hb); replace BK633 := Aside0.mk (blk_below (g := gb633) (o := .cells #[.slice Ao25 t629.length co25] 25 (0, 0)) (by (with_reducible repeat refine bu ?_); refine blk_put (cs := #[.slice none 0 0]) ?_ 0 _ rfl; (with_reducible repeat refine bu ?_); exact BK633.out) hb); replace HB := hbS HB hb; (try clear hb); (try clear hk); (try clear ho0)) | ((with_reducible refine gate_dst (N := 11) rfl ?_); refine box_event rfl (N := 11) rfl (cs := #[.slice none 0 0]) (t := 25) hr_ ?_; intro gb638 hg w31 hbox hb; replace HO621 := Aside0.mk (Kd.R_below (rs HO621) hb); replace HO626 := Aside0.mk (Kd.R_below (rs HO626) hb); replace HO631 := Aside0.mk (Kd.R_below (rs HO631) hb); replace HO636 := Aside0.mk (Kd.R_below (rs HO636) hb); have BK638 := Aside0.mk hbox; have GW638 := gwE HB hg; have GE638 := gwE HB hg; replace HB := hbS HB hb; have NB623_638 := neL BK623 hg; have NB638_623 := neG BK623 hg; replace BK623 := bkB BK623 hb; have NB628_638 := neL BK628 hg; have NB638_628 := neG BK628 hg; replace BK628 := bkB BK628 hb; have NB633_638 := neL BK633 hg; have NB638_633 := neG BK633 hg; replace BK633 := bkB BK633 hb; clear hb hbox hg; obtain ⟨Ao32, co32, eo32⟩ := Kd.R_slice HO636.out; subst eo32; have hnb33 := NB638_623.out; have hnc33 := NB623_638.out; have hnb34 := NB638_628.out; have hnc34 := NB628_638.out; have hnb35 := NB638_633.out; have hnc35 := NB633_638.out; have hcz36_0 := bcell BK638 0; have hfz36_0 := blk_frozen BK638.out 0) | ((with_reducible refine gate_callee (f := 19) rfl ?_); refine gL (some 53) Tryz.func19 #[.string t622] ?_; (with_reducible refine (impl_LinSays.calls t622 t639 t640 t641 _ A11.out (EnvE.below hE (bl HB))).mono ?_); rintro e w37 ⟨rfl, hb⟩; refine ⟨_, rfl, ?_⟩; replace HO621 := Aside0.mk (Kd.R_below (by (with_reducible repeat apply ru); exact (Kd.R_mono (Kd.R_far (p := ⟨gb638, 0, none⟩) (Kd.R_types HO621.out BK638.out (by decide)) (fun _ hk => hk.2) (.slice Ao32 t634.length co32)) (fun _ h_ => h_.1))) hb); replace HO626 := Aside0.mk (Kd.R_below (by (with_reducible repeat apply ru); exact (Kd.R_mono (Kd.R_far (p := ⟨gb638, 0, none⟩) (Kd.R_types HO626.out BK638.out (by decide)) (fun _ hk => hk.2) (.slice Ao32 t634.length co32)) (fun _ h_ => h_.1))) hb); replace HO631 := Aside0.mk (Kd.R_below (by (with_reducible repeat apply ru); exact (Kd.R_mono (Kd.R_far (p := ⟨gb638, 0, none⟩) (Kd.R_types HO631.out BK638.out (by decide)) (fun _ hk => hk.2) (.slice Ao32 t634.length co32)) (fun _ h_ => h_.1))) hb); replace HO636 := Aside0.mk (Kd.R_below (by (with_reducible repeat apply ru); exact (Kd.R_mono (Kd.R_far (p := ⟨gb638, 0, none⟩) (Kd.R_types HO636.out BK638.out (by decide)) (fun _ hk => hk.2) (.slice Ao32 t634.length co32)) (fun _ h_ => h_.1))) hb); replace BK623 := Aside0.mk (blk_below (g := gb623) (o := .cells #[.slice Ao15 t619.length co15] 25 (0, 0)) (by (with_reducible repeat refine bu ?_); refine blk_far ?_ NB623_638.out _; (with_reducible repeat refine bu ?_); exact BK623.out) hb); replace BK628 := Aside0.mk (blk_below (g := gb628) (o := .cells #[.slice Ao19 t624.length co19] 25 (0, 0)) (by (with_reducible repeat refine bu ?_); refine blk_far ?_ NB628_638.out _; (with_reducible repeat refine bu ?_); exact BK628.out) hb); replace BK633 := Aside0.mk (blk_below (g := gb633) (o := .cells #[.slice Ao25 t629.length co25] 25 (0, 0)) (by (with_reducible repeat refine bu ?_); refine blk_far ?_ NB633_638.out _; (with_reducible repeat refine bu ?_); exact BK633.out) hb); replace BK638 := Aside0.mk (blk_below (g := gb638) (o := .cells #[.slice Ao32 t634.length co32] 25 (0, 0)) (by (with_reducible repeat refine bu ?_); refine blk_put (cs := #[.slice none 0 0]) ?_ 0 _ rfl; (with_reducible repeat refine bu ?_); exact BK638.out) hb); replace HB := hbS HB hb; (try clear hb); (try clear hk)) | ((with_reducible refine gate_dst (N := 13) rfl ?_); refine box_event rfl (N := 13) rfl (cs := #[.int .i64 0, .int .i64 0]) (t := 34) hr_ ?_; intro gb642 hg w38 hbox hb; replace HO621 := Aside0.mk (Kd.R_below (Kd.R_elderB (rs HO621) gb642 (Nat.le_of_eq hg.symm)) hb); replace HO626 := Aside0.mk (Kd.R_below (Kd.R_elderB (rs HO626) gb642 (Nat.le_of_eq hg.symm)) hb); replace HO631 := Aside0.mk (Kd.R_below (Kd.R_elderB (rs HO631) gb642 (Nat.le_of_eq hg.symm)) hb); replace HO636 := Aside0.mk (Kd.R_below (Kd.R_elderB (rs HO636) gb642 (Nat.le_of_eq hg.symm)) hb); have BK642 := Aside0.mk hbox; have GW642 := gwE HB hg; have GE642 := gwE HB hg; replace HB := hbS HB hb; have NB623_642 := neL BK623 hg; have NB642_623 := neG BK623 hg; replace BK623 := bkB BK623 hb; have NB628_642 := neL BK628 hg; have NB642_628 := neG BK628 hg; replace BK628 := bkB BK628 hb; have NB633_642 := neL BK633 hg; have NB642_633 := neG BK633 hg; replace BK633 := bkB BK633 hb; have NB638_642 := neL BK638 hg; have NB642_638 := neG BK638 hg; replace BK638 := bkB BK638 hb; clear hb hbox hg; have hnb39 := NB642_623.out; have hnc39 := NB623_642.out; have hnb40 := NB642_628.out; have hnc40 := NB628_642.out; have hnb41 := NB642_633.out; have hnc41 := NB633_642.out; have hnb42 := NB642_638.out; have hnc42 := NB638_642.out; have hcz43_0 := bcell BK642 0; have hcz43_1 := bcell BK642 1; have hfz43_0 := blk_frozen BK642.out 0; have hfz43_1 := blk_frozen BK642.out 1))
     (try simp only [Act.put, List.setIfInBounds_toArray, List.set_cons_zero, List.set_cons_succ])
     go_cut [75] (fun v75 wc => ∃ (kq : Nat) (x75_11 : Bool), v75 = .bool x75_11 ∧ Aside0 (laws_FnBakRwr.j1 kq t627 x75_11 t624 = some r) ∧ Aside0 (kq ≤ kj2) ∧ Aside0 (Kd.R k34 34 wc w.heap.size (fun k_ => some k_ ≠ ((.slice Ao19 t624.length co19) : Value).ownBlock ∧ some k_ ≠ ((.slice Ao25 t629.length co25) : Value).ownBlock ∧ some k_ ≠ ((.slice Ao32 t634.length co32) : Value).ownBlock ∧ k_ ≠ gb642) (.slice Ao15 t619.length co15) t619) ∧ Aside0 (Kd.R k34 34 wc w.heap.size (fun k_ => some k_ ≠ ((.slice Ao15 t619.length co15) : Value).ownBlock ∧ some k_ ≠ ((.slice Ao25 t629.length co25) : Value).ownBlock ∧ some k_ ≠ ((.slice Ao32 t634.length co32) : Value).ownBlock ∧ k_ ≠ gb642) (.slice Ao19 t624.length co19) t624) ∧ Aside0 (Kd.R k34 34 wc w.heap.size (fun k_ => some k_ ≠ ((.slice Ao15 t619.length co15) : Value).ownBlock ∧ some k_ ≠ ((.slice Ao19 t624.length co19) : Value).ownBlock ∧ some k_ ≠ ((.slice Ao32 t634.length co32) : Value).ownBlock ∧ k_ ≠ gb642) (.slice Ao25 t629.length co25) t629) ∧ Aside0 (Kd.R k34 34 wc w.heap.size (fun k_ => some k_ ≠ ((.slice Ao15 t619.length co15) : Value).ownBlock ∧ some k_ ≠ ((.slice Ao19 t624.length co19) : Value).ownBlock ∧ some k_ ≠ ((.slice Ao25 t629.length co25) : Value).ownBlock ∧ k_ ≠ gb642) (.slice Ao32 t634.length co32) t634) ∧ Aside0 (wc.heap[gb623]? = some (.cells #[(.slice Ao15 t619.length co15)] 25 (0, 0))) ∧ Aside0 (wc.heap[gb628]? = some (.cells #[(.slice Ao19 t624.length co19)] 25 (0, 0))) ∧ Aside0 (wc.heap[gb633]? = some (.cells #[(.slice Ao25 t629.length co25)] 25 (0, 0))) ∧ Aside0 (wc.heap[gb638]? = some (.cells #[(.slice Ao32 t634.length co32)] 25 (0, 0))) ∧ Aside0 (wc.heap[gb642]? = some (.cells #[.int .i64 t639, .int .i64 t640] 34 (0, 0))) ∧ Aside0 (Below w.heap.size w wc))
     case first =>
      have H := HC12.out
      clear HC12
      replace H := Option.bind_eq_some_iff.mp H
      obtain ⟨t643, A440, H⟩ := H
      try dsimp only at H
      have A44 := Aside0.mk A440
      clear A440
      by_cases c45 : t643 = true
      ·subst c45
       have H1 : ((spec_LinOk.f kj2 t622).bind fun t644 => (if t644 = true then (if t641 = true then (if t632.toList = ([110, 111, 110, 101] : List UInt8) then (laws_FnBakRwr.j1 kj2 t627 false t624) else ((impl_BakLine.f kj2 t629 t632).bind fun t645 => (laws_FnBakRwr.j1 kj2 t627 (t645.toList != t622.toList) t624))) else (laws_FnBakRwr.j1 kj2 t627 false t624)) else (laws_FnBakRwr.j1 kj2 t627 false t624))) = some r := by rw [if_pos rfl] at H; exact H
       clear H
       have H := H1
       clear H1
       replace H := Option.bind_eq_some_iff.mp H
       obtain ⟨t644, A460, H⟩ := H
       try dsimp only at H
       have A46 := Aside0.mk A460
       clear A460
       by_cases c47 : t644 = true
       ·subst c47
        have H1 : (if t641 = true then (if t632.toList = ([110, 111, 110, 101] : List UInt8) then (laws_FnBakRwr.j1 kj2 t627 false t624) else ((impl_BakLine.f kj2 t629 t632).bind fun t645 => (laws_FnBakRwr.j1 kj2 t627 (t645.toList != t622.toList) t624))) else (laws_FnBakRwr.j1 kj2 t627 false t624)) = some r := by rw [if_pos rfl] at H; exact H
        clear H
        have H := H1
        clear H1
        by_cases c48 : t641 = true
        ·subst c48
         have H1 : (if t632.toList = ([110, 111, 110, 101] : List UInt8) then (laws_FnBakRwr.j1 kj2 t627 false t624) else ((impl_BakLine.f kj2 t629 t632).bind fun t645 => (laws_FnBakRwr.j1 kj2 t627 (t645.toList != t622.toList) t624))) = some r := by rw [if_pos rfl] at H; exact H
         clear H
         have H := H1
         clear H1
         by_cases c49 : t632.toList = ([110, 111, 110, 101] : List UInt8)
         ·rw [if_pos c49] at H
          have c49b0 : (t632.toList == ([110, 111, 110, 101] : List UInt8)) = true := beq_iff_eq.mpr c49
          have c49b1 : (t632.toList != ([110, 111, 110, 101] : List UInt8)) = false := bne_eq_false_iff_eq.mpr c49
          clear c49
          (first | rw [c49b0] | (simp only [i64_w, i32_w]; rw [c49b0]) | skip)
          have H' := Aside0.mk H
          clear H
          have hnb50 := NB623_628.out
          have hnc50 := NB628_623.out
          have hnb51 := NB623_633.out
          have hnc51 := NB633_623.out
          have hnb52 := NB623_638.out
          have hnc52 := NB638_623.out
          have hnb53 := NB623_642.out
          have hnc53 := NB642_623.out
          have hcz54_0 := bcell BK623 0
          have hfz54_0 := blk_frozen BK623.out 0
          go_wp2_with (first | ((with_reducible refine gate_callee (f := 16) rfl ?_); refine gL (some 57) Tryz.func16 #[.agg #[.slice Ao15 t619.length co15]] ?_; (with_reducible refine (spec_MapOk.calls kj2 _ _ t619 true _ ?side1 ?side2 A44.out).mono ?_); (case side1 => refine (Kd.R_reads' (e := 34) (base := w.heap.size) (ok := fun k_ => ((((True ∧ some k_ ≠ (.slice Ao19 t624.length co19 : Value).ownBlock) ∧ some k_ ≠ (.slice Ao25 t629.length co25 : Value).ownBlock) ∧ some k_ ≠ (.slice Ao32 t634.length co32 : Value).ownBlock) ∧ k_ ≠ gb642)) (n := t619.length) (c := co15) ?_).2.2; exact (by (with_reducible repeat apply ru); exact (Kd.R_mono (Kd.R_far (p := ⟨gb642, 1, none⟩) (Kd.R_far (p := ⟨gb642, 0, none⟩) (Kd.R_mono HO621.out (fun k_ hk => (⟨hk, hk.2⟩ : _ ∧ k_ ≠ gb642))) (fun _ hk => hk.2) (.int .i64 t639)) (fun _ hk => hk.2) (.int .i64 t640)) (fun _ h_ => h_.1)))); (case side2 => exact (Kd.R_reads' HO621.out).2.1); rintro e w55 ⟨rfl, hb⟩; refine ⟨_, rfl, ?_⟩; replace HO621 := Aside0.mk (Kd.R_below (by (with_reducible repeat apply ru); exact (Kd.R_mono (Kd.R_far (p := ⟨gb642, 1, none⟩) (Kd.R_far (p := ⟨gb642, 0, none⟩) (Kd.R_mono HO621.out (fun k_ hk => (⟨hk, hk.2⟩ : _ ∧ k_ ≠ gb642))) (fun _ hk => hk.2) (.int .i64 t639)) (fun _ hk => hk.2) (.int .i64 t640)) (fun _ h_ => h_.1))) hb); replace HO626 := Aside0.mk (Kd.R_below (by (with_reducible repeat apply ru); exact (Kd.R_mono (Kd.R_far (p := ⟨gb642, 1, none⟩) (Kd.R_far (p := ⟨gb642, 0, none⟩) (Kd.R_mono HO626.out (fun k_ hk => (⟨hk, hk.2⟩ : _ ∧ k_ ≠ gb642))) (fun _ hk => hk.2) (.int .i64 t639)) (fun _ hk => hk.2) (.int .i64 t640)) (fun _ h_ => h_.1))) hb); replace HO631 := Aside0.mk (Kd.R_below (by (with_reducible repeat apply ru); exact (Kd.R_mono (Kd.R_far (p := ⟨gb642, 1, none⟩) (Kd.R_far (p := ⟨gb642, 0, none⟩) (Kd.R_mono HO631.out (fun k_ hk => (⟨hk, hk.2⟩ : _ ∧ k_ ≠ gb642))) (fun _ hk => hk.2) (.int .i64 t639)) (fun _ hk => hk.2) (.int .i64 t640)) (fun _ h_ => h_.1))) hb); replace HO636 := Aside0.mk (Kd.R_below (by (with_reducible repeat apply ru); exact (Kd.R_mono (Kd.R_far (p := ⟨gb642, 1, none⟩) (Kd.R_far (p := ⟨gb642, 0, none⟩) (Kd.R_mono HO636.out (fun k_ hk => (⟨hk, hk.2⟩ : _ ∧ k_ ≠ gb642))) (fun _ hk => hk.2) (.int .i64 t639)) (fun _ hk => hk.2) (.int .i64 t640)) (fun _ h_ => h_.1))) hb); replace BK623 := Aside0.mk (blk_below (g := gb623) (o := .cells #[.slice Ao15 t619.length co15] 25 (0, 0)) (by (with_reducible repeat refine bu ?_); refine blk_far ?_ NB623_642.out _; (with_reducible repeat refine bu ?_); refine blk_far ?_ NB623_642.out _; (with_reducible repeat refine bu ?_); exact BK623.out) hb); replace BK628 := Aside0.mk (blk_below (g := gb628) (o := .cells #[.slice Ao19 t624.length co19] 25 (0, 0)) (by (with_reducible repeat refine bu ?_); refine blk_far ?_ NB628_642.out _; (with_reducible repeat refine bu ?_); refine blk_far ?_ NB628_642.out _; (with_reducible repeat refine bu ?_); exact BK628.out) hb); replace BK633 := Aside0.mk (blk_below (g := gb633) (o := .cells #[.slice Ao25 t629.length co25] 25 (0, 0)) (by (with_reducible repeat refine bu ?_); refine blk_far ?_ NB633_642.out _; (with_reducible repeat refine bu ?_); refine blk_far ?_ NB633_642.out _; (with_reducible repeat refine bu ?_); exact BK633.out) hb); replace BK638 := Aside0.mk (blk_below (g := gb638) (o := .cells #[.slice Ao32 t634.length co32] 25 (0, 0)) (by (with_reducible repeat refine bu ?_); refine blk_far ?_ NB638_642.out _; (with_reducible repeat refine bu ?_); refine blk_far ?_ NB638_642.out _; (with_reducible repeat refine bu ?_); exact BK638.out) hb); replace BK642 := Aside0.mk (blk_below (g := gb642) (o := .cells #[.int .i64 t639, .int .i64 t640] 34 (0, 0)) (by (with_reducible repeat refine bu ?_); refine blk_put (cs := #[.int .i64 t639, .int .i64 0]) ?_ 1 _ rfl; (with_reducible repeat refine bu ?_); refine blk_put (cs := #[.int .i64 0, .int .i64 0]) ?_ 0 _ rfl; (with_reducible repeat refine bu ?_); exact BK642.out) hb); replace HB := hbS HB hb; (try clear hb); (try clear hk)) | (go_at_call 17; (with_reducible refine (spec_LinOk.calls kj2 t622 true _ A46.out).mono ?_); rintro e w' ⟨rfl, ⟨nd, rfl⟩⟩))
          go_meet
          case rel => exact ⟨_, (false), rs_, H', ⟨by have := HJ2.out; first | omega | exact Nat.le_refl _⟩, ⟨by (with_reducible repeat apply ru); exact Kd.R_mono HO621.out (fun _ hk => ⟨hk.1.1.1.2, ⟨hk.1.1.2, ⟨hk.1.2, hk.2⟩⟩⟩)⟩, ⟨by (with_reducible repeat apply ru); exact Kd.R_mono HO626.out (fun _ hk => ⟨hk.1.1.1.2, ⟨hk.1.1.2, ⟨hk.1.2, hk.2⟩⟩⟩)⟩, ⟨by (with_reducible repeat apply ru); exact Kd.R_mono HO631.out (fun _ hk => ⟨hk.1.1.1.2, ⟨hk.1.1.2, ⟨hk.1.2, hk.2⟩⟩⟩)⟩, ⟨by (with_reducible repeat apply ru); exact Kd.R_mono HO636.out (fun _ hk => ⟨hk.1.1.1.2, ⟨hk.1.1.2, ⟨hk.1.2, hk.2⟩⟩⟩)⟩, ⟨bk BK623⟩, ⟨bk BK628⟩, ⟨bk BK633⟩, ⟨bk BK638⟩, ⟨bk BK642⟩, ⟨m2_⟩⟩
         ·rw [if_neg c49] at H
          have c49b0 : (t632.toList == ([110, 111, 110, 101] : List UInt8)) = false := beq_eq_false_iff_ne.mpr c49
          have c49b1 : (t632.toList != ([110, 111, 110, 101] : List UInt8)) = true := bne_iff_ne.mpr c49
          (first | rw [c49b0] | (simp only [i64_w, i32_w]; rw [c49b0]) | skip)
          replace H := Option.bind_eq_some_iff.mp H
          obtain ⟨t645, A560, H⟩ := H
          try dsimp only at H
          have A56 := Aside0.mk A560
          clear A560
          have H' := Aside0.mk H
          clear H
          have hnb57 := NB623_628.out
          have hnc57 := NB628_623.out
          have hnb58 := NB623_633.out
          have hnc58 := NB633_623.out
          have hnb59 := NB623_638.out
          have hnc59 := NB638_623.out
          have hnb60 := NB623_642.out
          have hnc60 := NB642_623.out
          have hcz61_0 := bcell BK623 0
          have hfz61_0 := blk_frozen BK623.out 0
          go_wp2_with (first | ((with_reducible refine gate_callee (f := 16) rfl ?_); refine gL (some 57) Tryz.func16 #[.agg #[.slice Ao15 t619.length co15]] ?_; (with_reducible refine (spec_MapOk.calls kj2 _ _ t619 true _ ?side1 ?side2 A44.out).mono ?_); (case side1 => refine (Kd.R_reads' (e := 34) (base := w.heap.size) (ok := fun k_ => ((((True ∧ some k_ ≠ (.slice Ao19 t624.length co19 : Value).ownBlock) ∧ some k_ ≠ (.slice Ao25 t629.length co25 : Value).ownBlock) ∧ some k_ ≠ (.slice Ao32 t634.length co32 : Value).ownBlock) ∧ k_ ≠ gb642)) (n := t619.length) (c := co15) ?_).2.2; exact (by (with_reducible repeat apply ru); exact (Kd.R_mono (Kd.R_far (p := ⟨gb642, 1, none⟩) (Kd.R_far (p := ⟨gb642, 0, none⟩) (Kd.R_mono HO621.out (fun k_ hk => (⟨hk, hk.2⟩ : _ ∧ k_ ≠ gb642))) (fun _ hk => hk.2) (.int .i64 t639)) (fun _ hk => hk.2) (.int .i64 t640)) (fun _ h_ => h_.1)))); (case side2 => exact (Kd.R_reads' HO621.out).2.1); rintro e w62 ⟨rfl, hb⟩; refine ⟨_, rfl, ?_⟩; replace HO621 := Aside0.mk (Kd.R_below (by (with_reducible repeat apply ru); exact (Kd.R_mono (Kd.R_far (p := ⟨gb642, 1, none⟩) (Kd.R_far (p := ⟨gb642, 0, none⟩) (Kd.R_mono HO621.out (fun k_ hk => (⟨hk, hk.2⟩ : _ ∧ k_ ≠ gb642))) (fun _ hk => hk.2) (.int .i64 t639)) (fun _ hk => hk.2) (.int .i64 t640)) (fun _ h_ => h_.1))) hb); replace HO626 := Aside0.mk (Kd.R_below (by (with_reducible repeat apply ru); exact (Kd.R_mono (Kd.R_far (p := ⟨gb642, 1, none⟩) (Kd.R_far (p := ⟨gb642, 0, none⟩) (Kd.R_mono HO626.out (fun k_ hk => (⟨hk, hk.2⟩ : _ ∧ k_ ≠ gb642))) (fun _ hk => hk.2) (.int .i64 t639)) (fun _ hk => hk.2) (.int .i64 t640)) (fun _ h_ => h_.1))) hb); replace HO631 := Aside0.mk (Kd.R_below (by (with_reducible repeat apply ru); exact (Kd.R_mono (Kd.R_far (p := ⟨gb642, 1, none⟩) (Kd.R_far (p := ⟨gb642, 0, none⟩) (Kd.R_mono HO631.out (fun k_ hk => (⟨hk, hk.2⟩ : _ ∧ k_ ≠ gb642))) (fun _ hk => hk.2) (.int .i64 t639)) (fun _ hk => hk.2) (.int .i64 t640)) (fun _ h_ => h_.1))) hb); replace HO636 := Aside0.mk (Kd.R_below (by (with_reducible repeat apply ru); exact (Kd.R_mono (Kd.R_far (p := ⟨gb642, 1, none⟩) (Kd.R_far (p := ⟨gb642, 0, none⟩) (Kd.R_mono HO636.out (fun k_ hk => (⟨hk, hk.2⟩ : _ ∧ k_ ≠ gb642))) (fun _ hk => hk.2) (.int .i64 t639)) (fun _ hk => hk.2) (.int .i64 t640)) (fun _ h_ => h_.1))) hb); replace BK623 := Aside0.mk (blk_below (g := gb623) (o := .cells #[.slice Ao15 t619.length co15] 25 (0, 0)) (by (with_reducible repeat refine bu ?_); refine blk_far ?_ NB623_642.out _; (with_reducible repeat refine bu ?_); refine blk_far ?_ NB623_642.out _; (with_reducible repeat refine bu ?_); exact BK623.out) hb); replace BK628 := Aside0.mk (blk_below (g := gb628) (o := .cells #[.slice Ao19 t624.length co19] 25 (0, 0)) (by (with_reducible repeat refine bu ?_); refine blk_far ?_ NB628_642.out _; (with_reducible repeat refine bu ?_); refine blk_far ?_ NB628_642.out _; (with_reducible repeat refine bu ?_); exact BK628.out) hb); replace BK633 := Aside0.mk (blk_below (g := gb633) (o := .cells #[.slice Ao25 t629.length co25] 25 (0, 0)) (by (with_reducible repeat refine bu ?_); refine blk_far ?_ NB633_642.out _; (with_reducible repeat refine bu ?_); refine blk_far ?_ NB633_642.out _; (with_reducible repeat refine bu ?_); exact BK633.out) hb); replace BK638 := Aside0.mk (blk_below (g := gb638) (o := .cells #[.slice Ao32 t634.length co32] 25 (0, 0)) (by (with_reducible repeat refine bu ?_); refine blk_far ?_ NB638_642.out _; (with_reducible repeat refine bu ?_); refine blk_far ?_ NB638_642.out _; (with_reducible repeat refine bu ?_); exact BK638.out) hb); replace BK642 := Aside0.mk (blk_below (g := gb642) (o := .cells #[.int .i64 t639, .int .i64 t640] 34 (0, 0)) (by (with_reducible repeat refine bu ?_); refine blk_put (cs := #[.int .i64 t639, .int .i64 0]) ?_ 1 _ rfl; (with_reducible repeat refine bu ?_); refine blk_put (cs := #[.int .i64 0, .int .i64 0]) ?_ 0 _ rfl; (with_reducible repeat refine bu ?_); exact BK642.out) hb); replace HB := hbS HB hb; (try clear hb); (try clear hk)) | (go_at_call 17; (with_reducible refine (spec_LinOk.calls kj2 t622 true _ A46.out).mono ?_); rintro e w' ⟨rfl, ⟨nd, rfl⟩⟩; have hnb63 := NB633_628.out; have hnc63 := NB628_633.out; have hnb64 := NB633_638.out; have hnc64 := NB638_633.out; have hnb65 := NB633_642.out; have hnc65 := NB642_633.out; have hcz66_0 := bcell BK633 0; have hfz66_0 := blk_frozen BK633.out 0) | (go_at_call 31; (with_reducible refine (impl_BakLine.calls kj2 _ _ t629 t632 t645 _ ?side1 ?side2 A56.out (EnvE.below hE (bl HB))).mono ?_); (case side1 => repeat (first | exact (Kd.R_reads' HO631.out).2.2 | (with_reducible refine Kd.C_alloc ?_ _) | (with_reducible refine Kd.C_drewN ?_ _) | (with_reducible refine Kd.C_drew ?_))); (case side2 => exact (Kd.R_reads' HO631.out).2.1); rintro e w67 ⟨rfl, hb⟩; replace HO621 := Aside0.mk (Kd.R_below (rs HO621) hb); replace HO626 := Aside0.mk (Kd.R_below (rs HO626) hb); replace HO631 := Aside0.mk (Kd.R_below (rs HO631) hb); replace HO636 := Aside0.mk (Kd.R_below (rs HO636) hb); replace BK623 := bkB BK623 hb; replace BK628 := bkB BK628 hb; replace BK633 := bkB BK633 hb; replace BK638 := bkB BK638 hb; replace BK642 := bkB BK642 hb; replace HB := hbS HB hb; (try clear hb)))
          go_meet
          case rel => exact ⟨_, ((t645.toList != t622.toList)), rs_, H', ⟨by have := HJ2.out; first | omega | exact Nat.le_refl _⟩, ⟨by (with_reducible repeat apply ru); exact Kd.R_mono HO621.out (fun _ hk => ⟨hk.1.1.1.2, ⟨hk.1.1.2, ⟨hk.1.2, hk.2⟩⟩⟩)⟩, ⟨by (with_reducible repeat apply ru); exact Kd.R_mono HO626.out (fun _ hk => ⟨hk.1.1.1.2, ⟨hk.1.1.2, ⟨hk.1.2, hk.2⟩⟩⟩)⟩, ⟨by (with_reducible repeat apply ru); exact Kd.R_mono HO631.out (fun _ hk => ⟨hk.1.1.1.2, ⟨hk.1.1.2, ⟨hk.1.2, hk.2⟩⟩⟩)⟩, ⟨by (with_reducible repeat apply ru); exact Kd.R_mono HO636.out (fun _ hk => ⟨hk.1.1.1.2, ⟨hk.1.1.2, ⟨hk.1.2, hk.2⟩⟩⟩)⟩, ⟨bk BK623⟩, ⟨bk BK628⟩, ⟨bk BK633⟩, ⟨bk BK638⟩, ⟨bk BK642⟩, ⟨m2_⟩⟩
        ·replace c48 := Bool.eq_false_iff.mpr c48
         subst c48
         have H1 : (laws_FnBakRwr.j1 kj2 t627 false t624) = some r := by rw [if_neg (show ¬ (false = true) by decide)] at H; exact H
         clear H
         have H := H1
         clear H1
         have H' := Aside0.mk H
         clear H
         have hnb68 := NB623_628.out
         have hnc68 := NB628_623.out
         have hnb69 := NB623_633.out
         have hnc69 := NB633_623.out
         have hnb70 := NB623_638.out
         have hnc70 := NB638_623.out
         have hnb71 := NB623_642.out
         have hnc71 := NB642_623.out
         have hcz72_0 := bcell BK623 0
         have hfz72_0 := blk_frozen BK623.out 0
         go_wp2_with (first | ((with_reducible refine gate_callee (f := 16) rfl ?_); refine gL (some 57) Tryz.func16 #[.agg #[.slice Ao15 t619.length co15]] ?_; (with_reducible refine (spec_MapOk.calls kj2 _ _ t619 true _ ?side1 ?side2 A44.out).mono ?_); (case side1 => refine (Kd.R_reads' (e := 34) (base := w.heap.size) (ok := fun k_ => ((((True ∧ some k_ ≠ (.slice Ao19 t624.length co19 : Value).ownBlock) ∧ some k_ ≠ (.slice Ao25 t629.length co25 : Value).ownBlock) ∧ some k_ ≠ (.slice Ao32 t634.length co32 : Value).ownBlock) ∧ k_ ≠ gb642)) (n := t619.length) (c := co15) ?_).2.2; exact (by (with_reducible repeat apply ru); exact (Kd.R_mono (Kd.R_far (p := ⟨gb642, 1, none⟩) (Kd.R_far (p := ⟨gb642, 0, none⟩) (Kd.R_mono HO621.out (fun k_ hk => (⟨hk, hk.2⟩ : _ ∧ k_ ≠ gb642))) (fun _ hk => hk.2) (.int .i64 t639)) (fun _ hk => hk.2) (.int .i64 t640)) (fun _ h_ => h_.1)))); (case side2 => exact (Kd.R_reads' HO621.out).2.1); rintro e w73 ⟨rfl, hb⟩; refine ⟨_, rfl, ?_⟩; replace HO621 := Aside0.mk (Kd.R_below (by (with_reducible repeat apply ru); exact (Kd.R_mono (Kd.R_far (p := ⟨gb642, 1, none⟩) (Kd.R_far (p := ⟨gb642, 0, none⟩) (Kd.R_mono HO621.out (fun k_ hk => (⟨hk, hk.2⟩ : _ ∧ k_ ≠ gb642))) (fun _ hk => hk.2) (.int .i64 t639)) (fun _ hk => hk.2) (.int .i64 t640)) (fun _ h_ => h_.1))) hb); replace HO626 := Aside0.mk (Kd.R_below (by (with_reducible repeat apply ru); exact (Kd.R_mono (Kd.R_far (p := ⟨gb642, 1, none⟩) (Kd.R_far (p := ⟨gb642, 0, none⟩) (Kd.R_mono HO626.out (fun k_ hk => (⟨hk, hk.2⟩ : _ ∧ k_ ≠ gb642))) (fun _ hk => hk.2) (.int .i64 t639)) (fun _ hk => hk.2) (.int .i64 t640)) (fun _ h_ => h_.1))) hb); replace HO631 := Aside0.mk (Kd.R_below (by (with_reducible repeat apply ru); exact (Kd.R_mono (Kd.R_far (p := ⟨gb642, 1, none⟩) (Kd.R_far (p := ⟨gb642, 0, none⟩) (Kd.R_mono HO631.out (fun k_ hk => (⟨hk, hk.2⟩ : _ ∧ k_ ≠ gb642))) (fun _ hk => hk.2) (.int .i64 t639)) (fun _ hk => hk.2) (.int .i64 t640)) (fun _ h_ => h_.1))) hb); replace HO636 := Aside0.mk (Kd.R_below (by (with_reducible repeat apply ru); exact (Kd.R_mono (Kd.R_far (p := ⟨gb642, 1, none⟩) (Kd.R_far (p := ⟨gb642, 0, none⟩) (Kd.R_mono HO636.out (fun k_ hk => (⟨hk, hk.2⟩ : _ ∧ k_ ≠ gb642))) (fun _ hk => hk.2) (.int .i64 t639)) (fun _ hk => hk.2) (.int .i64 t640)) (fun _ h_ => h_.1))) hb); replace BK623 := Aside0.mk (blk_below (g := gb623) (o := .cells #[.slice Ao15 t619.length co15] 25 (0, 0)) (by (with_reducible repeat refine bu ?_); refine blk_far ?_ NB623_642.out _; (with_reducible repeat refine bu ?_); refine blk_far ?_ NB623_642.out _; (with_reducible repeat refine bu ?_); exact BK623.out) hb); replace BK628 := Aside0.mk (blk_below (g := gb628) (o := .cells #[.slice Ao19 t624.length co19] 25 (0, 0)) (by (with_reducible repeat refine bu ?_); refine blk_far ?_ NB628_642.out _; (with_reducible repeat refine bu ?_); refine blk_far ?_ NB628_642.out _; (with_reducible repeat refine bu ?_); exact BK628.out) hb); replace BK633 := Aside0.mk (blk_below (g := gb633) (o := .cells #[.slice Ao25 t629.length co25] 25 (0, 0)) (by (with_reducible repeat refine bu ?_); refine blk_far ?_ NB633_642.out _; (with_reducible repeat refine bu ?_); refine blk_far ?_ NB633_642.out _; (with_reducible repeat refine bu ?_); exact BK633.out) hb); replace BK638 := Aside0.mk (blk_below (g := gb638) (o := .cells #[.slice Ao32 t634.length co32] 25 (0, 0)) (by (with_reducible repeat refine bu ?_); refine blk_far ?_ NB638_642.out _; (with_reducible repeat refine bu ?_); refine blk_far ?_ NB638_642.out _; (with_reducible repeat refine bu ?_); exact BK638.out) hb); replace BK642 := Aside0.mk (blk_below (g := gb642) (o := .cells #[.int .i64 t639, .int .i64 t640] 34 (0, 0)) (by (with_reducible repeat refine bu ?_); refine blk_put (cs := #[.int .i64 t639, .int .i64 0]) ?_ 1 _ rfl; (with_reducible repeat refine bu ?_); refine blk_put (cs := #[.int .i64 0, .int .i64 0]) ?_ 0 _ rfl; (with_reducible repeat refine bu ?_); exact BK642.out) hb); replace HB := hbS HB hb; (try clear hb); (try clear hk)) | (go_at_call 17; (with_reducible refine (spec_LinOk.calls kj2 t622 true _ A46.out).mono ?_); rintro e w' ⟨rfl, ⟨nd, rfl⟩⟩))
         go_meet
         case rel => exact ⟨_, (false), rs_, H', ⟨by have := HJ2.out; first | omega | exact Nat.le_refl _⟩, ⟨by (with_reducible repeat apply ru); exact Kd.R_mono HO621.out (fun _ hk => ⟨hk.1.1.1.2, ⟨hk.1.1.2, ⟨hk.1.2, hk.2⟩⟩⟩)⟩, ⟨by (with_reducible repeat apply ru); exact Kd.R_mono HO626.out (fun _ hk => ⟨hk.1.1.1.2, ⟨hk.1.1.2, ⟨hk.1.2, hk.2⟩⟩⟩)⟩, ⟨by (with_reducible repeat apply ru); exact Kd.R_mono HO631.out (fun _ hk => ⟨hk.1.1.1.2, ⟨hk.1.1.2, ⟨hk.1.2, hk.2⟩⟩⟩)⟩, ⟨by (with_reducible repeat apply ru); exact Kd.R_mono HO636.out (fun _ hk => ⟨hk.1.1.1.2, ⟨hk.1.1.2, ⟨hk.1.2, hk.2⟩⟩⟩)⟩, ⟨bk BK623⟩, ⟨bk BK628⟩, ⟨bk BK633⟩, ⟨bk BK638⟩, ⟨bk BK642⟩, ⟨m2_⟩⟩
       ·replace c47 := Bool.eq_false_iff.mpr c47
        subst c47
        have H1 : (laws_FnBakRwr.j1 kj2 t627 false t624) = some r := by rw [if_neg (show ¬ (false = true) by decide)] at H; exact H
        clear H
        have H := H1
        clear H1
        have H' := Aside0.mk H
        clear H
        have hnb74 := NB623_628.out
        have hnc74 := NB628_623.out
        have hnb75 := NB623_633.out
        have hnc75 := NB633_623.out
        have hnb76 := NB623_638.out
        have hnc76 := NB638_623.out
        have hnb77 := NB623_642.out
        have hnc77 := NB642_623.out
        have hcz78_0 := bcell BK623 0
        have hfz78_0 := blk_frozen BK623.out 0
        go_wp2_with (first | ((with_reducible refine gate_callee (f := 16) rfl ?_); refine gL (some 57) Tryz.func16 #[.agg #[.slice Ao15 t619.length co15]] ?_; (with_reducible refine (spec_MapOk.calls kj2 _ _ t619 true _ ?side1 ?side2 A44.out).mono ?_); (case side1 => refine (Kd.R_reads' (e := 34) (base := w.heap.size) (ok := fun k_ => ((((True ∧ some k_ ≠ (.slice Ao19 t624.length co19 : Value).ownBlock) ∧ some k_ ≠ (.slice Ao25 t629.length co25 : Value).ownBlock) ∧ some k_ ≠ (.slice Ao32 t634.length co32 : Value).ownBlock) ∧ k_ ≠ gb642)) (n := t619.length) (c := co15) ?_).2.2; exact (by (with_reducible repeat apply ru); exact (Kd.R_mono (Kd.R_far (p := ⟨gb642, 1, none⟩) (Kd.R_far (p := ⟨gb642, 0, none⟩) (Kd.R_mono HO621.out (fun k_ hk => (⟨hk, hk.2⟩ : _ ∧ k_ ≠ gb642))) (fun _ hk => hk.2) (.int .i64 t639)) (fun _ hk => hk.2) (.int .i64 t640)) (fun _ h_ => h_.1)))); (case side2 => exact (Kd.R_reads' HO621.out).2.1); rintro e w79 ⟨rfl, hb⟩; refine ⟨_, rfl, ?_⟩; replace HO621 := Aside0.mk (Kd.R_below (by (with_reducible repeat apply ru); exact (Kd.R_mono (Kd.R_far (p := ⟨gb642, 1, none⟩) (Kd.R_far (p := ⟨gb642, 0, none⟩) (Kd.R_mono HO621.out (fun k_ hk => (⟨hk, hk.2⟩ : _ ∧ k_ ≠ gb642))) (fun _ hk => hk.2) (.int .i64 t639)) (fun _ hk => hk.2) (.int .i64 t640)) (fun _ h_ => h_.1))) hb); replace HO626 := Aside0.mk (Kd.R_below (by (with_reducible repeat apply ru); exact (Kd.R_mono (Kd.R_far (p := ⟨gb642, 1, none⟩) (Kd.R_far (p := ⟨gb642, 0, none⟩) (Kd.R_mono HO626.out (fun k_ hk => (⟨hk, hk.2⟩ : _ ∧ k_ ≠ gb642))) (fun _ hk => hk.2) (.int .i64 t639)) (fun _ hk => hk.2) (.int .i64 t640)) (fun _ h_ => h_.1))) hb); replace HO631 := Aside0.mk (Kd.R_below (by (with_reducible repeat apply ru); exact (Kd.R_mono (Kd.R_far (p := ⟨gb642, 1, none⟩) (Kd.R_far (p := ⟨gb642, 0, none⟩) (Kd.R_mono HO631.out (fun k_ hk => (⟨hk, hk.2⟩ : _ ∧ k_ ≠ gb642))) (fun _ hk => hk.2) (.int .i64 t639)) (fun _ hk => hk.2) (.int .i64 t640)) (fun _ h_ => h_.1))) hb); replace HO636 := Aside0.mk (Kd.R_below (by (with_reducible repeat apply ru); exact (Kd.R_mono (Kd.R_far (p := ⟨gb642, 1, none⟩) (Kd.R_far (p := ⟨gb642, 0, none⟩) (Kd.R_mono HO636.out (fun k_ hk => (⟨hk, hk.2⟩ : _ ∧ k_ ≠ gb642))) (fun _ hk => hk.2) (.int .i64 t639)) (fun _ hk => hk.2) (.int .i64 t640)) (fun _ h_ => h_.1))) hb); replace BK623 := Aside0.mk (blk_below (g := gb623) (o := .cells #[.slice Ao15 t619.length co15] 25 (0, 0)) (by (with_reducible repeat refine bu ?_); refine blk_far ?_ NB623_642.out _; (with_reducible repeat refine bu ?_); refine blk_far ?_ NB623_642.out _; (with_reducible repeat refine bu ?_); exact BK623.out) hb); replace BK628 := Aside0.mk (blk_below (g := gb628) (o := .cells #[.slice Ao19 t624.length co19] 25 (0, 0)) (by (with_reducible repeat refine bu ?_); refine blk_far ?_ NB628_642.out _; (with_reducible repeat refine bu ?_); refine blk_far ?_ NB628_642.out _; (with_reducible repeat refine bu ?_); exact BK628.out) hb); replace BK633 := Aside0.mk (blk_below (g := gb633) (o := .cells #[.slice Ao25 t629.length co25] 25 (0, 0)) (by (with_reducible repeat refine bu ?_); refine blk_far ?_ NB633_642.out _; (with_reducible repeat refine bu ?_); refine blk_far ?_ NB633_642.out _; (with_reducible repeat refine bu ?_); exact BK633.out) hb); replace BK638 := Aside0.mk (blk_below (g := gb638) (o := .cells #[.slice Ao32 t634.length co32] 25 (0, 0)) (by (with_reducible repeat refine bu ?_); refine blk_far ?_ NB638_642.out _; (with_reducible repeat refine bu ?_); refine blk_far ?_ NB638_642.out _; (with_reducible repeat refine bu ?_); exact BK638.out) hb); replace BK642 := Aside0.mk (blk_below (g := gb642) (o := .cells #[.int .i64 t639, .int .i64 t640] 34 (0, 0)) (by (with_reducible repeat refine bu ?_); refine blk_put (cs := #[.int .i64 t639, .int .i64 0]) ?_ 1 _ rfl; (with_reducible repeat refine bu ?_); refine blk_put (cs := #[.int .i64 0, .int .i64 0]) ?_ 0 _ rfl; (with_reducible repeat refine bu ?_); exact BK642.out) hb); replace HB := hbS HB hb; (try clear hb); (try clear hk)) | (go_at_call 17; (with_reducible refine (spec_LinOk.calls kj2 t622 false _ A46.out).mono ?_); rintro e w' ⟨rfl, ⟨nd, rfl⟩⟩))
        go_meet
        case rel => exact ⟨_, (false), rs_, H', ⟨by have := HJ2.out; first | omega | exact Nat.le_refl _⟩, ⟨by (with_reducible repeat apply ru); exact Kd.R_mono HO621.out (fun _ hk => ⟨hk.1.1.1.2, ⟨hk.1.1.2, ⟨hk.1.2, hk.2⟩⟩⟩)⟩, ⟨by (with_reducible repeat apply ru); exact Kd.R_mono HO626.out (fun _ hk => ⟨hk.1.1.1.2, ⟨hk.1.1.2, ⟨hk.1.2, hk.2⟩⟩⟩)⟩, ⟨by (with_reducible repeat apply ru); exact Kd.R_mono HO631.out (fun _ hk => ⟨hk.1.1.1.2, ⟨hk.1.1.2, ⟨hk.1.2, hk.2⟩⟩⟩)⟩, ⟨by (with_reducible repeat apply ru); exact Kd.R_mono HO636.out (fun _ hk => ⟨hk.1.1.1.2, ⟨hk.1.1.2, ⟨hk.1.2, hk.2⟩⟩⟩)⟩, ⟨bk BK623⟩, ⟨bk BK628⟩, ⟨bk BK633⟩, ⟨bk BK638⟩, ⟨bk BK642⟩, ⟨m2_⟩⟩
      ·replace c45 := Bool.eq_false_iff.mpr c45
       subst c45
       have H1 : (laws_FnBakRwr.j1 kj2 t627 false t624) = some r := by rw [if_neg (show ¬ (false = true) by decide)] at H; exact H
       clear H
       have H := H1
       clear H1
       have H' := Aside0.mk H
       clear H
       have hnb80 := NB623_628.out
       have hnc80 := NB628_623.out
       have hnb81 := NB623_633.out
       have hnc81 := NB633_623.out
       have hnb82 := NB623_638.out
       have hnc82 := NB638_623.out
       have hnb83 := NB623_642.out
       have hnc83 := NB642_623.out
       have hcz84_0 := bcell BK623 0
       have hfz84_0 := blk_frozen BK623.out 0
       go_wp2_with (first | ((with_reducible refine gate_callee (f := 16) rfl ?_); refine gL (some 57) Tryz.func16 #[.agg #[.slice Ao15 t619.length co15]] ?_; (with_reducible refine (spec_MapOk.calls kj2 _ _ t619 false _ ?side1 ?side2 A44.out).mono ?_); (case side1 => refine (Kd.R_reads' (e := 34) (base := w.heap.size) (ok := fun k_ => ((((True ∧ some k_ ≠ (.slice Ao19 t624.length co19 : Value).ownBlock) ∧ some k_ ≠ (.slice Ao25 t629.length co25 : Value).ownBlock) ∧ some k_ ≠ (.slice Ao32 t634.length co32 : Value).ownBlock) ∧ k_ ≠ gb642)) (n := t619.length) (c := co15) ?_).2.2; exact (by (with_reducible repeat apply ru); exact (Kd.R_mono (Kd.R_far (p := ⟨gb642, 1, none⟩) (Kd.R_far (p := ⟨gb642, 0, none⟩) (Kd.R_mono HO621.out (fun k_ hk => (⟨hk, hk.2⟩ : _ ∧ k_ ≠ gb642))) (fun _ hk => hk.2) (.int .i64 t639)) (fun _ hk => hk.2) (.int .i64 t640)) (fun _ h_ => h_.1)))); (case side2 => exact (Kd.R_reads' HO621.out).2.1); rintro e w85 ⟨rfl, hb⟩; refine ⟨_, rfl, ?_⟩; replace HO621 := Aside0.mk (Kd.R_below (by (with_reducible repeat apply ru); exact (Kd.R_mono (Kd.R_far (p := ⟨gb642, 1, none⟩) (Kd.R_far (p := ⟨gb642, 0, none⟩) (Kd.R_mono HO621.out (fun k_ hk => (⟨hk, hk.2⟩ : _ ∧ k_ ≠ gb642))) (fun _ hk => hk.2) (.int .i64 t639)) (fun _ hk => hk.2) (.int .i64 t640)) (fun _ h_ => h_.1))) hb); replace HO626 := Aside0.mk (Kd.R_below (by (with_reducible repeat apply ru); exact (Kd.R_mono (Kd.R_far (p := ⟨gb642, 1, none⟩) (Kd.R_far (p := ⟨gb642, 0, none⟩) (Kd.R_mono HO626.out (fun k_ hk => (⟨hk, hk.2⟩ : _ ∧ k_ ≠ gb642))) (fun _ hk => hk.2) (.int .i64 t639)) (fun _ hk => hk.2) (.int .i64 t640)) (fun _ h_ => h_.1))) hb); replace HO631 := Aside0.mk (Kd.R_below (by (with_reducible repeat apply ru); exact (Kd.R_mono (Kd.R_far (p := ⟨gb642, 1, none⟩) (Kd.R_far (p := ⟨gb642, 0, none⟩) (Kd.R_mono HO631.out (fun k_ hk => (⟨hk, hk.2⟩ : _ ∧ k_ ≠ gb642))) (fun _ hk => hk.2) (.int .i64 t639)) (fun _ hk => hk.2) (.int .i64 t640)) (fun _ h_ => h_.1))) hb); replace HO636 := Aside0.mk (Kd.R_below (by (with_reducible repeat apply ru); exact (Kd.R_mono (Kd.R_far (p := ⟨gb642, 1, none⟩) (Kd.R_far (p := ⟨gb642, 0, none⟩) (Kd.R_mono HO636.out (fun k_ hk => (⟨hk, hk.2⟩ : _ ∧ k_ ≠ gb642))) (fun _ hk => hk.2) (.int .i64 t639)) (fun _ hk => hk.2) (.int .i64 t640)) (fun _ h_ => h_.1))) hb); replace BK623 := Aside0.mk (blk_below (g := gb623) (o := .cells #[.slice Ao15 t619.length co15] 25 (0, 0)) (by (with_reducible repeat refine bu ?_); refine blk_far ?_ NB623_642.out _; (with_reducible repeat refine bu ?_); refine blk_far ?_ NB623_642.out _; (with_reducible repeat refine bu ?_); exact BK623.out) hb); replace BK628 := Aside0.mk (blk_below (g := gb628) (o := .cells #[.slice Ao19 t624.length co19] 25 (0, 0)) (by (with_reducible repeat refine bu ?_); refine blk_far ?_ NB628_642.out _; (with_reducible repeat refine bu ?_); refine blk_far ?_ NB628_642.out _; (with_reducible repeat refine bu ?_); exact BK628.out) hb); replace BK633 := Aside0.mk (blk_below (g := gb633) (o := .cells #[.slice Ao25 t629.length co25] 25 (0, 0)) (by (with_reducible repeat refine bu ?_); refine blk_far ?_ NB633_642.out _; (with_reducible repeat refine bu ?_); refine blk_far ?_ NB633_642.out _; (with_reducible repeat refine bu ?_); exact BK633.out) hb); replace BK638 := Aside0.mk (blk_below (g := gb638) (o := .cells #[.slice Ao32 t634.length co32] 25 (0, 0)) (by (with_reducible repeat refine bu ?_); refine blk_far ?_ NB638_642.out _; (with_reducible repeat refine bu ?_); refine blk_far ?_ NB638_642.out _; (with_reducible repeat refine bu ?_); exact BK638.out) hb); replace BK642 := Aside0.mk (blk_below (g := gb642) (o := .cells #[.int .i64 t639, .int .i64 t640] 34 (0, 0)) (by (with_reducible repeat refine bu ?_); refine blk_put (cs := #[.int .i64 t639, .int .i64 0]) ?_ 1 _ rfl; (with_reducible repeat refine bu ?_); refine blk_put (cs := #[.int .i64 0, .int .i64 0]) ?_ 0 _ rfl; (with_reducible repeat refine bu ?_); exact BK642.out) hb); replace HB := hbS HB hb; (try clear hb); (try clear hk)))
       go_meet
       case rel => exact ⟨_, (false), rs_, H', ⟨by have := HJ2.out; first | omega | exact Nat.le_refl _⟩, ⟨by (with_reducible repeat apply ru); exact Kd.R_mono HO621.out (fun _ hk => ⟨hk.1.1.1.2, ⟨hk.1.1.2, ⟨hk.1.2, hk.2⟩⟩⟩)⟩, ⟨by (with_reducible repeat apply ru); exact Kd.R_mono HO626.out (fun _ hk => ⟨hk.1.1.1.2, ⟨hk.1.1.2, ⟨hk.1.2, hk.2⟩⟩⟩)⟩, ⟨by (with_reducible repeat apply ru); exact Kd.R_mono HO631.out (fun _ hk => ⟨hk.1.1.1.2, ⟨hk.1.1.2, ⟨hk.1.2, hk.2⟩⟩⟩)⟩, ⟨by (with_reducible repeat apply ru); exact Kd.R_mono HO636.out (fun _ hk => ⟨hk.1.1.1.2, ⟨hk.1.1.2, ⟨hk.1.2, hk.2⟩⟩⟩)⟩, ⟨bk BK623⟩, ⟨bk BK628⟩, ⟨bk BK633⟩, ⟨bk BK638⟩, ⟨bk BK642⟩, ⟨m2_⟩⟩
     case rest =>
      clear HC12
      try clear c1
      try clear c2
      try clear p2
      try clear c3
      try clear c4
      try clear c4b0
      try clear c4b1
      try clear c5
      try clear c6
      try clear c7
      try clear c8
      try clear c10
      try clear c10b0
      try clear c10b1
      try clear c12
      try clear c13
      try clear c14
      try clear c16
      try clear c19
      try clear c20
      try clear c26
      try clear c27
      try clear c30
      try clear c33
      try clear c34
      try clear c35
      try clear c39
      try clear c40
      try clear c41
      try clear c42
      try clear c45
      try clear c47
      try clear c48
      try clear c49
      try clear c49b0
      try clear c49b1
      try clear c50
      try clear c51
      try clear c52
      try clear c53
      try clear c57
      try clear c58
      try clear c59
      try clear c60
      try clear c63
      try clear c64
      try clear c65
      try clear c68
      try clear c69
      try clear c70
      try clear c71
      try clear c74
      try clear c75
      try clear c76
      try clear c77
      try clear c80
      try clear c81
      try clear c82
      try clear c83
      try clear hcz16_0
      try clear hcz21_0
      try clear hcz22_0
      try clear hcz28_0
      try clear hcz29_0
      try clear hcz36_0
      try clear hcz43_0
      try clear hcz43_1
      try clear hcz54_0
      try clear hcz61_0
      try clear hcz66_0
      try clear hcz72_0
      try clear hcz78_0
      try clear hcz84_0
      try clear hfz16_0
      try clear hfz21_0
      try clear hfz22_0
      try clear hfz28_0
      try clear hfz29_0
      try clear hfz36_0
      try clear hfz43_0
      try clear hfz43_1
      try clear hfz54_0
      try clear hfz61_0
      try clear hfz66_0
      try clear hfz72_0
      try clear hfz78_0
      try clear hfz84_0
      try clear p2
      obtain ⟨kq, x75_11, rfl, HA, HJ11, HO_624000, HO_629000, HO_634000, HO_639000, BK623, BK628, BK633, BK638, BK642, HB⟩ := hcut
      cases kq with
      | zero => exact absurd HA.out (by simp [laws_FnBakRwr.j1])
      | succ kj11 =>
       have H := HA.out
       clear HA
       simp only [laws_FnBakRwr.j1] at H
       by_cases c86 : x75_11 = true
       ·subst c86
        have H1 : (some false) = some r := by rw [if_pos rfl] at H; exact H
        clear H
        have H := H1
        clear H1
        exact absurd ((Option.some.inj H).trans hrt.out) (by decide)
       ·replace c86 := Bool.eq_false_iff.mpr c86
        subst c86
        have H1 : ((impl_BakLine.f kj11 t624 t627).bind fun t646 => ((spec_MapOk.f kj11 t624).bind fun t647 => (if t647 = true then ((spec_LinOk.f kj11 t627).bind fun t648 => (if t648 = true then (laws_FnBakRwr.j2 kj11 t627 t646 (t646.toList == t627.toList) t624) else (laws_FnBakRwr.j2 kj11 t627 t646 true t624))) else (laws_FnBakRwr.j2 kj11 t627 t646 true t624)))) = some r := by rw [if_neg (show ¬ (false = true) by decide)] at H; exact H
        clear H
        have H := H1
        clear H1
        replace H := Option.bind_eq_some_iff.mp H
        obtain ⟨t646, A870, H⟩ := H
        try dsimp only at H
        have A87 := Aside0.mk A870
        clear A870
        have HC88 := Aside0.mk H
        clear H
        have hnb89 := NB628_623.out
        have hnc89 := NB623_628.out
        have hnb90 := NB628_633.out
        have hnc90 := NB633_628.out
        have hnb91 := NB628_638.out
        have hnc91 := NB638_628.out
        have hnb92 := NB628_642.out
        have hnc92 := NB642_628.out
        have hcz93_0 := bcell BK628 0
        have hfz93_0 := blk_frozen BK628.out 0
        go_upto_region 13 with (first | ((with_reducible refine gate_callee (f := 31) rfl ?_); refine gL (some 78) Tryz.func31 #[.agg #[.slice Ao19 t624.length co19], .string t627] ?_; (with_reducible refine (impl_BakLine.calls kj11 _ _ t624 t627 t646 _ ?side1 ?side2 A87.out (EnvE.below hE (bl HB))).mono ?_); (case side1 => repeat (first | exact (Kd.R_reads' HO_629000.out).2.2 | (with_reducible refine Kd.C_alloc ?_ _) | (with_reducible refine Kd.C_drewN ?_ _) | (with_reducible refine Kd.C_drew ?_))); (case side2 => exact (Kd.R_reads' HO_629000.out).2.1); rintro e w94 ⟨rfl, hb⟩; refine ⟨_, rfl, ?_⟩; replace HO_624000 := Aside0.mk (Kd.R_below (rs HO_624000) hb); replace HO_629000 := Aside0.mk (Kd.R_below (rs HO_629000) hb); replace HO_634000 := Aside0.mk (Kd.R_below (rs HO_634000) hb); replace HO_639000 := Aside0.mk (Kd.R_below (rs HO_639000) hb); replace BK623 := bkB BK623 hb; replace BK628 := bkB BK628 hb; replace BK633 := bkB BK633 hb; replace BK638 := bkB BK638 hb; replace BK642 := bkB BK642 hb; replace HB := hbS HB hb; (try clear hb)))
        (try simp only [Act.put, List.setIfInBounds_toArray, List.set_cons_zero, List.set_cons_succ])
        go_cut [91] (fun v91 wc => ∃ (kq : Nat) (x91_87 : Bool), v91 = .bool x91_87 ∧ Aside0 (laws_FnBakRwr.j2 kq t627 t646 x91_87 t624 = some r) ∧ Aside0 (kq ≤ kj11) ∧ Aside0 (Kd.R k34 34 wc w.heap.size (fun k_ => some k_ ≠ ((.slice Ao19 t624.length co19) : Value).ownBlock ∧ some k_ ≠ ((.slice Ao25 t629.length co25) : Value).ownBlock ∧ some k_ ≠ ((.slice Ao32 t634.length co32) : Value).ownBlock ∧ k_ ≠ gb642) (.slice Ao15 t619.length co15) t619) ∧ Aside0 (Kd.R k34 34 wc w.heap.size (fun k_ => some k_ ≠ ((.slice Ao15 t619.length co15) : Value).ownBlock ∧ some k_ ≠ ((.slice Ao25 t629.length co25) : Value).ownBlock ∧ some k_ ≠ ((.slice Ao32 t634.length co32) : Value).ownBlock ∧ k_ ≠ gb642) (.slice Ao19 t624.length co19) t624) ∧ Aside0 (Kd.R k34 34 wc w.heap.size (fun k_ => some k_ ≠ ((.slice Ao15 t619.length co15) : Value).ownBlock ∧ some k_ ≠ ((.slice Ao19 t624.length co19) : Value).ownBlock ∧ some k_ ≠ ((.slice Ao32 t634.length co32) : Value).ownBlock ∧ k_ ≠ gb642) (.slice Ao25 t629.length co25) t629) ∧ Aside0 (Kd.R k34 34 wc w.heap.size (fun k_ => some k_ ≠ ((.slice Ao15 t619.length co15) : Value).ownBlock ∧ some k_ ≠ ((.slice Ao19 t624.length co19) : Value).ownBlock ∧ some k_ ≠ ((.slice Ao25 t629.length co25) : Value).ownBlock ∧ k_ ≠ gb642) (.slice Ao32 t634.length co32) t634) ∧ Aside0 (wc.heap[gb623]? = some (.cells #[(.slice Ao15 t619.length co15)] 25 (0, 0))) ∧ Aside0 (wc.heap[gb628]? = some (.cells #[(.slice Ao19 t624.length co19)] 25 (0, 0))) ∧ Aside0 (wc.heap[gb633]? = some (.cells #[(.slice Ao25 t629.length co25)] 25 (0, 0))) ∧ Aside0 (wc.heap[gb638]? = some (.cells #[(.slice Ao32 t634.length co32)] 25 (0, 0))) ∧ Aside0 (wc.heap[gb642]? = some (.cells #[.int .i64 t639, .int .i64 t640] 34 (0, 0))) ∧ Aside0 (Below w.heap.size w wc))
        case first =>
         have H := HC88.out
         clear HC88
         replace H := Option.bind_eq_some_iff.mp H
         obtain ⟨t647, A950, H⟩ := H
         try dsimp only at H
         have A95 := Aside0.mk A950
         clear A950
         by_cases c96 : t647 = true
         ·subst c96
          have H1 : ((spec_LinOk.f kj11 t627).bind fun t648 => (if t648 = true then (laws_FnBakRwr.j2 kj11 t627 t646 (t646.toList == t627.toList) t624) else (laws_FnBakRwr.j2 kj11 t627 t646 true t624))) = some r := by rw [if_pos rfl] at H; exact H
          clear H
          have H := H1
          clear H1
          replace H := Option.bind_eq_some_iff.mp H
          obtain ⟨t648, A970, H⟩ := H
          try dsimp only at H
          have A97 := Aside0.mk A970
          clear A970
          by_cases c98 : t648 = true
          ·subst c98
           have H1 : (laws_FnBakRwr.j2 kj11 t627 t646 (t646.toList == t627.toList) t624) = some r := by rw [if_pos rfl] at H; exact H
           clear H
           have H := H1
           clear H1
           have H' := Aside0.mk H
           clear H
           have hnb99 := NB628_623.out
           have hnc99 := NB623_628.out
           have hnb100 := NB628_633.out
           have hnc100 := NB633_628.out
           have hnb101 := NB628_638.out
           have hnc101 := NB638_628.out
           have hnb102 := NB628_642.out
           have hnc102 := NB642_628.out
           have hcz103_0 := bcell BK628 0
           have hfz103_0 := blk_frozen BK628.out 0
           go_wp2_with (first | ((with_reducible refine gate_callee (f := 16) rfl ?_); refine gL (some 80) Tryz.func16 #[.agg #[.slice Ao19 t624.length co19]] ?_; (with_reducible refine (spec_MapOk.calls kj11 _ _ t624 true _ ?side1 ?side2 A95.out).mono ?_); (case side1 => repeat (first | exact (Kd.R_reads' HO_629000.out).2.2 | (with_reducible refine Kd.C_alloc ?_ _) | (with_reducible refine Kd.C_drewN ?_ _) | (with_reducible refine Kd.C_drew ?_))); (case side2 => exact (Kd.R_reads' HO_629000.out).2.1); rintro e w104 ⟨rfl, hb⟩; refine ⟨_, rfl, ?_⟩; replace HO_624000 := Aside0.mk (Kd.R_below (rs HO_624000) hb); replace HO_629000 := Aside0.mk (Kd.R_below (rs HO_629000) hb); replace HO_634000 := Aside0.mk (Kd.R_below (rs HO_634000) hb); replace HO_639000 := Aside0.mk (Kd.R_below (rs HO_639000) hb); replace BK623 := bkB BK623 hb; replace BK628 := bkB BK628 hb; replace BK633 := bkB BK633 hb; replace BK638 := bkB BK638 hb; replace BK642 := bkB BK642 hb; replace HB := hbS HB hb; (try clear hb)) | (go_at_call 17; (with_reducible refine (spec_LinOk.calls kj11 t627 true _ A97.out).mono ?_); rintro e w' ⟨rfl, ⟨nd, rfl⟩⟩))
           go_meet
           case rel => exact ⟨_, ((t646.toList == t627.toList)), rs_, H', ⟨by have := HJ2.out; have := HJ11.out; first | omega | exact Nat.le_refl _⟩, ⟨by (with_reducible repeat apply ru); exact HO_624000.out⟩, ⟨by (with_reducible repeat apply ru); exact HO_629000.out⟩, ⟨by (with_reducible repeat apply ru); exact HO_634000.out⟩, ⟨by (with_reducible repeat apply ru); exact HO_639000.out⟩, ⟨bk BK623⟩, ⟨bk BK628⟩, ⟨bk BK633⟩, ⟨bk BK638⟩, ⟨bk BK642⟩, ⟨m2_⟩⟩
          ·replace c98 := Bool.eq_false_iff.mpr c98
           subst c98
           have H1 : (laws_FnBakRwr.j2 kj11 t627 t646 true t624) = some r := by rw [if_neg (show ¬ (false = true) by decide)] at H; exact H
           clear H
           have H := H1
           clear H1
           have H' := Aside0.mk H
           clear H
           have hnb105 := NB628_623.out
           have hnc105 := NB623_628.out
           have hnb106 := NB628_633.out
           have hnc106 := NB633_628.out
           have hnb107 := NB628_638.out
           have hnc107 := NB638_628.out
           have hnb108 := NB628_642.out
           have hnc108 := NB642_628.out
           have hcz109_0 := bcell BK628 0
           have hfz109_0 := blk_frozen BK628.out 0
           go_wp2_with (first | ((with_reducible refine gate_callee (f := 16) rfl ?_); refine gL (some 80) Tryz.func16 #[.agg #[.slice Ao19 t624.length co19]] ?_; (with_reducible refine (spec_MapOk.calls kj11 _ _ t624 true _ ?side1 ?side2 A95.out).mono ?_); (case side1 => repeat (first | exact (Kd.R_reads' HO_629000.out).2.2 | (with_reducible refine Kd.C_alloc ?_ _) | (with_reducible refine Kd.C_drewN ?_ _) | (with_reducible refine Kd.C_drew ?_))); (case side2 => exact (Kd.R_reads' HO_629000.out).2.1); rintro e w110 ⟨rfl, hb⟩; refine ⟨_, rfl, ?_⟩; replace HO_624000 := Aside0.mk (Kd.R_below (rs HO_624000) hb); replace HO_629000 := Aside0.mk (Kd.R_below (rs HO_629000) hb); replace HO_634000 := Aside0.mk (Kd.R_below (rs HO_634000) hb); replace HO_639000 := Aside0.mk (Kd.R_below (rs HO_639000) hb); replace BK623 := bkB BK623 hb; replace BK628 := bkB BK628 hb; replace BK633 := bkB BK633 hb; replace BK638 := bkB BK638 hb; replace BK642 := bkB BK642 hb; replace HB := hbS HB hb; (try clear hb)) | (go_at_call 17; (with_reducible refine (spec_LinOk.calls kj11 t627 false _ A97.out).mono ?_); rintro e w' ⟨rfl, ⟨nd, rfl⟩⟩))
           go_meet
           case rel => exact ⟨_, (true), rs_, H', ⟨by have := HJ2.out; have := HJ11.out; first | omega | exact Nat.le_refl _⟩, ⟨by (with_reducible repeat apply ru); exact HO_624000.out⟩, ⟨by (with_reducible repeat apply ru); exact HO_629000.out⟩, ⟨by (with_reducible repeat apply ru); exact HO_634000.out⟩, ⟨by (with_reducible repeat apply ru); exact HO_639000.out⟩, ⟨bk BK623⟩, ⟨bk BK628⟩, ⟨bk BK633⟩, ⟨bk BK638⟩, ⟨bk BK642⟩, ⟨m2_⟩⟩
         ·replace c96 := Bool.eq_false_iff.mpr c96
          subst c96
          have H1 : (laws_FnBakRwr.j2 kj11 t627 t646 true t624) = some r := by rw [if_neg (show ¬ (false = true) by decide)] at H; exact H
          clear H
          have H := H1
          clear H1
          have H' := Aside0.mk H
          clear H
          have hnb111 := NB628_623.out
          have hnc111 := NB623_628.out
          have hnb112 := NB628_633.out
          have hnc112 := NB633_628.out
          have hnb113 := NB628_638.out
          have hnc113 := NB638_628.out
          have hnb114 := NB628_642.out
          have hnc114 := NB642_628.out
          have hcz115_0 := bcell BK628 0
          have hfz115_0 := blk_frozen BK628.out 0
          go_wp2_with (first | ((with_reducible refine gate_callee (f := 16) rfl ?_); refine gL (some 80) Tryz.func16 #[.agg #[.slice Ao19 t624.length co19]] ?_; (with_reducible refine (spec_MapOk.calls kj11 _ _ t624 false _ ?side1 ?side2 A95.out).mono ?_); (case side1 => repeat (first | exact (Kd.R_reads' HO_629000.out).2.2 | (with_reducible refine Kd.C_alloc ?_ _) | (with_reducible refine Kd.C_drewN ?_ _) | (with_reducible refine Kd.C_drew ?_))); (case side2 => exact (Kd.R_reads' HO_629000.out).2.1); rintro e w116 ⟨rfl, hb⟩; refine ⟨_, rfl, ?_⟩; replace HO_624000 := Aside0.mk (Kd.R_below (rs HO_624000) hb); replace HO_629000 := Aside0.mk (Kd.R_below (rs HO_629000) hb); replace HO_634000 := Aside0.mk (Kd.R_below (rs HO_634000) hb); replace HO_639000 := Aside0.mk (Kd.R_below (rs HO_639000) hb); replace BK623 := bkB BK623 hb; replace BK628 := bkB BK628 hb; replace BK633 := bkB BK633 hb; replace BK638 := bkB BK638 hb; replace BK642 := bkB BK642 hb; replace HB := hbS HB hb; (try clear hb)))
          go_meet
          case rel => exact ⟨_, (true), rs_, H', ⟨by have := HJ2.out; have := HJ11.out; first | omega | exact Nat.le_refl _⟩, ⟨by (with_reducible repeat apply ru); exact HO_624000.out⟩, ⟨by (with_reducible repeat apply ru); exact HO_629000.out⟩, ⟨by (with_reducible repeat apply ru); exact HO_634000.out⟩, ⟨by (with_reducible repeat apply ru); exact HO_639000.out⟩, ⟨bk BK623⟩, ⟨bk BK628⟩, ⟨bk BK633⟩, ⟨bk BK638⟩, ⟨bk BK642⟩, ⟨m2_⟩⟩
        case rest =>
         clear HC88
         try clear c1
         try clear c2
         try clear p2
         try clear c3
         try clear c4
         try clear c4b0
         try clear c4b1
         try clear c5
         try clear c6
         try clear c7
         try clear c8
         try clear c9
         try clear c10
         try clear c10b0
         try clear c10b1
         try clear c11
         try clear c12
         try clear c13
         try clear c14
         try clear c16
         try clear c19
         try clear c20
         try clear c26
         try clear c27
         try clear c30
         try clear c31
         try clear c33
         try clear c34
         try clear c35
         try clear c39
         try clear c40
         try clear c41
         try clear c42
         try clear c45
         try clear c47
         try clear c48
         try clear c49
         try clear c49b0
         try clear c49b1
         try clear c50
         try clear c51
         try clear c52
         try clear c53
         try clear c57
         try clear c58
         try clear c59
         try clear c60
         try clear c63
         try clear c64
         try clear c65
         try clear c68
         try clear c69
         try clear c70
         try clear c71
         try clear c74
         try clear c75
         try clear c76
         try clear c77
         try clear c80
         try clear c81
         try clear c82
         try clear c83
         try clear c86
         try clear c89
         try clear c90
         try clear c91
         try clear c92
         try clear c96
         try clear c98
         try clear c99
         try clear c100
         try clear c101
         try clear c102
         try clear c105
         try clear c106
         try clear c107
         try clear c108
         try clear c111
         try clear c112
         try clear c113
         try clear c114
         try clear hcz103_0
         try clear hcz109_0
         try clear hcz115_0
         try clear hcz16_0
         try clear hcz21_0
         try clear hcz22_0
         try clear hcz28_0
         try clear hcz29_0
         try clear hcz36_0
         try clear hcz43_0
         try clear hcz43_1
         try clear hcz54_0
         try clear hcz61_0
         try clear hcz66_0
         try clear hcz72_0
         try clear hcz78_0
         try clear hcz84_0
         try clear hcz93_0
         try clear hfz103_0
         try clear hfz109_0
         try clear hfz115_0
         try clear hfz16_0
         try clear hfz21_0
         try clear hfz22_0
         try clear hfz28_0
         try clear hfz29_0
         try clear hfz36_0
         try clear hfz43_0
         try clear hfz43_1
         try clear hfz54_0
         try clear hfz61_0
         try clear hfz66_0
         try clear hfz72_0
         try clear hfz78_0
         try clear hfz84_0
         try clear hfz93_0
         try clear p2
         obtain ⟨kq, x91_87, rfl, HA, HJ87, HO_624000, HO_629000, HO_634000, HO_639000, BK623, BK628, BK633, BK638, BK642, HB⟩ := hcut
         cases kq with
         | zero => exact absurd HA.out (by simp [laws_FnBakRwr.j2])
         | succ kj87 =>
          have H := HA.out
          clear HA
          simp only [laws_FnBakRwr.j2] at H
          by_cases c117 : x91_87 = true
          ·subst c117
           have H1 : ((laws_haOk.f).bind fun t649 => (some t649)) = some r := by rw [if_pos rfl] at H; exact H
           clear H
           have H := H1
           clear H1
           replace H := Option.bind_eq_some_iff.mp H
           obtain ⟨t649, A1180, H⟩ := H
           try dsimp only at H
           have A118 := Aside0.mk A1180
           clear A1180
           obtain rfl := Option.some.inj H
           go_wp2_with (first | ((with_reducible refine gate_callee (f := 18) rfl ?_); refine gL (some 92) Tryz.func18 #[] ?_; (with_reducible refine (laws_haOk.calls  t649 _ A118.out).mono ?_); rintro e w119 ⟨rfl, hb⟩; refine ⟨_, rfl, ?_⟩; replace HO_624000 := Aside0.mk (Kd.R_below (rs HO_624000) hb); replace HO_629000 := Aside0.mk (Kd.R_below (rs HO_629000) hb); replace HO_634000 := Aside0.mk (Kd.R_below (rs HO_634000) hb); replace HO_639000 := Aside0.mk (Kd.R_below (rs HO_639000) hb); replace BK623 := bkB BK623 hb; replace BK628 := bkB BK628 hb; replace BK633 := bkB BK633 hb; replace BK638 := bkB BK638 hb; replace BK642 := bkB BK642 hb; replace HB := hbS HB hb; (try clear hb)))
           go_ret
           exact ⟨fi_, m2_⟩
          ·replace c117 := Bool.eq_false_iff.mpr c117
           subst c117
           have H1 : ((impl_RwrLine.f kj87 t624 t646).bind fun bt650 => (if bt650.2.toList = t627.toList then ((laws_haEnds.f kj87 bt650.1 t624).bind fun t655 => (some t655)) else (some false))) = some r := by rw [if_neg (show ¬ (false = true) by decide)] at H; exact H
           clear H
           have H := H1
           clear H1
           replace H := Option.bind_eq_some_iff.mp H
           obtain ⟨⟨t650, t653⟩, A1200, H⟩ := H
           try dsimp only at H
           have A120 := Aside0.mk A1200
           clear A1200
           by_cases c121 : t653.toList = t627.toList
           ·rw [if_pos c121] at H
            have c121b0 : (t653.toList == t627.toList) = true := beq_iff_eq.mpr c121
            have c121b1 : (t653.toList != t627.toList) = false := bne_eq_false_iff_eq.mpr c121
            clear c121
            replace H := Option.bind_eq_some_iff.mp H
            obtain ⟨t655, A1220, H⟩ := H
            try dsimp only at H
            have A122 := Aside0.mk A1220
            clear A1220
            obtain rfl := Option.some.inj H
            have hnb123 := NB628_623.out
            have hnc123 := NB623_628.out
            have hnb124 := NB628_633.out
            have hnc124 := NB633_628.out
            have hnb125 := NB628_638.out
            have hnc125 := NB638_628.out
            have hnb126 := NB628_642.out
            have hnc126 := NB642_628.out
            have hcz127_0 := bcell BK628 0
            have hfz127_0 := blk_frozen BK628.out 0
            go_wp2_with (first | ((with_reducible refine gate_callee (f := 13) rfl ?_); refine gL (some 96) Tryz.func13 #[.agg #[.slice Ao19 t624.length co19], .string t646] ?_; (with_reducible refine (impl_RwrLine.calls kj87 _ _ t624 t646 t650 t653 _ ?side1 ?side2 A120.out (EnvE.below hE (bl HB))).mono ?_); (case side1 => repeat (first | exact (Kd.R_reads' HO_629000.out).2.2 | (with_reducible refine Kd.C_alloc ?_ _) | (with_reducible refine Kd.C_drewN ?_ _) | (with_reducible refine Kd.C_drew ?_))); (case side2 => exact (Kd.R_reads' HO_629000.out).2.1); rintro e w128 ⟨v651, rfl, ho0, hb⟩; refine ⟨_, rfl, ?_⟩; have HO652 := Aside0.mk (Kd.R_lower (Kd.R_newB (Kd.R_new' (Kd.R_new' (Kd.R_new' (Kd.R_new' ho0 (Kd.R_lt (rs HO_624000))) (Kd.R_lt (rs HO_629000))) (Kd.R_lt (rs HO_634000))) (Kd.R_lt (rs HO_639000))) (g := gb642) (o := .cells #[.int .i64 t639, .int .i64 t640] 34 (0, 0)) (bk BK642)) (below_size (bl HB))); replace HO_624000 := Aside0.mk (Kd.R_elder' (rs HO_624000) (Kd.R_base ho0) hb); replace HO_629000 := Aside0.mk (Kd.R_elder' (rs HO_629000) (Kd.R_base ho0) hb); replace HO_634000 := Aside0.mk (Kd.R_elder' (rs HO_634000) (Kd.R_base ho0) hb); replace HO_639000 := Aside0.mk (Kd.R_elder' (rs HO_639000) (Kd.R_base ho0) hb); replace BK623 := bkB BK623 hb; replace BK628 := bkB BK628 hb; replace BK633 := bkB BK633 hb; replace BK638 := bkB BK638 hb; replace BK642 := bkB BK642 hb; replace HB := hbS HB hb; (try clear hb); (try clear ho0)) | ((with_reducible refine gate_dst (N := 16) rfl ?_); refine box_event rfl (N := 16) rfl (cs := #[.slice none 0 0]) (t := 25) hr_ ?_; intro gb654 hg w129 hbox hb; replace HO_624000 := Aside0.mk (Kd.R_below (rs HO_624000) hb); replace HO_629000 := Aside0.mk (Kd.R_below (rs HO_629000) hb); replace HO_634000 := Aside0.mk (Kd.R_below (rs HO_634000) hb); replace HO_639000 := Aside0.mk (Kd.R_below (rs HO_639000) hb); replace HO652 := Aside0.mk (Kd.R_below (rs HO652) hb); have BK654 := Aside0.mk hbox; have GW654 := gwE HB hg; have GE654 := gwE HB hg; replace HB := hbS HB hb; have NB623_654 := neL BK623 hg; have NB654_623 := neG BK623 hg; replace BK623 := bkB BK623 hb; have NB628_654 := neL BK628 hg; have NB654_628 := neG BK628 hg; replace BK628 := bkB BK628 hb; have NB633_654 := neL BK633 hg; have NB654_633 := neG BK633 hg; replace BK633 := bkB BK633 hb; have NB638_654 := neL BK638 hg; have NB654_638 := neG BK638 hg; replace BK638 := bkB BK638 hb; have NB642_654 := neL BK642 hg; have NB654_642 := neG BK642 hg; replace BK642 := bkB BK642 hb; clear hb hbox hg; obtain ⟨Ao130, co130, eo130⟩ := Kd.R_slice HO652.out; subst eo130; have hnb131 := NB654_623.out; have hnc131 := NB623_654.out; have hnb132 := NB654_628.out; have hnc132 := NB628_654.out; have hnb133 := NB654_633.out; have hnc133 := NB633_654.out; have hnb134 := NB654_638.out; have hnc134 := NB638_654.out; have hnb135 := NB654_642.out; have hnc135 := NB642_654.out; have hcz136_0 := bcell BK654 0; have hfz136_0 := blk_frozen BK654.out 0; have hcz137_0 := bcell BK628 0; have hfz137_0 := blk_frozen BK628.out 0) | (go_at_call 15; (with_reducible refine (laws_haEnds.calls kj87 _ _ t650 _ _ t624 t655 _ ?side1 ?side2 ?side3 ?side4 A122.out).mono ?_); (case side1 => refine (Kd.R_reads' (e := 34) (base := w.heap.size) (ok := fun k_ => (((((True ∧ some k_ ≠ (.slice Ao15 t619.length co15 : Value).ownBlock) ∧ some k_ ≠ (.slice Ao19 t624.length co19 : Value).ownBlock) ∧ some k_ ≠ (.slice Ao25 t629.length co25 : Value).ownBlock) ∧ some k_ ≠ (.slice Ao32 t634.length co32 : Value).ownBlock) ∧ k_ ≠ gb642)) (n := t650.length) (c := co130) ?_).2.2; exact (by (with_reducible repeat apply ru); exact (Kd.R_mono (Kd.R_far (p := ⟨gb654, 0, none⟩) (Kd.R_types HO652.out BK654.out (by decide)) (fun _ hk => hk.2) (.slice Ao130 t650.length co130)) (fun _ h_ => h_.1)))); (case side2 => exact (Kd.R_reads' HO652.out).2.1); (case side3 => refine (Kd.R_reads' (e := 34) (base := w.heap.size) (ok := fun k_ => ((some k_ ≠ (.slice Ao15 t619.length co15 : Value).ownBlock ∧ (some k_ ≠ (.slice Ao25 t629.length co25 : Value).ownBlock ∧ (some k_ ≠ (.slice Ao32 t634.length co32 : Value).ownBlock ∧ k_ ≠ gb642))) ∧ some k_ ≠ (.slice Ao130 t650.length co130 : Value).ownBlock)) (n := t624.length) (c := co19) ?_).2.2; exact (by (with_reducible repeat apply ru); exact (Kd.R_mono (Kd.R_far (p := ⟨gb654, 0, none⟩) (Kd.R_types HO_629000.out BK654.out (by decide)) (fun _ hk => hk.2) (.slice Ao130 t650.length co130)) (fun _ h_ => h_.1)))); (case side4 => exact (Kd.R_reads' HO_629000.out).2.1); rintro e w' ⟨rfl, ⟨nd, rfl⟩⟩))
            go_ret
            exact ⟨fi_, m2_⟩
           ·rw [if_neg c121] at H
            have c121b0 : (t653.toList == t627.toList) = false := beq_eq_false_iff_ne.mpr c121
            have c121b1 : (t653.toList != t627.toList) = true := bne_iff_ne.mpr c121
            exact absurd ((Option.some.inj H).trans hrt.out) (by decide)
    ·rw [if_neg c10] at H
     have c10b0 : (t632.toList == t637.toList) = false := beq_eq_false_iff_ne.mpr c10
     have c10b1 : (t632.toList != t637.toList) = true := bne_iff_ne.mpr c10
     exact absurd ((Option.some.inj H).trans hrt.out) (by decide)
def laws_FnBakRwr.Pure : Prop := ∀ (l0 : List Int) (l1 : List Int), l0.length ≤ maxLen → l0.length * 1 ≤ 140737488351232 → (∀ x ∈ l0, (Lit.int .u8 x).wf = true) → l1.length ≤ maxLen → l1.length * 1 ≤ 140737488351232 → (∀ x ∈ l1, (Lit.int .u8 x).wf = true) → ∃ k, laws_FnBakRwr.f k l0 l1 = some true
theorem laws_FnBakRwr.walk (P : laws_FnBakRwr.Pure) (a0 : Option Addr) (len0 cap0 : Nat) (z0 : List Int) (a1 : Option Addr) (len1 cap1 : Nat) (z1 : List Int) (w : World) (w0 : (a0 = none ∧ len0 = 0 ∧ cap0 = 0 ∧ z0 = []) ∨ ∃ x, a0 = some x ∧ len0 ≤ cap0 ∧ cap0 ≤ maxLen ∧ z0.length = cap0 ∧ (∀ i, i < z0.length → w.cell? (x.add i) = some (.int .u8 (z0.getD i 0))) ∧ ∀ n ∈ z0, (Lit.int .u8 n).wf = true) (y0 : len0 * 1 ≤ 140737488351232) (w1 : (a1 = none ∧ len1 = 0 ∧ cap1 = 0 ∧ z1 = []) ∨ ∃ x, a1 = some x ∧ len1 ≤ cap1 ∧ cap1 ≤ maxLen ∧ z1.length = cap1 ∧ (∀ i, i < z1.length → w.cell? (x.add i) = some (.int .u8 (z1.getD i 0))) ∧ ∀ n ∈ z1, (Lit.int .u8 n).wf = true) (y1 : len1 * 1 ≤ 140737488351232) (hE : EnvE w) :
  Calls Tryz.prog 5 #[.slice a0 len0 cap0, .slice a1 len1 cap1] w fun e w' => e = .returned (.bool true) ∧ Below w.heap.size w w' := by
 obtain ⟨l0, rfl, hr0, hm0, hw0, hc0⟩ := ReadsInt.ofRowC w0
 obtain ⟨l1, rfl, hr1, hm1, hw1, hc1⟩ := ReadsInt.ofRowC w1
 obtain ⟨k, h⟩ := P l0 l1 hm0 y0 hw0 hm1 y1 hw1
 refine (laws_FnBakRwr.calls k _ _ l0 _ _ l1 true w (Kd.C_of_reads (d := (0 : Int)) (h1 := fun _ => rfl) hr0) hc0 (Kd.C_of_reads (d := (0 : Int)) (h1 := fun _ => rfl) hr1) hc1 h ⟨rfl⟩ hE).mono ?_
 rintro e w' ⟨rfl, hd⟩
 exact ⟨rfl, hd⟩
end Go.Proofs.YtffmbccgcaghjaaGreatDoor.P
