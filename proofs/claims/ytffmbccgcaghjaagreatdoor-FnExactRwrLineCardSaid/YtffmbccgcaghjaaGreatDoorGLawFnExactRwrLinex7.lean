import Derived.Test.YtffmbccgcaghjaaGreatDoorGLawFnExactRwrLinex6
-- written by hw.py for this claim
namespace Go.Proofs.YtffmbccgcaghjaaGreatDoor.P
open Go.RowKit Go.Proofs.YtffmbccgcaghjaaGreatDoorUFnExactRwrLine.PrintWords Go.Proofs.YtffmbccgcaghjaaGreatDoorUFnExactRwrLine.PrintLast Go.Proofs.YtffmbccgcaghjaaGreatDoorUFnExactRwrLine.PrintMore
attribute [local go_sem] max2_int min2_int max_two min_two max_three min_three max_four min_four
set_option linter.unusedVariables false
set_option linter.unusedSimpArgs false

/-! ### spec_l3Line: function 46 -/
def spec_l3Line.f (k : Nat) (l0_0 : List (S34)) (a1 : ByteArray) : Option ((List (S34)) × ByteArray) := (spec_LinSays.f k a1).bind fun bt436 => (if bt436.2.2 = true then ((spec_l3Put.f k l0_0 bt436.1 bt436.2.1).bind fun bt440 => (if bt440.2 = 0 then (some (bt440.1, (⟨#[110, 111, 110, 101]⟩ : ByteArray))) else ((spec_LinPort.f k 50 bt440.2).bind fun t445 => (some (bt440.1, t445))))) else (some (l0_0, a1)))
theorem spec_l3Line.mono : ∀ a0 a1 k, LeO (spec_l3Line.f k a0 a1) (spec_l3Line.f (k + 1) a0 a1) := by
  intro a0 a1 k
  unfold spec_l3Line.f
  repeat' first
      | (with_reducible exact spec_LinPort.mono _ _ _)
      | (with_reducible exact spec_LinSays.mono _ _)
      | (with_reducible exact spec_l3Put.mono _ _ _ _)
      | (with_reducible exact LeO.refl _)
      | (with_reducible exact LeO.none _)
      | (with_reducible refine LeO.ite ?_ ?_)
      | (with_reducible refine LeO.bind ?_ (fun _ => ?_))
      | exact spec_LinPort.mono _ _ _
      | exact spec_LinSays.mono _ _
      | exact spec_l3Put.mono _ _ _ _
      | exact LeO.none _
      | refine LeO.ite ?_ ?_
      | refine LeO.bind ?_ (fun _ => ?_)
set_option maxHeartbeats 8000000 in
set_option maxRecDepth 100000 in
theorem spec_l3Line.calls (k : Nat) (P0_0_ : Nat → Prop) (u9000_ : Value) (l0_0 : List (S34)) (a1 : ByteArray) (r1 : List (S34)) (r2 : ByteArray) (w0 w : World) (hB : Below w0.heap.size w0 w) (ho0_0 : Kd.R k34 34 w w0.heap.size P0_0_ u9000_ l0_0) (h : spec_l3Line.f k l0_0 a1 = some (r1, r2)) :
    Calls Tryz.prog 46 #[.agg #[u9000_], .string a1] w fun e w' => ∃ v0_ : Value, e = .returned (.tuple #[.agg #[v0_], .string r2]) ∧ Kd.R k34 34 w' w0.heap.size (fun k_ => (P0_0_ k_ ∨ w.heap.size ≤ k_)) v0_ r1 ∧ Below w0.heap.size w0 w' ∧ Kept w w' (fun k_ => P0_0_ k_) := by
  have hu25 := Tryz.underlying25
  have hu34 := Tryz.underlying34
  have HO0_0 := Aside0.mk (show Kd.R k34 34 w w0.heap.size (fun k_ => (P0_0_ k_ ∨ w.heap.size ≤ k_)) u9000_ l0_0 from Kd.R_mono ho0_0 (fun k_ hk => (.inl hk)))
  have HK := Aside0.mk (Kept.refl w (fun k_ => P0_0_ k_))
  have HW0 := Aside0.mk hB.size
  have HB := Aside0.mk hB
  clear hB
  have H : ((spec_LinSays.f k a1).bind fun bt436 => (if bt436.2.2 = true then ((spec_l3Put.f k l0_0 bt436.1 bt436.2.1).bind fun bt440 => (if bt440.2 = 0 then (some (bt440.1, (⟨#[110, 111, 110, 101]⟩ : ByteArray))) else ((spec_LinPort.f k 50 bt440.2).bind fun t445 => (some (bt440.1, t445))))) else (some (l0_0, a1)))) = some (r1, r2) := h
  clear h
  replace H := Option.bind_eq_some_iff.mp H
  obtain ⟨⟨t436, t437, t438⟩, A30, H⟩ := H
  replace H : (if t438 = true then ((spec_l3Put.f k l0_0 t436 t437).bind fun bt440 => (if bt440.2 = 0 then (some (bt440.1, (⟨#[110, 111, 110, 101]⟩ : ByteArray))) else ((spec_LinPort.f k 50 bt440.2).bind fun t445 => (some (bt440.1, t445))))) else (some (l0_0, a1))) = some (r1, r2) := H
  have A3 := Aside0.mk A30
  clear A30
  by_cases c4 : t438 = true
  · subst c4
    have H1 : ((spec_l3Put.f k l0_0 t436 t437).bind fun bt440 => (if bt440.2 = 0 then (some (bt440.1, (⟨#[110, 111, 110, 101]⟩ : ByteArray))) else ((spec_LinPort.f k 50 bt440.2).bind fun t445 => (some (bt440.1, t445))))) = some (r1, r2) := by rw [if_pos rfl] at H; exact H
    clear H
    have H := H1
    clear H1
    replace H := Option.bind_eq_some_iff.mp H
    obtain ⟨⟨t440, t443⟩, A50, H⟩ := H
    replace H : (if t443 = 0 then (some (t440, (⟨#[110, 111, 110, 101]⟩ : ByteArray))) else ((spec_LinPort.f k 50 t443).bind fun t445 => (some (t440, t445)))) = some (r1, r2) := H
    have A5 := Aside0.mk A50
    clear A50
    by_cases c6 : t443 = 0
    · rw [if_pos c6] at H
      have c6b0 : (t443 == 0) = true := beq_iff_eq.mpr c6
      have c6b1 : (t443 != 0) = false := bne_eq_false_iff_eq.mpr c6
      clear c6
      simp only [Option.some.injEq, Prod.mk.injEq] at H
      obtain ⟨rfl, rfl⟩ := H
      obtain ⟨Ao7, co7, eo7⟩ := Kd.R_slice HO0_0.out
      subst eo7
      go_enter Tryz.func46, Tryz.ntmps46
      go_wp2_with (first | ((with_reducible refine gate_dst (N := 2) rfl ?_); refine box_event ?hg (N := 2) ?hd (cs := #[.slice Ao7 l0_0.length co7]) (t := 25) ?hr ?_; (case hd => rfl); (case hg => rfl); (case hr => first | (go_simp; done) | (go_simp; rfl)); intro gb434 hg w8 hbox hb; have n0_ := Aside0.mk (Kd.R_below (rs HO0_0) hb); have n1_ := Aside0.mk (Kept.below (S := (fun k_ => P0_0_ k_)) (by repeat (first | (with_reducible first | exact HK.out | apply Kept.alloc | apply Kept.drewN | apply Kept.drew) | exact HK.out)) hb); have n2_ := Aside0.mk (below_step (bl HB) hb); have n3_ := Aside0.mk (hbox); have n4_ := Aside0.mk ((by rw [hg]; exact (by first | exact HK.out.1 | exact (show Kept w _ (fun k_ => P0_0_ k_) from by repeat (first | (with_reducible first | exact HK.out | apply Kept.alloc | apply Kept.drewN | apply Kept.drew) | exact HK.out)).1) : w.heap.size ≤ gb434)); have n5_ := Aside0.mk ((by rw [hg]; exact (below_size (bl HB)) : w0.heap.size ≤ gb434)); clear HO0_0; clear HK; clear HB; have HO0_0 := n0_; have HK := n1_; have HB := n2_; have BK434 := n3_; have GW434 := n4_; have GE434 := n5_; clear n0_ n1_ n2_ n3_ n4_ n5_; clear hb hbox hg) | ((with_reducible refine gate_dst (N := 4) rfl ?_); refine box_event ?hg (N := 4) ?hd (cs := #[.slice none 0 0]) (t := 25) ?hr ?_; (case hd => rfl); (case hg => rfl); (case hr => first | (go_simp; done) | (go_simp; rfl)); intro gb435 hg w9 hbox hb; have n0_ := Aside0.mk (Kd.R_below (rs HO0_0) hb); have n1_ := bkB BK434 hb; have n2_ := Aside0.mk (Kept.below (S := (fun k_ => P0_0_ k_)) (by repeat (first | (with_reducible first | exact HK.out | apply Kept.alloc | apply Kept.drewN | apply Kept.drew | refine Kept.setCell ?_ (.inr GW434.out) _) | exact HK.out)) hb); have n3_ := Aside0.mk (below_step (bl HB) hb); have n4_ := Aside0.mk (hbox); have n5_ := Aside0.mk ((by rw [hg]; exact (by first | exact HK.out.1 | exact (show Kept w _ (fun k_ => P0_0_ k_) from by repeat (first | (with_reducible first | exact HK.out | apply Kept.alloc | apply Kept.drewN | apply Kept.drew | refine Kept.setCell ?_ (.inr GW434.out) _) | exact HK.out)).1) : w.heap.size ≤ gb435)); have n6_ := Aside0.mk ((by rw [hg]; exact (below_size (bl HB)) : w0.heap.size ≤ gb435)); have n7_ := Aside0.mk ((by rw [hg]; exact Nat.ne_of_lt (bkL BK434) : gb434 ≠ gb435)); have n8_ := Aside0.mk ((by rw [hg]; exact Nat.ne_of_gt (bkL BK434) : gb435 ≠ gb434)); clear HO0_0; clear BK434; clear HK; clear HB; have HO0_0 := n0_; have BK434 := n1_; have HK := n2_; have HB := n3_; have BK435 := n4_; have GW435 := n5_; have GE435 := n6_; have NB434_435 := n7_; have NB435_434 := n8_; clear n0_ n1_ n2_ n3_ n4_ n5_ n6_ n7_ n8_; clear hb hbox hg) | ((with_reducible refine gate_callee (f := 79) rfl ?_); refine goesL_ (some 12) rfl rfl Tryz.func79 (by kernel_rfl) rfl #[.string a1] rfl (by (try simp only [List.map_toArray, List.map_cons, List.map_nil]); first | done | rfl | (simp only [List.length_drop, List.length_take]; rfl)) ?_; (with_reducible refine (spec_LinSays.calls k a1 t436 t437 true _ A3.out).mono ?_); rintro e w10 ⟨rfl, hb⟩; refine ⟨_, rfl, ?_⟩; have n0_ := Aside0.mk (Kd.R_below (rs HO0_0) hb); have n1_ := bkB BK434 hb; have n2_ := bkB BK435 hb; have n3_ := Aside0.mk (Kept.below (S := (fun k_ => P0_0_ k_)) (by repeat (first | (with_reducible first | exact HK.out | apply Kept.alloc | apply Kept.drewN | apply Kept.drew | refine Kept.setCell ?_ (.inr GW434.out) _ | refine Kept.setCell ?_ (.inr GW435.out) _) | exact HK.out)) hb); have n4_ := Aside0.mk (below_step (bl HB) hb); clear HO0_0; clear BK434; clear BK435; clear HK; clear HB; have HO0_0 := n0_; have BK434 := n1_; have BK435 := n2_; have HK := n3_; have HB := n4_; clear n0_ n1_ n2_ n3_ n4_; (try clear hb); (try clear hb2); (try clear hk); (try clear hi)) | ((with_reducible refine gate_dst (N := 6) rfl ?_); refine box_event ?hg (N := 6) ?hd (cs := #[.int .i64 0, .int .i64 0]) (t := 34) ?hr ?_; (case hd => rfl); (case hg => rfl); (case hr => first | (go_simp; done) | (go_simp; rfl)); intro gb439 hg w11 hbox hb; have n0_ := Aside0.mk (Kd.R_below (Kd.R_elderB (rs HO0_0) gb439 (Nat.le_of_eq hg.symm)) hb); have n1_ := bkB BK434 hb; have n2_ := bkB BK435 hb; have n3_ := Aside0.mk (Kept.below (S := (fun k_ => P0_0_ k_)) (by repeat (first | (with_reducible first | exact HK.out | apply Kept.alloc | apply Kept.drewN | apply Kept.drew | refine Kept.setCell ?_ (.inr GW434.out) _ | refine Kept.setCell ?_ (.inr GW435.out) _) | exact HK.out)) hb); have n4_ := Aside0.mk (below_step (bl HB) hb); have n5_ := Aside0.mk (hbox); have n6_ := Aside0.mk ((by rw [hg]; exact (by first | exact HK.out.1 | exact (show Kept w _ (fun k_ => P0_0_ k_) from by repeat (first | (with_reducible first | exact HK.out | apply Kept.alloc | apply Kept.drewN | apply Kept.drew | refine Kept.setCell ?_ (.inr GW434.out) _ | refine Kept.setCell ?_ (.inr GW435.out) _) | exact HK.out)).1) : w.heap.size ≤ gb439)); have n7_ := Aside0.mk ((by rw [hg]; exact (below_size (bl HB)) : w0.heap.size ≤ gb439)); have n8_ := Aside0.mk ((by rw [hg]; exact Nat.ne_of_lt (bkL BK434) : gb434 ≠ gb439)); have n9_ := Aside0.mk ((by rw [hg]; exact Nat.ne_of_gt (bkL BK434) : gb439 ≠ gb434)); have n10_ := Aside0.mk ((by rw [hg]; exact Nat.ne_of_lt (bkL BK435) : gb435 ≠ gb439)); have n11_ := Aside0.mk ((by rw [hg]; exact Nat.ne_of_gt (bkL BK435) : gb439 ≠ gb435)); clear HO0_0; clear BK434; clear BK435; clear HK; clear HB; have HO0_0 := n0_; have BK434 := n1_; have BK435 := n2_; have HK := n3_; have HB := n4_; have BK439 := n5_; have GW439 := n6_; have GE439 := n7_; have NB434_439 := n8_; have NB439_434 := n9_; have NB435_439 := n10_; have NB439_435 := n11_; clear n0_ n1_ n2_ n3_ n4_ n5_ n6_ n7_ n8_ n9_ n10_ n11_; clear hb hbox hg; have hnb12 := NB439_434.out; have hnc12 := NB434_439.out; have hnb13 := NB439_435.out; have hnc13 := NB435_439.out; have hcz14_0 : w11.cell? ⟨gb439, 0, none⟩ = some (.int .i64 0) := (blk_cell BK439.out 0).trans rfl; have hcz14_1 : w11.cell? ⟨gb439, 1, none⟩ = some (.int .i64 0) := (blk_cell BK439.out 1).trans rfl; have hfz14_0 := blk_frozen BK439.out 0; have hfz14_1 := blk_frozen BK439.out 1) | ((with_reducible refine gate_store (t := 34) (p := 6) rfl ?_); refine store_event (t := 34) (p := 6) (v := ?vo_w15) (w1 := ((w11.setCell ⟨gb439, 0, none⟩ (.int .i64 t436)).setCell ⟨gb439, 1, none⟩ (.int .i64 t437))) ?hg ?ho ?hn ?hr ?_; (case ho => rfl); (case hg => rfl); (case hn => rfl); (case hr => first | (go_simp; done) | (go_simp; rfl)); intro w15 hw; have n0_ : Aside0 (Kd.R k34 34 w15 w0.heap.size (fun k_ => (P0_0_ k_ ∨ w.heap.size ≤ k_) ∧ k_ ≠ gb439) (.slice Ao7 l0_0.length co7) l0_0) := ⟨(by rw [hw]; exact (by (with_reducible repeat apply ru); exact Kd.R_mono (Kd.R_far (p := ⟨gb439, 1, none⟩) (Kd.R_far (p := ⟨gb439, 0, none⟩) (Kd.R_mono HO0_0.out (fun k_ hk => (⟨hk, hk.2⟩ : _ ∧ k_ ≠ gb439))) (fun _ hk => hk.2) (.int .i64 t436)) (fun _ hk => hk.2) (.int .i64 t437)) (fun _ hk => ⟨hk.1.1, hk.1.2⟩)))⟩; have n1_ : Aside0 (w15.heap[gb434]? = some (.cells #[.slice Ao7 l0_0.length co7] 25 (0, 0))) := ⟨(by rw [hw]; exact (by (with_reducible repeat refine bu ?_); refine blk_far ?_ NB434_439.out _; (with_reducible repeat refine bu ?_); refine blk_far ?_ NB434_439.out _; (with_reducible repeat refine bu ?_); exact BK434.out))⟩; have n2_ : Aside0 (w15.heap[gb435]? = some (.cells #[.slice none 0 0] 25 (0, 0))) := ⟨(by rw [hw]; exact (by (with_reducible repeat refine bu ?_); refine blk_far ?_ NB435_439.out _; (with_reducible repeat refine bu ?_); refine blk_far ?_ NB435_439.out _; (with_reducible repeat refine bu ?_); exact BK435.out))⟩; have n3_ : Aside0 (w15.heap[gb439]? = some (.cells #[.int .i64 t436, .int .i64 t437] 34 (0, 0))) := ⟨(by rw [hw]; exact (by (with_reducible repeat refine bu ?_); refine blk_put (cs := #[.int .i64 t436, .int .i64 0]) ?_ 1 _ rfl; (with_reducible repeat refine bu ?_); refine blk_put (cs := #[.int .i64 0, .int .i64 0]) ?_ 0 _ rfl; (with_reducible repeat refine bu ?_); exact BK439.out))⟩; have n4_ : Aside0 (Kept w w15 (fun k_ => P0_0_ k_)) := ⟨(by rw [hw]; exact (by repeat (first | (with_reducible first | exact HK.out | apply Kept.alloc | apply Kept.drewN | apply Kept.drew | refine Kept.setCell ?_ (.inr GW434.out) _ | refine Kept.setCell ?_ (.inr GW435.out) _ | refine Kept.setCell ?_ (.inr GW439.out) _) | exact HK.out)))⟩; have n5_ : Aside0 (Below w0.heap.size w0 w15) := ⟨(by rw [hw]; exact (bl HB))⟩; clear hw; clear HO0_0; clear BK434; clear BK435; clear BK439; clear HK; clear HB; have HO0_0 := n0_; have BK434 := n1_; have BK435 := n2_; have BK439 := n3_; have HK := n4_; have HB := n5_; clear n0_ n1_ n2_ n3_ n4_ n5_; have hnb16 := NB434_435.out; have hnc16 := NB435_434.out; have hcz17_0 : w15.cell? ⟨gb434, 0, none⟩ = some (.slice Ao7 l0_0.length co7) := (blk_cell BK434.out 0).trans rfl; have hfz17_0 := blk_frozen BK434.out 0; have hcz18_0 : w15.cell? ⟨gb439, 0, none⟩ = some (.int .i64 t436) := (blk_cell BK439.out 0).trans rfl; have hcz18_1 : w15.cell? ⟨gb439, 1, none⟩ = some (.int .i64 t437) := (blk_cell BK439.out 1).trans rfl; have hfz18_0 := blk_frozen BK439.out 0; have hfz18_1 := blk_frozen BK439.out 1) | ((with_reducible refine gate_callee (f := 80) rfl ?_); refine goesL_ (some 22) rfl rfl Tryz.func80 (by kernel_rfl) rfl #[.agg #[.slice Ao7 l0_0.length co7], .agg #[.int .i64 t436, .int .i64 t437]] rfl (by (try simp only [List.map_toArray, List.map_cons, List.map_nil]); first | done | rfl | (simp only [List.length_drop, List.length_take]; rfl)) ?_; (with_reducible refine (spec_l3Put.calls k (fun k_ => some k_ = (.slice Ao7 l0_0.length co7 : Value).ownBlock) (.slice Ao7 l0_0.length co7) l0_0 t436 t437 t440 t443 w0 _ ?side1 ?side2 A5.out).mono ?_); (case side1 => repeat (first | (with_reducible first | exact HB.out | apply below_alloc | apply pw_below_drewN | apply below_drew1 | refine below_set ?_ GE434.out | refine below_set ?_ GE435.out | refine below_set ?_ GE439.out) | exact HB.out)); (case side2 => exact Kd.R_tight rfl HO0_0.out); rintro e w19 ⟨v441, rfl, ho0, hb, hkp⟩; refine ⟨_, rfl, ?_⟩; have n0_ := Aside0.mk (blk_kept (bk BK434) hkp (fun hs_ => (fun e_ => (Kd.R_ne HO0_0.out BK434.out (by decide)) e_) hs_)); have n1_ := Aside0.mk (blk_kept (bk BK435) hkp (fun hs_ => (fun e_ => (Kd.R_ne HO0_0.out BK435.out (by decide)) e_) hs_)); have n2_ := Aside0.mk (blk_kept (bk BK439) hkp (fun hs_ => (fun e_ => (Kd.R_away HO0_0.out (fun _ hk => hk.2)) e_) hs_)); have n3_ := Aside0.mk (Kd.R_mono (ok' := fun k_ => (P0_0_ k_ ∨ w.heap.size ≤ k_) ∧ k_ ≠ gb439) ho0 (fun k_ hk_ => ⟨Or.elim hk_ (fun hs_ => (HO0_0.out.1 k_ (hs_).symm).1) (fun hn_ => (.inr (Nat.le_trans (by first | exact HK.out.1 | exact (show Kept w _ (fun k_ => P0_0_ k_) from by repeat (first | (with_reducible first | exact HK.out | apply Kept.alloc | apply Kept.drewN | apply Kept.drew | refine Kept.setCell ?_ (.inr GW434.out) _ | refine Kept.setCell ?_ (.inr GW435.out) _ | refine Kept.setCell ?_ (.inr GW439.out) _) | exact HK.out)).1) hn_))), Or.elim hk_ (fun hs_ => fun e_ => (Kd.R_away HO0_0.out (fun _ hk => hk.2)) (by rw [← e_]; exact hs_)) (fun hn_ => (Kd.freshB (g := gb439) (o := .cells #[.int .i64 t436, .int .i64 t437] 34 (0, 0)) (bk BK439) k_ hn_))⟩)); have n4_ := Aside0.mk (Kept.then_ (S := (fun k_ => P0_0_ k_)) (by repeat (first | (with_reducible first | exact HK.out | apply Kept.alloc | apply Kept.drewN | apply Kept.drew | refine Kept.setCell ?_ (.inr GW434.out) _ | refine Kept.setCell ?_ (.inr GW435.out) _ | refine Kept.setCell ?_ (.inr GW439.out) _) | exact HK.out)) hkp (fun k_ hs_ => (fun e_ => (HO0_0.out.1 k_ e_.symm).1) hs_)); have n5_ := Aside0.mk (hb); clear BK434; clear BK435; clear BK439; clear HK; clear HB; clear HO0_0; have BK434 := n0_; have BK435 := n1_; have BK439 := n2_; have HO442 := n3_; have HK := n4_; have HB := n5_; clear n0_ n1_ n2_ n3_ n4_ n5_; (try clear hb); (try clear hkp); (try clear ho0)) | ((with_reducible refine gate_dst (N := 8) rfl ?_); refine box_event ?hg (N := 8) ?hd (cs := #[.slice none 0 0]) (t := 25) ?hr ?_; (case hd => rfl); (case hg => rfl); (case hr => first | (go_simp; done) | (go_simp; rfl)); intro gb444 hg w20 hbox hb; have n0_ := Aside0.mk (Kd.R_below (rs HO442) hb); have n1_ := bkB BK434 hb; have n2_ := bkB BK435 hb; have n3_ := bkB BK439 hb; have n4_ := Aside0.mk (Kept.below (S := (fun k_ => P0_0_ k_)) (by repeat (first | (with_reducible first | exact HK.out | apply Kept.alloc | apply Kept.drewN | apply Kept.drew | refine Kept.setCell ?_ (.inr GW434.out) _ | refine Kept.setCell ?_ (.inr GW435.out) _ | refine Kept.setCell ?_ (.inr GW439.out) _) | exact HK.out)) hb); have n5_ := Aside0.mk (below_step (bl HB) hb); have n6_ := Aside0.mk (hbox); have n7_ := Aside0.mk ((by rw [hg]; exact (by first | exact HK.out.1 | exact (show Kept w _ (fun k_ => P0_0_ k_) from by repeat (first | (with_reducible first | exact HK.out | apply Kept.alloc | apply Kept.drewN | apply Kept.drew | refine Kept.setCell ?_ (.inr GW434.out) _ | refine Kept.setCell ?_ (.inr GW435.out) _ | refine Kept.setCell ?_ (.inr GW439.out) _) | exact HK.out)).1) : w.heap.size ≤ gb444)); have n8_ := Aside0.mk ((by rw [hg]; exact (below_size (bl HB)) : w0.heap.size ≤ gb444)); have n9_ := Aside0.mk ((by rw [hg]; exact Nat.ne_of_lt (bkL BK434) : gb434 ≠ gb444)); have n10_ := Aside0.mk ((by rw [hg]; exact Nat.ne_of_gt (bkL BK434) : gb444 ≠ gb434)); have n11_ := Aside0.mk ((by rw [hg]; exact Nat.ne_of_lt (bkL BK435) : gb435 ≠ gb444)); have n12_ := Aside0.mk ((by rw [hg]; exact Nat.ne_of_gt (bkL BK435) : gb444 ≠ gb435)); have n13_ := Aside0.mk ((by rw [hg]; exact Nat.ne_of_lt (bkL BK439) : gb439 ≠ gb444)); have n14_ := Aside0.mk ((by rw [hg]; exact Nat.ne_of_gt (bkL BK439) : gb444 ≠ gb439)); clear HO442; clear BK434; clear BK435; clear BK439; clear HK; clear HB; have HO442 := n0_; have BK434 := n1_; have BK435 := n2_; have BK439 := n3_; have HK := n4_; have HB := n5_; have BK444 := n6_; have GW444 := n7_; have GE444 := n8_; have NB434_444 := n9_; have NB444_434 := n10_; have NB435_444 := n11_; have NB444_435 := n12_; have NB439_444 := n13_; have NB444_439 := n14_; clear n0_ n1_ n2_ n3_ n4_ n5_ n6_ n7_ n8_ n9_ n10_ n11_ n12_ n13_ n14_; clear hb hbox hg; obtain ⟨Ao21, co21, eo21⟩ := Kd.R_slice HO442.out; subst eo21; have hnb22 := NB444_434.out; have hnc22 := NB434_444.out; have hnb23 := NB444_435.out; have hnc23 := NB435_444.out; have hnb24 := NB444_439.out; have hnc24 := NB439_444.out; have hcz25_0 : w20.cell? ⟨gb444, 0, none⟩ = some (.slice none 0 0) := (blk_cell BK444.out 0).trans rfl; have hfz25_0 := blk_frozen BK444.out 0; have hcz26_0 : w20.cell? ⟨gb435, 0, none⟩ = some (.slice none 0 0) := (blk_cell BK435.out 0).trans rfl; have hfz26_0 := blk_frozen BK435.out 0))
      refine bodyPost_ret (results_ct rfl _ _ gb435 25 #[.slice Ao21 t440.length co21] (0, 0) _ rfl (by (with_reducible repeat refine bu ?_); refine blk_put (cs := #[.slice none 0 0]) ?_ 0 _ rfl; (with_reducible repeat refine bu ?_); refine blk_far ?_ NB435_444.out _; (with_reducible repeat refine bu ?_); exact BK435.out) Tryz.underlying25 rfl (by kernel_rfl)) rfl ?_
      exact ⟨_, by first | rfl | (simp [errW_none, errW_some] <;> rfl) | (simp [*, errW_none, errW_some] <;> rfl), by (with_reducible repeat apply ru); exact Kd.R_mono (Kd.R_far (p := ⟨gb435, 0, none⟩) (Kd.R_far (p := ⟨gb444, 0, none⟩) (Kd.R_types (Kd.R_types HO442.out BK444.out (by decide)) BK435.out (by decide)) (fun _ hk => hk.1.2) (.slice Ao21 t440.length co21)) (fun _ hk => hk.2) (.slice Ao21 t440.length co21)) (fun _ hk => hk.1.1.1), by repeat (first | (with_reducible first | exact HB.out | apply below_alloc | apply pw_below_drewN | apply below_drew1 | refine below_set ?_ GE434.out | refine below_set ?_ GE435.out | refine below_set ?_ GE439.out | refine below_set ?_ GE444.out) | exact HB.out), by repeat (first | (with_reducible first | exact HK.out | apply Kept.alloc | apply Kept.drewN | apply Kept.drew | refine Kept.setCell ?_ (.inr GW434.out) _ | refine Kept.setCell ?_ (.inr GW435.out) _ | refine Kept.setCell ?_ (.inr GW439.out) _ | refine Kept.setCell ?_ (.inr GW444.out) _) | exact HK.out)⟩
    · rw [if_neg c6] at H
      have c6b0 : (t443 == 0) = false := beq_eq_false_iff_ne.mpr c6
      have c6b1 : (t443 != 0) = true := bne_iff_ne.mpr c6
      replace H := Option.bind_eq_some_iff.mp H
      obtain ⟨t445, A270, H⟩ := H
      replace H : (some (t440, t445)) = some (r1, r2) := H
      have A27 := Aside0.mk A270
      clear A270
      simp only [Option.some.injEq, Prod.mk.injEq] at H
      obtain ⟨rfl, rfl⟩ := H
      obtain ⟨Ao28, co28, eo28⟩ := Kd.R_slice HO0_0.out
      subst eo28
      go_enter Tryz.func46, Tryz.ntmps46
      try go_wp2_with (first | ((with_reducible refine gate_dst (N := 2) rfl ?_); refine box_event ?hg (N := 2) ?hd (cs := #[.slice Ao28 l0_0.length co28]) (t := 25) ?hr ?_; (case hd => rfl); (case hg => rfl); (case hr => first | (go_simp; done) | (go_simp; rfl)); intro gb434 hg w29 hbox hb; have n0_ := Aside0.mk (Kd.R_below (rs HO0_0) hb); have n1_ := Aside0.mk (Kept.below (S := (fun k_ => P0_0_ k_)) (by repeat (first | (with_reducible first | exact HK.out | apply Kept.alloc | apply Kept.drewN | apply Kept.drew) | exact HK.out)) hb); have n2_ := Aside0.mk (below_step (bl HB) hb); have n3_ := Aside0.mk (hbox); have n4_ := Aside0.mk ((by rw [hg]; exact (by first | exact HK.out.1 | exact (show Kept w _ (fun k_ => P0_0_ k_) from by repeat (first | (with_reducible first | exact HK.out | apply Kept.alloc | apply Kept.drewN | apply Kept.drew) | exact HK.out)).1) : w.heap.size ≤ gb434)); have n5_ := Aside0.mk ((by rw [hg]; exact (below_size (bl HB)) : w0.heap.size ≤ gb434)); clear HO0_0; clear HK; clear HB; have HO0_0 := n0_; have HK := n1_; have HB := n2_; have BK434 := n3_; have GW434 := n4_; have GE434 := n5_; clear n0_ n1_ n2_ n3_ n4_ n5_; clear hb hbox hg) | ((with_reducible refine gate_dst (N := 4) rfl ?_); refine box_event ?hg (N := 4) ?hd (cs := #[.slice none 0 0]) (t := 25) ?hr ?_; (case hd => rfl); (case hg => rfl); (case hr => first | (go_simp; done) | (go_simp; rfl)); intro gb435 hg w30 hbox hb; have n0_ := Aside0.mk (Kd.R_below (rs HO0_0) hb); have n1_ := bkB BK434 hb; have n2_ := Aside0.mk (Kept.below (S := (fun k_ => P0_0_ k_)) (by repeat (first | (with_reducible first | exact HK.out | apply Kept.alloc | apply Kept.drewN | apply Kept.drew | refine Kept.setCell ?_ (.inr GW434.out) _) | exact HK.out)) hb); have n3_ := Aside0.mk (below_step (bl HB) hb); have n4_ := Aside0.mk (hbox); have n5_ := Aside0.mk ((by rw [hg]; exact (by first | exact HK.out.1 | exact (show Kept w _ (fun k_ => P0_0_ k_) from by repeat (first | (with_reducible first | exact HK.out | apply Kept.alloc | apply Kept.drewN | apply Kept.drew | refine Kept.setCell ?_ (.inr GW434.out) _) | exact HK.out)).1) : w.heap.size ≤ gb435)); have n6_ := Aside0.mk ((by rw [hg]; exact (below_size (bl HB)) : w0.heap.size ≤ gb435)); have n7_ := Aside0.mk ((by rw [hg]; exact Nat.ne_of_lt (bkL BK434) : gb434 ≠ gb435)); have n8_ := Aside0.mk ((by rw [hg]; exact Nat.ne_of_gt (bkL BK434) : gb435 ≠ gb434)); clear HO0_0; clear BK434; clear HK; clear HB; have HO0_0 := n0_; have BK434 := n1_; have HK := n2_; have HB := n3_; have BK435 := n4_; have GW435 := n5_; have GE435 := n6_; have NB434_435 := n7_; have NB435_434 := n8_; clear n0_ n1_ n2_ n3_ n4_ n5_ n6_ n7_ n8_; clear hb hbox hg) | ((with_reducible refine gate_callee (f := 79) rfl ?_); refine goesL_ (some 12) rfl rfl Tryz.func79 (by kernel_rfl) rfl #[.string a1] rfl (by (try simp only [List.map_toArray, List.map_cons, List.map_nil]); first | done | rfl | (simp only [List.length_drop, List.length_take]; rfl)) ?_; (with_reducible refine (spec_LinSays.calls k a1 t436 t437 true _ A3.out).mono ?_); rintro e w31 ⟨rfl, hb⟩; refine ⟨_, rfl, ?_⟩; have n0_ := Aside0.mk (Kd.R_below (rs HO0_0) hb); have n1_ := bkB BK434 hb; have n2_ := bkB BK435 hb; have n3_ := Aside0.mk (Kept.below (S := (fun k_ => P0_0_ k_)) (by repeat (first | (with_reducible first | exact HK.out | apply Kept.alloc | apply Kept.drewN | apply Kept.drew | refine Kept.setCell ?_ (.inr GW434.out) _ | refine Kept.setCell ?_ (.inr GW435.out) _) | exact HK.out)) hb); have n4_ := Aside0.mk (below_step (bl HB) hb); clear HO0_0; clear BK434; clear BK435; clear HK; clear HB; have HO0_0 := n0_; have BK434 := n1_; have BK435 := n2_; have HK := n3_; have HB := n4_; clear n0_ n1_ n2_ n3_ n4_; (try clear hb); (try clear hb2); (try clear hk); (try clear hi)) | ((with_reducible refine gate_dst (N := 6) rfl ?_); refine box_event ?hg (N := 6) ?hd (cs := #[.int .i64 0, .int .i64 0]) (t := 34) ?hr ?_; (case hd => rfl); (case hg => rfl); (case hr => first | (go_simp; done) | (go_simp; rfl)); intro gb439 hg w32 hbox hb; have n0_ := Aside0.mk (Kd.R_below (Kd.R_elderB (rs HO0_0) gb439 (Nat.le_of_eq hg.symm)) hb); have n1_ := bkB BK434 hb; have n2_ := bkB BK435 hb; have n3_ := Aside0.mk (Kept.below (S := (fun k_ => P0_0_ k_)) (by repeat (first | (with_reducible first | exact HK.out | apply Kept.alloc | apply Kept.drewN | apply Kept.drew | refine Kept.setCell ?_ (.inr GW434.out) _ | refine Kept.setCell ?_ (.inr GW435.out) _) | exact HK.out)) hb); have n4_ := Aside0.mk (below_step (bl HB) hb); have n5_ := Aside0.mk (hbox); have n6_ := Aside0.mk ((by rw [hg]; exact (by first | exact HK.out.1 | exact (show Kept w _ (fun k_ => P0_0_ k_) from by repeat (first | (with_reducible first | exact HK.out | apply Kept.alloc | apply Kept.drewN | apply Kept.drew | refine Kept.setCell ?_ (.inr GW434.out) _ | refine Kept.setCell ?_ (.inr GW435.out) _) | exact HK.out)).1) : w.heap.size ≤ gb439)); have n7_ := Aside0.mk ((by rw [hg]; exact (below_size (bl HB)) : w0.heap.size ≤ gb439)); have n8_ := Aside0.mk ((by rw [hg]; exact Nat.ne_of_lt (bkL BK434) : gb434 ≠ gb439)); have n9_ := Aside0.mk ((by rw [hg]; exact Nat.ne_of_gt (bkL BK434) : gb439 ≠ gb434)); have n10_ := Aside0.mk ((by rw [hg]; exact Nat.ne_of_lt (bkL BK435) : gb435 ≠ gb439)); have n11_ := Aside0.mk ((by rw [hg]; exact Nat.ne_of_gt (bkL BK435) : gb439 ≠ gb435)); clear HO0_0; clear BK434; clear BK435; clear HK; clear HB; have HO0_0 := n0_; have BK434 := n1_; have BK435 := n2_; have HK := n3_; have HB := n4_; have BK439 := n5_; have GW439 := n6_; have GE439 := n7_; have NB434_439 := n8_; have NB439_434 := n9_; have NB435_439 := n10_; have NB439_435 := n11_; clear n0_ n1_ n2_ n3_ n4_ n5_ n6_ n7_ n8_ n9_ n10_ n11_; clear hb hbox hg; have hnb33 := NB439_434.out; have hnc33 := NB434_439.out; have hnb34 := NB439_435.out; have hnc34 := NB435_439.out; have hcz35_0 : w32.cell? ⟨gb439, 0, none⟩ = some (.int .i64 0) := (blk_cell BK439.out 0).trans rfl; have hcz35_1 : w32.cell? ⟨gb439, 1, none⟩ = some (.int .i64 0) := (blk_cell BK439.out 1).trans rfl; have hfz35_0 := blk_frozen BK439.out 0; have hfz35_1 := blk_frozen BK439.out 1) | ((with_reducible refine gate_store (t := 34) (p := 6) rfl ?_); refine store_event (t := 34) (p := 6) (v := ?vo_w36) (w1 := ((w32.setCell ⟨gb439, 0, none⟩ (.int .i64 t436)).setCell ⟨gb439, 1, none⟩ (.int .i64 t437))) ?hg ?ho ?hn ?hr ?_; (case ho => rfl); (case hg => rfl); (case hn => rfl); (case hr => first | (go_simp; done) | (go_simp; rfl)); intro w36 hw; have n0_ : Aside0 (Kd.R k34 34 w36 w0.heap.size (fun k_ => (P0_0_ k_ ∨ w.heap.size ≤ k_) ∧ k_ ≠ gb439) (.slice Ao28 l0_0.length co28) l0_0) := ⟨(by rw [hw]; exact (by (with_reducible repeat apply ru); exact Kd.R_mono (Kd.R_far (p := ⟨gb439, 1, none⟩) (Kd.R_far (p := ⟨gb439, 0, none⟩) (Kd.R_mono HO0_0.out (fun k_ hk => (⟨hk, hk.2⟩ : _ ∧ k_ ≠ gb439))) (fun _ hk => hk.2) (.int .i64 t436)) (fun _ hk => hk.2) (.int .i64 t437)) (fun _ hk => ⟨hk.1.1, hk.1.2⟩)))⟩; have n1_ : Aside0 (w36.heap[gb434]? = some (.cells #[.slice Ao28 l0_0.length co28] 25 (0, 0))) := ⟨(by rw [hw]; exact (by (with_reducible repeat refine bu ?_); refine blk_far ?_ NB434_439.out _; (with_reducible repeat refine bu ?_); refine blk_far ?_ NB434_439.out _; (with_reducible repeat refine bu ?_); exact BK434.out))⟩; have n2_ : Aside0 (w36.heap[gb435]? = some (.cells #[.slice none 0 0] 25 (0, 0))) := ⟨(by rw [hw]; exact (by (with_reducible repeat refine bu ?_); refine blk_far ?_ NB435_439.out _; (with_reducible repeat refine bu ?_); refine blk_far ?_ NB435_439.out _; (with_reducible repeat refine bu ?_); exact BK435.out))⟩; have n3_ : Aside0 (w36.heap[gb439]? = some (.cells #[.int .i64 t436, .int .i64 t437] 34 (0, 0))) := ⟨(by rw [hw]; exact (by (with_reducible repeat refine bu ?_); refine blk_put (cs := #[.int .i64 t436, .int .i64 0]) ?_ 1 _ rfl; (with_reducible repeat refine bu ?_); refine blk_put (cs := #[.int .i64 0, .int .i64 0]) ?_ 0 _ rfl; (with_reducible repeat refine bu ?_); exact BK439.out))⟩; have n4_ : Aside0 (Kept w w36 (fun k_ => P0_0_ k_)) := ⟨(by rw [hw]; exact (by repeat (first | (with_reducible first | exact HK.out | apply Kept.alloc | apply Kept.drewN | apply Kept.drew | refine Kept.setCell ?_ (.inr GW434.out) _ | refine Kept.setCell ?_ (.inr GW435.out) _ | refine Kept.setCell ?_ (.inr GW439.out) _) | exact HK.out)))⟩; have n5_ : Aside0 (Below w0.heap.size w0 w36) := ⟨(by rw [hw]; exact (bl HB))⟩; clear hw; clear HO0_0; clear BK434; clear BK435; clear BK439; clear HK; clear HB; have HO0_0 := n0_; have BK434 := n1_; have BK435 := n2_; have BK439 := n3_; have HK := n4_; have HB := n5_; clear n0_ n1_ n2_ n3_ n4_ n5_; have hnb37 := NB434_435.out; have hnc37 := NB435_434.out; have hcz38_0 : w36.cell? ⟨gb434, 0, none⟩ = some (.slice Ao28 l0_0.length co28) := (blk_cell BK434.out 0).trans rfl; have hfz38_0 := blk_frozen BK434.out 0; have hcz39_0 : w36.cell? ⟨gb439, 0, none⟩ = some (.int .i64 t436) := (blk_cell BK439.out 0).trans rfl; have hcz39_1 : w36.cell? ⟨gb439, 1, none⟩ = some (.int .i64 t437) := (blk_cell BK439.out 1).trans rfl; have hfz39_0 := blk_frozen BK439.out 0; have hfz39_1 := blk_frozen BK439.out 1) | ((with_reducible refine gate_callee (f := 80) rfl ?_); refine goesL_ (some 22) rfl rfl Tryz.func80 (by kernel_rfl) rfl #[.agg #[.slice Ao28 l0_0.length co28], .agg #[.int .i64 t436, .int .i64 t437]] rfl (by (try simp only [List.map_toArray, List.map_cons, List.map_nil]); first | done | rfl | (simp only [List.length_drop, List.length_take]; rfl)) ?_; (with_reducible refine (spec_l3Put.calls k (fun k_ => some k_ = (.slice Ao28 l0_0.length co28 : Value).ownBlock) (.slice Ao28 l0_0.length co28) l0_0 t436 t437 t440 t443 w0 _ ?side1 ?side2 A5.out).mono ?_); (case side1 => repeat (first | (with_reducible first | exact HB.out | apply below_alloc | apply pw_below_drewN | apply below_drew1 | refine below_set ?_ GE434.out | refine below_set ?_ GE435.out | refine below_set ?_ GE439.out) | exact HB.out)); (case side2 => exact Kd.R_tight rfl HO0_0.out); rintro e w40 ⟨v441, rfl, ho0, hb, hkp⟩; refine ⟨_, rfl, ?_⟩; have n0_ := Aside0.mk (blk_kept (bk BK434) hkp (fun hs_ => (fun e_ => (Kd.R_ne HO0_0.out BK434.out (by decide)) e_) hs_)); have n1_ := Aside0.mk (blk_kept (bk BK435) hkp (fun hs_ => (fun e_ => (Kd.R_ne HO0_0.out BK435.out (by decide)) e_) hs_)); have n2_ := Aside0.mk (blk_kept (bk BK439) hkp (fun hs_ => (fun e_ => (Kd.R_away HO0_0.out (fun _ hk => hk.2)) e_) hs_)); have n3_ := Aside0.mk (Kd.R_mono (ok' := fun k_ => (P0_0_ k_ ∨ w.heap.size ≤ k_) ∧ k_ ≠ gb439) ho0 (fun k_ hk_ => ⟨Or.elim hk_ (fun hs_ => (HO0_0.out.1 k_ (hs_).symm).1) (fun hn_ => (.inr (Nat.le_trans (by first | exact HK.out.1 | exact (show Kept w _ (fun k_ => P0_0_ k_) from by repeat (first | (with_reducible first | exact HK.out | apply Kept.alloc | apply Kept.drewN | apply Kept.drew | refine Kept.setCell ?_ (.inr GW434.out) _ | refine Kept.setCell ?_ (.inr GW435.out) _ | refine Kept.setCell ?_ (.inr GW439.out) _) | exact HK.out)).1) hn_))), Or.elim hk_ (fun hs_ => fun e_ => (Kd.R_away HO0_0.out (fun _ hk => hk.2)) (by rw [← e_]; exact hs_)) (fun hn_ => (Kd.freshB (g := gb439) (o := .cells #[.int .i64 t436, .int .i64 t437] 34 (0, 0)) (bk BK439) k_ hn_))⟩)); have n4_ := Aside0.mk (Kept.then_ (S := (fun k_ => P0_0_ k_)) (by repeat (first | (with_reducible first | exact HK.out | apply Kept.alloc | apply Kept.drewN | apply Kept.drew | refine Kept.setCell ?_ (.inr GW434.out) _ | refine Kept.setCell ?_ (.inr GW435.out) _ | refine Kept.setCell ?_ (.inr GW439.out) _) | exact HK.out)) hkp (fun k_ hs_ => (fun e_ => (HO0_0.out.1 k_ e_.symm).1) hs_)); have n5_ := Aside0.mk (hb); clear BK434; clear BK435; clear BK439; clear HK; clear HB; clear HO0_0; have BK434 := n0_; have BK435 := n1_; have BK439 := n2_; have HO442 := n3_; have HK := n4_; have HB := n5_; clear n0_ n1_ n2_ n3_ n4_ n5_; (try clear hb); (try clear hkp); (try clear ho0)) | ((with_reducible refine gate_dst (N := 8) rfl ?_); refine box_event ?hg (N := 8) ?hd (cs := #[.slice none 0 0]) (t := 25) ?hr ?_; (case hd => rfl); (case hg => rfl); (case hr => first | (go_simp; done) | (go_simp; rfl)); intro gb444 hg w41 hbox hb; have n0_ := Aside0.mk (Kd.R_below (rs HO442) hb); have n1_ := bkB BK434 hb; have n2_ := bkB BK435 hb; have n3_ := bkB BK439 hb; have n4_ := Aside0.mk (Kept.below (S := (fun k_ => P0_0_ k_)) (by repeat (first | (with_reducible first | exact HK.out | apply Kept.alloc | apply Kept.drewN | apply Kept.drew | refine Kept.setCell ?_ (.inr GW434.out) _ | refine Kept.setCell ?_ (.inr GW435.out) _ | refine Kept.setCell ?_ (.inr GW439.out) _) | exact HK.out)) hb); have n5_ := Aside0.mk (below_step (bl HB) hb); have n6_ := Aside0.mk (hbox); have n7_ := Aside0.mk ((by rw [hg]; exact (by first | exact HK.out.1 | exact (show Kept w _ (fun k_ => P0_0_ k_) from by repeat (first | (with_reducible first | exact HK.out | apply Kept.alloc | apply Kept.drewN | apply Kept.drew | refine Kept.setCell ?_ (.inr GW434.out) _ | refine Kept.setCell ?_ (.inr GW435.out) _ | refine Kept.setCell ?_ (.inr GW439.out) _) | exact HK.out)).1) : w.heap.size ≤ gb444)); have n8_ := Aside0.mk ((by rw [hg]; exact (below_size (bl HB)) : w0.heap.size ≤ gb444)); have n9_ := Aside0.mk ((by rw [hg]; exact Nat.ne_of_lt (bkL BK434) : gb434 ≠ gb444)); have n10_ := Aside0.mk ((by rw [hg]; exact Nat.ne_of_gt (bkL BK434) : gb444 ≠ gb434)); have n11_ := Aside0.mk ((by rw [hg]; exact Nat.ne_of_lt (bkL BK435) : gb435 ≠ gb444)); have n12_ := Aside0.mk ((by rw [hg]; exact Nat.ne_of_gt (bkL BK435) : gb444 ≠ gb435)); have n13_ := Aside0.mk ((by rw [hg]; exact Nat.ne_of_lt (bkL BK439) : gb439 ≠ gb444)); have n14_ := Aside0.mk ((by rw [hg]; exact Nat.ne_of_gt (bkL BK439) : gb444 ≠ gb439)); clear HO442; clear BK434; clear BK435; clear BK439; clear HK; clear HB; have HO442 := n0_; have BK434 := n1_; have BK435 := n2_; have BK439 := n3_; have HK := n4_; have HB := n5_; have BK444 := n6_; have GW444 := n7_; have GE444 := n8_; have NB434_444 := n9_; have NB444_434 := n10_; have NB435_444 := n11_; have NB444_435 := n12_; have NB439_444 := n13_; have NB444_439 := n14_; clear n0_ n1_ n2_ n3_ n4_ n5_ n6_ n7_ n8_ n9_ n10_ n11_ n12_ n13_ n14_; clear hb hbox hg; obtain ⟨Ao42, co42, eo42⟩ := Kd.R_slice HO442.out; subst eo42; have hnb43 := NB444_434.out; have hnc43 := NB434_444.out; have hnb44 := NB444_435.out; have hnc44 := NB435_444.out; have hnb45 := NB444_439.out; have hnc45 := NB439_444.out; have hcz46_0 : w41.cell? ⟨gb444, 0, none⟩ = some (.slice none 0 0) := (blk_cell BK444.out 0).trans rfl; have hfz46_0 := blk_frozen BK444.out 0))
      have n0_ : Aside0 (Kd.R k34 34 (w41.setCell ⟨gb444, 0, none⟩ (.slice Ao42 t440.length co42)) w0.heap.size (fun k_ => (P0_0_ k_ ∨ w.heap.size ≤ k_) ∧ k_ ≠ gb439) (.slice Ao42 t440.length co42) t440) := ⟨by (with_reducible repeat apply ru); exact Kd.R_mono (Kd.R_far (p := ⟨gb444, 0, none⟩) (Kd.R_types HO442.out BK444.out (by decide)) (fun _ hk => hk.2) (.slice Ao42 t440.length co42)) (fun _ hk => ⟨hk.1.1, hk.1.2⟩)⟩
      have n1_ : Aside0 ((w41.setCell ⟨gb444, 0, none⟩ (.slice Ao42 t440.length co42)).heap[gb434]? = some (.cells #[.slice Ao28 l0_0.length co28] 25 (0, 0))) := ⟨by (with_reducible repeat refine bu ?_); refine blk_far ?_ NB434_444.out _; (with_reducible repeat refine bu ?_); exact BK434.out⟩
      have n2_ : Aside0 ((w41.setCell ⟨gb444, 0, none⟩ (.slice Ao42 t440.length co42)).heap[gb435]? = some (.cells #[.slice none 0 0] 25 (0, 0))) := ⟨by (with_reducible repeat refine bu ?_); refine blk_far ?_ NB435_444.out _; (with_reducible repeat refine bu ?_); exact BK435.out⟩
      have n3_ : Aside0 ((w41.setCell ⟨gb444, 0, none⟩ (.slice Ao42 t440.length co42)).heap[gb439]? = some (.cells #[.int .i64 t436, .int .i64 t437] 34 (0, 0))) := ⟨by (with_reducible repeat refine bu ?_); refine blk_far ?_ NB439_444.out _; (with_reducible repeat refine bu ?_); exact BK439.out⟩
      have n4_ : Aside0 ((w41.setCell ⟨gb444, 0, none⟩ (.slice Ao42 t440.length co42)).heap[gb444]? = some (.cells #[.slice Ao42 t440.length co42] 25 (0, 0))) := ⟨by (with_reducible repeat refine bu ?_); refine blk_put (cs := #[.slice none 0 0]) ?_ 0 _ rfl; (with_reducible repeat refine bu ?_); exact BK444.out⟩
      have n5_ : Aside0 (Kept w (w41.setCell ⟨gb444, 0, none⟩ (.slice Ao42 t440.length co42)) (fun k_ => P0_0_ k_)) := ⟨by repeat (first | (with_reducible first | exact HK.out | apply Kept.alloc | apply Kept.drewN | apply Kept.drew | refine Kept.setCell ?_ (.inr GW434.out) _ | refine Kept.setCell ?_ (.inr GW435.out) _ | refine Kept.setCell ?_ (.inr GW439.out) _ | refine Kept.setCell ?_ (.inr GW444.out) _) | exact HK.out)⟩
      have n6_ : Aside0 (Below w0.heap.size w0 (w41.setCell ⟨gb444, 0, none⟩ (.slice Ao42 t440.length co42))) := ⟨by repeat (first | (with_reducible first | exact HB.out | apply below_alloc | apply pw_below_drewN | apply below_drew1 | refine below_set ?_ GE434.out | refine below_set ?_ GE435.out | refine below_set ?_ GE439.out | refine below_set ?_ GE444.out) | exact HB.out)⟩
      (try clear HO442)
      (try clear BK434)
      (try clear BK435)
      (try clear BK439)
      (try clear BK444)
      (try clear HK)
      (try clear HB)
      generalize (w41.setCell ⟨gb444, 0, none⟩ (.slice Ao42 t440.length co42)) = w47 at n0_ n1_ n2_ n3_ n4_ n5_ n6_ ⊢
      have HO442 := n0_
      have BK434 := n1_
      have BK435 := n2_
      have BK439 := n3_
      have BK444 := n4_
      have HK := n5_
      have HB := n6_
      clear n0_ n1_ n2_ n3_ n4_ n5_ n6_
      have n0_ := Aside0.mk (Kd.R_drew HO442.out)
      have n1_ := Aside0.mk (blk_drew BK434.out)
      have n2_ := Aside0.mk (blk_drew BK435.out)
      have n3_ := Aside0.mk (blk_drew BK439.out)
      have n4_ := Aside0.mk (blk_drew BK444.out)
      have n5_ := Aside0.mk (Kept.drew HK.out)
      have n6_ := Aside0.mk (below_drew1 HB.out)
      clear HO442
      clear BK434
      clear BK435
      clear BK439
      clear BK444
      clear HK
      clear HB
      have HO442 := n0_
      have BK434 := n1_
      have BK435 := n2_
      have BK439 := n3_
      have BK444 := n4_
      have HK := n5_
      have HB := n6_
      clear n0_ n1_ n2_ n3_ n4_ n5_ n6_
      refine start_ (n := 6) (S := fun w' => w'.cell? ⟨gb444, 0, none⟩ = some (.slice Ao42 t440.length co42)) (ds := []) #[false, false, false, false, false, false] (by kernel_rfl) rfl rfl ((blk_cell BK444.out 0).trans rfl) (fun hHeld => ?_)
      generalize w47.drew = w48 at HO442 BK434 BK435 BK439 BK444 HK HB hHeld ⊢
      refine pure_ (i := 1) (N := some 29) (v := ?_) (a' := ?_) #[false, true, false, false, false, false] rfl rfl (by kernel_rfl) (fun _ _ _ h => h) (Or.inl ⟨by rfl, ?_⟩) ?_ ?_
      rotate_left
      · intro w'
        go_simp
        with_reducible rfl
      rotate_left
      · simp only [Act.put, List.setIfInBounds_toArray, List.set_cons_zero, List.set_cons_succ, i64_w, i32_w]
        rfl
      refine pure_ (i := 2) (N := some 30) (v := ?_) (a' := ?_) #[false, true, true, false, false, false] rfl rfl (by kernel_rfl) (fun _ _ _ h => h) (Or.inl ⟨by rfl, ?_⟩) ?_ ?_
      rotate_left
      · intro w'
        go_simp
        with_reducible rfl
      rotate_left
      · simp only [Act.put, List.setIfInBounds_toArray, List.set_cons_zero, List.set_cons_succ, i64_w, i32_w]
        rfl
      refine take_ (i := 0) (N := some 28) (v := ?_) (a' := ?_) #[true, true, true, false, false, false] rfl rfl (by kernel_rfl) (fun _ _ _ h => h) (Or.inl ⟨by rfl, ?_⟩) hHeld ?_ ?_
      rotate_left
      · intro w' s0
        go_simp
        with_reducible rfl
      rotate_left
      · simp only [Act.put, List.setIfInBounds_toArray, List.set_cons_zero, List.set_cons_succ, i64_w, i32_w]
        rfl
      refine one_ (i := 3) (N := some 31) #[true, true, true, true, false, false] rfl rfl (by kernel_rfl) (by decide) (fun K hK => ?_)
      refine goes_ Tryz.func64 (by kernel_rfl) rfl #[.agg #[.int .i64 50, .int .i64 t443]] (by rfl) rfl rfl (by (try simp only [List.map_toArray, List.map_cons, List.map_nil]); first | done | rfl | (simp only [List.length_drop, List.length_take]; rfl)) ?_
      with_reducible refine (spec_LinPort.calls k 50 t443 t445 _ A27.out).mono ?_
      rintro e w49 ⟨rfl, hb⟩
      refine ⟨_, rfl, ?_⟩
      have n0_ := Aside0.mk (Kd.R_below (rs HO442) hb)
      have n1_ := bkB BK434 hb
      have n2_ := bkB BK435 hb
      have n3_ := bkB BK439 hb
      have n4_ := bkB BK444 hb
      have n5_ := Aside0.mk (Kept.below (S := (fun k_ => P0_0_ k_)) (by repeat (first | (with_reducible first | exact HK.out | apply Kept.alloc | apply Kept.drewN | apply Kept.drew | refine Kept.setCell ?_ (.inr GW434.out) _ | refine Kept.setCell ?_ (.inr GW435.out) _ | refine Kept.setCell ?_ (.inr GW439.out) _ | refine Kept.setCell ?_ (.inr GW444.out) _) | exact HK.out)) hb)
      have n6_ := Aside0.mk (below_step (bl HB) hb)
      clear HO442
      clear BK434
      clear BK435
      clear BK439
      clear BK444
      clear HK
      clear HB
      have HO442 := n0_
      have BK434 := n1_
      have BK435 := n2_
      have BK439 := n3_
      have BK444 := n4_
      have HK := n5_
      have HB := n6_
      clear n0_ n1_ n2_ n3_ n4_ n5_ n6_
      (try clear hb)
      (try clear hb2)
      (try clear hk)
      (try clear hi)
      refine hK.out _ _ ((blk_cell BK444.out 0).trans rfl) (fun hHeld => ?_)
      clear hK K
      refine norm_ (a' := ?_) ?_ ?_
      rotate_left
      · show Act.put _ (some 31) _ = _
        simp only [Act.put, List.setIfInBounds_toArray, List.set_cons_zero, List.set_cons_succ, i64_w, i32_w]
        rfl
      refine one_ (i := 4) (N := none) #[true, true, true, true, true, false] rfl rfl (by kernel_rfl) (by decide) (fun K hK => ?_)
      have hs50 : w49.cell? ⟨gb435, 0, none⟩ = some (.slice none 0 0) := (blk_cell BK435.out 0).trans rfl
      have hfs50 := blk_frozen BK435.out 0
      have hns50_0 := NB434_435.out
      have hns50_2 := NB439_435.out
      have hns50_3 := NB444_435.out
      have hms50_0 := NB435_434.out
      have hms50_2 := NB435_439.out
      have hms50_3 := NB435_444.out
      refine skip_ (w1 := ?_) (by rfl) rfl ?_ ?_
      rotate_left
      · go_simp
        rfl
      refine hK.out _ _ (((cell_far (p := ⟨gb435, _, none⟩) NB444_435.out _).trans (hHeld))) (fun hHeld => ?_)
      clear hK K
      refine pure_ (i := 5) (N := some 5) (v := ?_) (a' := ?_) #[true, true, true, true, true, true] rfl rfl (by kernel_rfl) (fun _ _ _ h => h) (Or.inl ⟨by rfl, ?_⟩) ?_ ?_
      rotate_left
      · intro w'
        go_simp
        with_reducible rfl
      rotate_left
      · simp only [Act.put, List.setIfInBounds_toArray, List.set_cons_zero, List.set_cons_succ, i64_w, i32_w]
        rfl
      refine done_ (by kernel_rfl) ?_
      try go_wp2
      refine bodyPost_ret (results_ct rfl _ _ gb435 25 #[.slice Ao42 t440.length co42] (0, 0) _ rfl (by (with_reducible repeat refine bu ?_); refine blk_put (cs := #[.slice none 0 0]) ?_ 0 _ rfl; (with_reducible repeat refine bu ?_); exact BK435.out) Tryz.underlying25 rfl (by kernel_rfl)) rfl ?_
      exact ⟨_, by first | rfl | (simp [errW_none, errW_some] <;> rfl) | (simp [*, errW_none, errW_some] <;> rfl), by (with_reducible repeat apply ru); exact Kd.R_mono (Kd.R_far (p := ⟨gb435, 0, none⟩) (Kd.R_types HO442.out BK435.out (by decide)) (fun _ hk => hk.2) (.slice Ao42 t440.length co42)) (fun _ hk => hk.1.1), by repeat (first | (with_reducible first | exact HB.out | apply below_alloc | apply pw_below_drewN | apply below_drew1 | refine below_set ?_ GE434.out | refine below_set ?_ GE435.out | refine below_set ?_ GE439.out | refine below_set ?_ GE444.out) | exact HB.out), by repeat (first | (with_reducible first | exact HK.out | apply Kept.alloc | apply Kept.drewN | apply Kept.drew | refine Kept.setCell ?_ (.inr GW434.out) _ | refine Kept.setCell ?_ (.inr GW435.out) _ | refine Kept.setCell ?_ (.inr GW439.out) _ | refine Kept.setCell ?_ (.inr GW444.out) _) | exact HK.out)⟩
  · replace c4 := Bool.eq_false_iff.mpr c4
    subst c4
    have H1 : (some (l0_0, a1)) = some (r1, r2) := by rw [if_neg (show ¬ (false = true) by decide)] at H; exact H
    clear H
    have H := H1
    clear H1
    simp only [Option.some.injEq, Prod.mk.injEq] at H
    obtain ⟨rfl, rfl⟩ := H
    obtain ⟨Ao51, co51, eo51⟩ := Kd.R_slice HO0_0.out
    subst eo51
    go_enter Tryz.func46, Tryz.ntmps46
    go_wp2_with (first | ((with_reducible refine gate_dst (N := 2) rfl ?_); refine box_event ?hg (N := 2) ?hd (cs := #[.slice Ao51 l0_0.length co51]) (t := 25) ?hr ?_; (case hd => rfl); (case hg => rfl); (case hr => first | (go_simp; done) | (go_simp; rfl)); intro gb434 hg w52 hbox hb; have n0_ := Aside0.mk (Kd.R_below (rs HO0_0) hb); have n1_ := Aside0.mk (Kept.below (S := (fun k_ => P0_0_ k_)) (by repeat (first | (with_reducible first | exact HK.out | apply Kept.alloc | apply Kept.drewN | apply Kept.drew) | exact HK.out)) hb); have n2_ := Aside0.mk (below_step (bl HB) hb); have n3_ := Aside0.mk (hbox); have n4_ := Aside0.mk ((by rw [hg]; exact (by first | exact HK.out.1 | exact (show Kept w _ (fun k_ => P0_0_ k_) from by repeat (first | (with_reducible first | exact HK.out | apply Kept.alloc | apply Kept.drewN | apply Kept.drew) | exact HK.out)).1) : w.heap.size ≤ gb434)); have n5_ := Aside0.mk ((by rw [hg]; exact (below_size (bl HB)) : w0.heap.size ≤ gb434)); clear HO0_0; clear HK; clear HB; have HO0_0 := n0_; have HK := n1_; have HB := n2_; have BK434 := n3_; have GW434 := n4_; have GE434 := n5_; clear n0_ n1_ n2_ n3_ n4_ n5_; clear hb hbox hg) | ((with_reducible refine gate_dst (N := 4) rfl ?_); refine box_event ?hg (N := 4) ?hd (cs := #[.slice none 0 0]) (t := 25) ?hr ?_; (case hd => rfl); (case hg => rfl); (case hr => first | (go_simp; done) | (go_simp; rfl)); intro gb435 hg w53 hbox hb; have n0_ := Aside0.mk (Kd.R_below (rs HO0_0) hb); have n1_ := bkB BK434 hb; have n2_ := Aside0.mk (Kept.below (S := (fun k_ => P0_0_ k_)) (by repeat (first | (with_reducible first | exact HK.out | apply Kept.alloc | apply Kept.drewN | apply Kept.drew | refine Kept.setCell ?_ (.inr GW434.out) _) | exact HK.out)) hb); have n3_ := Aside0.mk (below_step (bl HB) hb); have n4_ := Aside0.mk (hbox); have n5_ := Aside0.mk ((by rw [hg]; exact (by first | exact HK.out.1 | exact (show Kept w _ (fun k_ => P0_0_ k_) from by repeat (first | (with_reducible first | exact HK.out | apply Kept.alloc | apply Kept.drewN | apply Kept.drew | refine Kept.setCell ?_ (.inr GW434.out) _) | exact HK.out)).1) : w.heap.size ≤ gb435)); have n6_ := Aside0.mk ((by rw [hg]; exact (below_size (bl HB)) : w0.heap.size ≤ gb435)); have n7_ := Aside0.mk ((by rw [hg]; exact Nat.ne_of_lt (bkL BK434) : gb434 ≠ gb435)); have n8_ := Aside0.mk ((by rw [hg]; exact Nat.ne_of_gt (bkL BK434) : gb435 ≠ gb434)); clear HO0_0; clear BK434; clear HK; clear HB; have HO0_0 := n0_; have BK434 := n1_; have HK := n2_; have HB := n3_; have BK435 := n4_; have GW435 := n5_; have GE435 := n6_; have NB434_435 := n7_; have NB435_434 := n8_; clear n0_ n1_ n2_ n3_ n4_ n5_ n6_ n7_ n8_; clear hb hbox hg) | ((with_reducible refine gate_callee (f := 79) rfl ?_); refine goesL_ (some 12) rfl rfl Tryz.func79 (by kernel_rfl) rfl #[.string a1] rfl (by (try simp only [List.map_toArray, List.map_cons, List.map_nil]); first | done | rfl | (simp only [List.length_drop, List.length_take]; rfl)) ?_; (with_reducible refine (spec_LinSays.calls k a1 t436 t437 false _ A3.out).mono ?_); rintro e w54 ⟨rfl, hb⟩; refine ⟨_, rfl, ?_⟩; have n0_ := Aside0.mk (Kd.R_below (rs HO0_0) hb); have n1_ := bkB BK434 hb; have n2_ := bkB BK435 hb; have n3_ := Aside0.mk (Kept.below (S := (fun k_ => P0_0_ k_)) (by repeat (first | (with_reducible first | exact HK.out | apply Kept.alloc | apply Kept.drewN | apply Kept.drew | refine Kept.setCell ?_ (.inr GW434.out) _ | refine Kept.setCell ?_ (.inr GW435.out) _) | exact HK.out)) hb); have n4_ := Aside0.mk (below_step (bl HB) hb); clear HO0_0; clear BK434; clear BK435; clear HK; clear HB; have HO0_0 := n0_; have BK434 := n1_; have BK435 := n2_; have HK := n3_; have HB := n4_; clear n0_ n1_ n2_ n3_ n4_; (try clear hb); (try clear hb2); (try clear hk); (try clear hi)) | ((with_reducible refine gate_dst (N := 6) rfl ?_); refine box_event ?hg (N := 6) ?hd (cs := #[.int .i64 0, .int .i64 0]) (t := 34) ?hr ?_; (case hd => rfl); (case hg => rfl); (case hr => first | (go_simp; done) | (go_simp; rfl)); intro gb439 hg w55 hbox hb; have n0_ := Aside0.mk (Kd.R_below (Kd.R_elderB (rs HO0_0) gb439 (Nat.le_of_eq hg.symm)) hb); have n1_ := bkB BK434 hb; have n2_ := bkB BK435 hb; have n3_ := Aside0.mk (Kept.below (S := (fun k_ => P0_0_ k_)) (by repeat (first | (with_reducible first | exact HK.out | apply Kept.alloc | apply Kept.drewN | apply Kept.drew | refine Kept.setCell ?_ (.inr GW434.out) _ | refine Kept.setCell ?_ (.inr GW435.out) _) | exact HK.out)) hb); have n4_ := Aside0.mk (below_step (bl HB) hb); have n5_ := Aside0.mk (hbox); have n6_ := Aside0.mk ((by rw [hg]; exact (by first | exact HK.out.1 | exact (show Kept w _ (fun k_ => P0_0_ k_) from by repeat (first | (with_reducible first | exact HK.out | apply Kept.alloc | apply Kept.drewN | apply Kept.drew | refine Kept.setCell ?_ (.inr GW434.out) _ | refine Kept.setCell ?_ (.inr GW435.out) _) | exact HK.out)).1) : w.heap.size ≤ gb439)); have n7_ := Aside0.mk ((by rw [hg]; exact (below_size (bl HB)) : w0.heap.size ≤ gb439)); have n8_ := Aside0.mk ((by rw [hg]; exact Nat.ne_of_lt (bkL BK434) : gb434 ≠ gb439)); have n9_ := Aside0.mk ((by rw [hg]; exact Nat.ne_of_gt (bkL BK434) : gb439 ≠ gb434)); have n10_ := Aside0.mk ((by rw [hg]; exact Nat.ne_of_lt (bkL BK435) : gb435 ≠ gb439)); have n11_ := Aside0.mk ((by rw [hg]; exact Nat.ne_of_gt (bkL BK435) : gb439 ≠ gb435)); clear HO0_0; clear BK434; clear BK435; clear HK; clear HB; have HO0_0 := n0_; have BK434 := n1_; have BK435 := n2_; have HK := n3_; have HB := n4_; have BK439 := n5_; have GW439 := n6_; have GE439 := n7_; have NB434_439 := n8_; have NB439_434 := n9_; have NB435_439 := n10_; have NB439_435 := n11_; clear n0_ n1_ n2_ n3_ n4_ n5_ n6_ n7_ n8_ n9_ n10_ n11_; clear hb hbox hg; have hnb56 := NB439_434.out; have hnc56 := NB434_439.out; have hnb57 := NB439_435.out; have hnc57 := NB435_439.out; have hcz58_0 : w55.cell? ⟨gb439, 0, none⟩ = some (.int .i64 0) := (blk_cell BK439.out 0).trans rfl; have hcz58_1 : w55.cell? ⟨gb439, 1, none⟩ = some (.int .i64 0) := (blk_cell BK439.out 1).trans rfl; have hfz58_0 := blk_frozen BK439.out 0; have hfz58_1 := blk_frozen BK439.out 1; have hnb59 := NB434_435.out; have hnc59 := NB435_434.out; have hcz60_0 : w55.cell? ⟨gb434, 0, none⟩ = some (.slice Ao51 l0_0.length co51) := (blk_cell BK434.out 0).trans rfl; have hfz60_0 := blk_frozen BK434.out 0; have hcz61_0 : w55.cell? ⟨gb435, 0, none⟩ = some (.slice none 0 0) := (blk_cell BK435.out 0).trans rfl; have hfz61_0 := blk_frozen BK435.out 0))
    refine bodyPost_ret (results_ct rfl _ _ gb435 25 #[.slice Ao51 l0_0.length co51] (0, 0) _ rfl (by (with_reducible repeat refine bu ?_); refine blk_put (cs := #[.slice none 0 0]) ?_ 0 _ rfl; (with_reducible repeat refine bu ?_); refine blk_far ?_ NB435_439.out _; (with_reducible repeat refine bu ?_); refine blk_far ?_ NB435_439.out _; (with_reducible repeat refine bu ?_); exact BK435.out) Tryz.underlying25 rfl (by kernel_rfl)) rfl ?_
    exact ⟨_, by first | rfl | (simp [errW_none, errW_some] <;> rfl) | (simp [*, errW_none, errW_some] <;> rfl), by (with_reducible repeat apply ru); exact Kd.R_mono (Kd.R_far (p := ⟨gb435, 0, none⟩) (Kd.R_far (p := ⟨gb439, 1, none⟩) (Kd.R_far (p := ⟨gb439, 0, none⟩) (Kd.R_types (Kd.R_mono HO0_0.out (fun k_ hk => (⟨hk, hk.2⟩ : _ ∧ k_ ≠ gb439))) BK435.out (by decide)) (fun _ hk => hk.1.2) (.int .i64 t436)) (fun _ hk => hk.1.2) (.int .i64 t437)) (fun _ hk => hk.2) (.slice Ao51 l0_0.length co51)) (fun _ hk => hk.1.1.1), by repeat (first | (with_reducible first | exact HB.out | apply below_alloc | apply pw_below_drewN | apply below_drew1 | refine below_set ?_ GE434.out | refine below_set ?_ GE435.out | refine below_set ?_ GE439.out) | exact HB.out), by repeat (first | (with_reducible first | exact HK.out | apply Kept.alloc | apply Kept.drewN | apply Kept.drew | refine Kept.setCell ?_ (.inr GW434.out) _ | refine Kept.setCell ?_ (.inr GW435.out) _ | refine Kept.setCell ?_ (.inr GW439.out) _) | exact HK.out)⟩

end Go.Proofs.YtffmbccgcaghjaaGreatDoor.P

-- written by hw.py for this claim
namespace Go.Proofs.YtffmbccgcaghjaaGreatDoor.P
open Go.RowKit Go.Proofs.YtffmbccgcaghjaaGreatDoorUFnExactRwrLine.PrintWords Go.Proofs.YtffmbccgcaghjaaGreatDoorUFnExactRwrLine.PrintLast Go.Proofs.YtffmbccgcaghjaaGreatDoorUFnExactRwrLine.PrintMore
attribute [local go_sem] max2_int min2_int max_two min_two max_three min_three max_four min_four
set_option linter.unusedVariables false
set_option linter.unusedSimpArgs false

/-! ### spec_l3Copy: function 47 -/
def spec_l3Copy.f (l0_0 : List (S34)) : Option ((List (S34))) := (some (([] : List (S34)) : List (S34))).bind fun y126 => (if y126.length + l0_0.length < 8796093022208 then (some (y126 ++ l0_0)) else (none))
set_option maxHeartbeats 8000000 in
set_option maxRecDepth 100000 in
theorem spec_l3Copy.calls (A0_0 : Option Addr) (c0_0 : Nat) (l0_0 : List (S34)) (r : List (S34)) (w : World) (hr0_0 : Kd.C k34 w A0_0 l0_0.length l0_0) (hc0_0 : l0_0.length ≤ c0_0) (h : spec_l3Copy.f l0_0 = some r) :
    Calls Tryz.prog 47 #[.agg #[.slice A0_0 l0_0.length c0_0]] w fun e w' => ∃ v0_ : Value, e = .returned (.agg #[v0_]) ∧ Kd.R k34 34 w' w.heap.size (fun _ => True) v0_ r ∧ Below w.heap.size w w' := by
  have hu25 := Tryz.underlying25
  have HR0_0 := Aside0.mk hr0_0
  have HC0_0 := Aside0.mk hc0_0
  clear hr0_0 hc0_0
  have HB := Aside0.mk (Below.refl w.heap.size w)
  have H : ((some (([] : List (S34)) : List (S34))).bind fun y126 => (if y126.length + l0_0.length < 8796093022208 then (some (y126 ++ l0_0)) else (none))) = some r := h
  clear h
  obtain ⟨y126, hy126⟩ : ∃ y_ : List (S34), y_ = (([] : List (S34))) := ⟨_, rfl⟩
  replace H : (if y126.length + l0_0.length < 8796093022208 then (some (y126 ++ l0_0)) else (none)) = some r := by first | (rw [hy126]; with_reducible exact H) | (have H2_ := (Option.bind_some _ _).symm.trans H; rw [hy126]; with_reducible exact H2_) | (have H2_ := (Option.bind_some _ _).symm.trans H; with_reducible exact H2_) | with_reducible exact H | (rw [hy126]; exact H) | exact H
  have Ny126 := Aside0.mk hy126
  clear hy126
  by_cases c2 : y126.length + l0_0.length < 8796093022208
  · rw [if_pos c2] at H
    have LMc2 := Aside0.mk c2
    clear c2
    obtain ⟨y129, hy129⟩ : ∃ y_ : List (S34), y_ = (y126 ++ l0_0) := ⟨_, rfl⟩
    replace H : (some y129) = some r := by first | (rw [hy129]; with_reducible exact H) | (have H2_ := (Option.bind_some _ _).symm.trans H; rw [hy129]; with_reducible exact H2_) | (have H2_ := (Option.bind_some _ _).symm.trans H; with_reducible exact H2_) | with_reducible exact H | (rw [hy129]; exact H) | exact H
    have Ny129 := Aside0.mk hy129
    clear hy129
    obtain rfl := Option.some.inj H
    go_enter Tryz.func47, Tryz.ntmps47
    go_wp2_with (first | ((with_reducible refine gate_dst (N := 1) rfl ?_); refine box_event ?hg (N := 1) ?hd (cs := #[.slice A0_0 l0_0.length c0_0]) (t := 25) ?hr ?_; (case hd => rfl); (case hg => rfl); (case hr => first | (go_simp; done) | (go_simp; rfl)); intro gb124 hg w3 hbox hb; have n0_ := Aside0.mk (below_step (bl HB) hb); have n1_ := Aside0.mk (hbox); have n2_ := Aside0.mk ((by rw [hg]; exact (below_size (bl HB)) : w.heap.size ≤ gb124)); have n3_ := Aside0.mk ((by rw [hg]; exact (below_size (bl HB)) : w.heap.size ≤ gb124)); clear HB; have HB := n0_; have BK124 := n1_; have GW124 := n2_; have GE124 := n3_; clear n0_ n1_ n2_ n3_; clear hb hbox hg) | ((with_reducible refine gate_dst (N := 2) rfl ?_); refine box_event ?hg (N := 2) ?hd (cs := #[.slice none 0 0]) (t := 25) ?hr ?_; (case hd => rfl); (case hg => rfl); (case hr => first | (go_simp; done) | (go_simp; rfl)); intro gb125 hg w4 hbox hb; have n0_ := bkB BK124 hb; have n1_ := Aside0.mk (below_step (bl HB) hb); have n2_ := Aside0.mk (hbox); have n3_ := Aside0.mk ((by rw [hg]; exact (below_size (bl HB)) : w.heap.size ≤ gb125)); have n4_ := Aside0.mk ((by rw [hg]; exact (below_size (bl HB)) : w.heap.size ≤ gb125)); have n5_ := Aside0.mk ((by rw [hg]; exact Nat.ne_of_lt (bkL BK124) : gb124 ≠ gb125)); have n6_ := Aside0.mk ((by rw [hg]; exact Nat.ne_of_gt (bkL BK124) : gb125 ≠ gb124)); clear BK124; clear HB; have BK124 := n0_; have HB := n1_; have BK125 := n2_; have GW125 := n3_; have GE125 := n4_; have NB124_125 := n5_; have NB125_124 := n6_; clear n0_ n1_ n2_ n3_ n4_ n5_ n6_; clear hb hbox hg) | ((with_reducible refine gate_dst (N := 3) rfl ?_); refine Kd.R_lit k34 _ 34 ?hg (N := 3) ?hd (xs := ([] : List (S34))) (inner := []) (ok := fun _ => True) (okp := fun _ => True) ?hr ?hp (fun _ hk => hk) trivial (Below.refl _ _) (Nat.le_refl _) (by simp) ?_; (case hd => rfl); (case hg => rfl); (case hr => first | (go_simp; done) | (go_simp; rfl)); (case hp => exact (Reps.none _ _)); intro v127 w5 ho6 hb hg_ hnew_; clear hg_ hnew_; (first | rw [← Ny126.out] at ho6 | (simp only [Int.reduceToNat] at ho6; rw [← Ny126.out] at ho6)); have n0_ := Aside0.mk (Kd.R_lower ho6 (below_size (bl HB))); have n1_ := bkB BK124 hb; have n2_ := bkB BK125 hb; have n3_ := Aside0.mk (below_step (bl HB) hb); clear BK124; clear BK125; clear HB; have HO128 := n0_; have BK124 := n1_; have BK125 := n2_; have HB := n3_; clear n0_ n1_ n2_ n3_; clear hb ho6; have hnb7 := NB124_125.out; have hnc7 := NB125_124.out; have hcz8_0 : w5.cell? ⟨gb124, 0, none⟩ = some (.slice A0_0 l0_0.length c0_0) := (blk_cell BK124.out 0).trans rfl; have hfz8_0 := blk_frozen BK124.out 0) | ((with_reducible refine gate_builtin (b := .append) (xs := #[.tmp 3, .tmp 5]) rfl ?_); at_builtin; refine Kd.R_append_rows k34 (w0 := w) w.heap.size rfl (.tmp 3) (.tmp 5) 23 34 (.agg #[(.int .i64 0), (.int .i64 0)]) 16 rfl Tryz.underlying23 info34 rfl (by decide) (by omega) v127 y126 l0_0 _ _ _ (fun _ => True) (fun _ => False) rfl rfl ?aO ?aR (fun _ _ h => h) (fun _ h => h.elim) ?aF ?aB ?aS ?aL ?_; (case aR => repeat (first | exact (Kd.C_below HR0_0.out HB.out) | (with_reducible refine Kd.C_alloc ?_ _) | (with_reducible refine Kd.C_drewN ?_ _) | (with_reducible refine Kd.C_drew ?_))); (case aB => exact (bl HB)); (case aF => exact (fun _ _ => trivial)); (case aO => exact (rs HO128)); (case aS => exact (below_size (bl HB))); (case aL => have := LMc2.out; omega); intro v130 w9 ho hb hg hat; rw [← Ny129.out] at ho; have n0_ := Aside0.mk (blk_grown (g := gb124) (o := .cells #[.slice A0_0 l0_0.length c0_0] 25 (0, 0)) (bk BK124) hg (Kd.R_ne HO128.out BK124.out (by decide))); have n1_ := Aside0.mk (blk_grown (g := gb125) (o := .cells #[.slice none 0 0] 25 (0, 0)) (bk BK125) hg (Kd.R_ne HO128.out BK125.out (by decide))); have n2_ := Aside0.mk (hb); have n3_ := Aside0.mk (ho); clear BK124; clear BK125; clear HB; clear HO128; have BK124 := n0_; have BK125 := n1_; have HB := n2_; have HO131 := n3_; clear n0_ n1_ n2_ n3_; clear ho hb hg hat; obtain ⟨Ao10, co10, eo10⟩ := Kd.R_slice HO131.out; subst eo10; have hcz11_0 : w9.cell? ⟨gb125, 0, none⟩ = some (.slice none 0 0) := (blk_cell BK125.out 0).trans rfl; have hfz11_0 := blk_frozen BK125.out 0))
    refine bodyPost_ret (results_cell_row rfl _ _ gb125 25 #[.slice Ao10 y129.length co10] (0, 0) _ rfl (by (with_reducible repeat refine bu ?_); refine blk_put (cs := #[.slice none 0 0]) ?_ 0 _ rfl; (with_reducible repeat refine bu ?_); exact BK125.out) Tryz.underlying25 rfl (by kernel_rfl)) rfl ?_
    exact ⟨_, by first | rfl | (simp [errW_none, errW_some] <;> rfl) | (simp [*, errW_none, errW_some] <;> rfl), by (with_reducible repeat apply ru); exact Kd.R_mono (Kd.R_far (p := ⟨gb125, 0, none⟩) (Kd.R_types HO131.out BK125.out (by decide)) (fun _ hk => hk.2) (.slice Ao10 y129.length co10)) (fun _ hk => trivial), by repeat (first | (with_reducible first | exact HB.out | apply below_alloc | apply pw_below_drewN | apply below_drew1 | refine below_set ?_ GE124.out | refine below_set ?_ GE125.out) | exact HB.out)⟩
  · rw [if_neg c2] at H
    exact absurd H (by simp)

end Go.Proofs.YtffmbccgcaghjaaGreatDoor.P

-- written by hw.py for this claim
namespace Go.Proofs.YtffmbccgcaghjaaGreatDoor.P
open Go.RowKit Go.Proofs.YtffmbccgcaghjaaGreatDoorUFnExactRwrLine.PrintWords Go.Proofs.YtffmbccgcaghjaaGreatDoorUFnExactRwrLine.PrintLast Go.Proofs.YtffmbccgcaghjaaGreatDoorUFnExactRwrLine.PrintMore
attribute [local go_sem] max2_int min2_int max_two min_two max_three min_three max_four min_four
set_option linter.unusedVariables false
set_option linter.unusedSimpArgs false

/-! ### spec_RwrLine: function 14 -/
def spec_RwrLine.j0 : Nat → ByteArray → Bool → List (S34) → Option ((List (S34)) × ByteArray)
  | 0, _, _, _ => none
  | k + 1, x1, x13, x447000 => if x13 = true then (some (([] : List (S34)), (⟨#[]⟩ : ByteArray))) else ((spec_l3Copy.f x447000).bind fun t450 => ((spec_l3Line.f k t450 x1).bind fun bt453 => (some (bt453.1, bt453.2))))
def spec_RwrLine.f (k : Nat) (l0_0 : List (S34)) (a1 : ByteArray) : Option ((List (S34)) × ByteArray) := (spec_MapOk.f k l0_0).bind fun t448 => (if t448 = true then ((spec_LinOk.f k a1).bind fun t449 => (spec_RwrLine.j0 k a1 (!t449) l0_0)) else (spec_RwrLine.j0 k a1 true l0_0))
theorem spec_RwrLine.mono_l : ∀ k, (∀ y0 y1 y2, LeO (spec_RwrLine.j0 k y0 y1 y2) (spec_RwrLine.j0 (k + 1) y0 y1 y2))
  | 0 => fun _ _ _ r h => by simp [spec_RwrLine.j0] at h
  | k + 1 => by
    have ih0 := spec_RwrLine.mono_l k
    · intro y0 y1 y2
      unfold spec_RwrLine.j0
      repeat' first
      | (with_reducible exact ih0 _ _ _)
      | (with_reducible exact spec_LinOk.mono _ _)
      | (with_reducible exact spec_MapOk.mono _ _)
      | (with_reducible exact spec_l3Line.mono _ _ _)
      | (with_reducible exact LeO.refl _)
      | (with_reducible exact LeO.none _)
      | (with_reducible refine LeO.ite ?_ ?_)
      | (with_reducible refine LeO.bind ?_ (fun _ => ?_))
      | exact ih0 _ _ _
      | exact spec_LinOk.mono _ _
      | exact spec_MapOk.mono _ _
      | exact spec_l3Line.mono _ _ _
      | exact LeO.none _
      | refine LeO.ite ?_ ?_
      | refine LeO.bind ?_ (fun _ => ?_)
theorem spec_RwrLine.mono : ∀ a0 a1 k, LeO (spec_RwrLine.f k a0 a1) (spec_RwrLine.f (k + 1) a0 a1) := by
  intro a0 a1 k
  have ih0 := spec_RwrLine.mono_l k
  unfold spec_RwrLine.f
  repeat' first
      | (with_reducible exact ih0 _ _ _)
      | (with_reducible exact spec_LinOk.mono _ _)
      | (with_reducible exact spec_MapOk.mono _ _)
      | (with_reducible exact spec_l3Line.mono _ _ _)
      | (with_reducible exact LeO.refl _)
      | (with_reducible exact LeO.none _)
      | (with_reducible refine LeO.ite ?_ ?_)
      | (with_reducible refine LeO.bind ?_ (fun _ => ?_))
      | exact ih0 _ _ _
      | exact spec_LinOk.mono _ _
      | exact spec_MapOk.mono _ _
      | exact spec_l3Line.mono _ _ _
      | exact LeO.none _
      | refine LeO.ite ?_ ?_
      | refine LeO.bind ?_ (fun _ => ?_)
set_option maxHeartbeats 8000000 in
set_option maxRecDepth 100000 in
theorem spec_RwrLine.calls (k : Nat) (A0_0 : Option Addr) (c0_0 : Nat) (l0_0 : List (S34)) (a1 : ByteArray) (r1 : List (S34)) (r2 : ByteArray) (w : World) (hr0_0 : Kd.C k34 w A0_0 l0_0.length l0_0) (hc0_0 : l0_0.length ≤ c0_0) (h : spec_RwrLine.f k l0_0 a1 = some (r1, r2)) :
    Calls Tryz.prog 14 #[.agg #[.slice A0_0 l0_0.length c0_0], .string a1] w fun e w' => ∃ v0_ : Value, e = .returned (.tuple #[.agg #[v0_], .string r2]) ∧ Kd.R k34 34 w' w.heap.size (fun _ => True) v0_ r1 ∧ Below w.heap.size w w' := by
  have hu25 := Tryz.underlying25
  have HR0_0 := Aside0.mk hr0_0
  have HC0_0 := Aside0.mk hc0_0
  clear hr0_0 hc0_0
  have HB := Aside0.mk (Below.refl w.heap.size w)
  have H : ((spec_MapOk.f k l0_0).bind fun t448 => (if t448 = true then ((spec_LinOk.f k a1).bind fun t449 => (spec_RwrLine.j0 k a1 (!t449) l0_0)) else (spec_RwrLine.j0 k a1 true l0_0))) = some (r1, r2) := h
  clear h
  have HC3 := Aside0.mk H
  clear H
  go_enter Tryz.func14, Tryz.ntmps14
  go_upto_region 1 with (first | ((with_reducible refine gate_dst (N := 2) rfl ?_); refine box_event ?hg (N := 2) ?hd (cs := #[.slice A0_0 l0_0.length c0_0]) (t := 25) ?hr ?_; (case hd => rfl); (case hg => rfl); (case hr => first | (go_simp; done) | (go_simp; rfl)); intro gb446 hg w4 hbox hb; have n0_ := Aside0.mk (below_step (bl HB) hb); have n1_ := Aside0.mk (hbox); have n2_ := Aside0.mk ((by rw [hg]; exact (below_size (bl HB)) : w.heap.size ≤ gb446)); have n3_ := Aside0.mk ((by rw [hg]; exact (below_size (bl HB)) : w.heap.size ≤ gb446)); clear HB; have HB := n0_; have BK446 := n1_; have GW446 := n2_; have GE446 := n3_; clear n0_ n1_ n2_ n3_; clear hb hbox hg) | ((with_reducible refine gate_dst (N := 4) rfl ?_); refine box_event ?hg (N := 4) ?hd (cs := #[.slice none 0 0]) (t := 25) ?hr ?_; (case hd => rfl); (case hg => rfl); (case hr => first | (go_simp; done) | (go_simp; rfl)); intro gb447 hg w5 hbox hb; have n0_ := bkB BK446 hb; have n1_ := Aside0.mk (below_step (bl HB) hb); have n2_ := Aside0.mk (hbox); have n3_ := Aside0.mk ((by rw [hg]; exact (below_size (bl HB)) : w.heap.size ≤ gb447)); have n4_ := Aside0.mk ((by rw [hg]; exact (below_size (bl HB)) : w.heap.size ≤ gb447)); have n5_ := Aside0.mk ((by rw [hg]; exact Nat.ne_of_lt (bkL BK446) : gb446 ≠ gb447)); have n6_ := Aside0.mk ((by rw [hg]; exact Nat.ne_of_gt (bkL BK446) : gb447 ≠ gb446)); clear BK446; clear HB; have BK446 := n0_; have HB := n1_; have BK447 := n2_; have GW447 := n3_; have GE447 := n4_; have NB446_447 := n5_; have NB447_446 := n6_; clear n0_ n1_ n2_ n3_ n4_ n5_ n6_; clear hb hbox hg))
  (try simp only [Act.put, List.setIfInBounds_toArray, List.set_cons_zero, List.set_cons_succ])
  go_cut [13] (fun v13 wc => ∃ (kq : Nat) (x13_2 : Bool), v13 = .bool x13_2 ∧ Aside0 (spec_RwrLine.j0 kq a1 x13_2 l0_0 = some (r1, r2)) ∧ Aside0 (kq ≤ k) ∧ Aside0 (wc.heap[gb446]? = some (.cells #[(.slice A0_0 l0_0.length c0_0)] 25 (0, 0))) ∧ Aside0 (wc.heap[gb447]? = some (.cells #[(.slice none 0 0)] 25 (0, 0))) ∧ Aside0 (Below w.heap.size w wc))
  case first =>
    have H := HC3.out
    clear HC3
    replace H := Option.bind_eq_some_iff.mp H
    obtain ⟨t448, A60, H⟩ := H
    replace H : (if t448 = true then ((spec_LinOk.f k a1).bind fun t449 => (spec_RwrLine.j0 k a1 (!t449) l0_0)) else (spec_RwrLine.j0 k a1 true l0_0)) = some (r1, r2) := H
    have A6 := Aside0.mk A60
    clear A60
    by_cases c7 : t448 = true
    · subst c7
      have H1 : ((spec_LinOk.f k a1).bind fun t449 => (spec_RwrLine.j0 k a1 (!t449) l0_0)) = some (r1, r2) := by rw [if_pos rfl] at H; exact H
      clear H
      have H := H1
      clear H1
      replace H := Option.bind_eq_some_iff.mp H
      obtain ⟨t449, A80, H⟩ := H
      replace H : (spec_RwrLine.j0 k a1 (!t449) l0_0) = some (r1, r2) := H
      have A8 := Aside0.mk A80
      clear A80
      have H' := Aside0.mk H
      clear H
      have hnb9 := NB446_447.out
      have hnc9 := NB447_446.out
      have hcz10_0 : w5.cell? ⟨gb446, 0, none⟩ = some (.slice A0_0 l0_0.length c0_0) := (blk_cell BK446.out 0).trans rfl
      have hfz10_0 := blk_frozen BK446.out 0
      go_wp2_with (first | ((with_reducible refine gate_callee (f := 16) rfl ?_); refine goesL_ (some 7) rfl rfl Tryz.func16 (by kernel_rfl) rfl #[.agg #[.slice A0_0 l0_0.length c0_0]] rfl (by (try simp only [List.map_toArray, List.map_cons, List.map_nil]); first | done | rfl | (simp only [List.length_drop, List.length_take]; rfl)) ?_; (with_reducible refine (spec_MapOk.calls k _ _ l0_0 true _ ?side1 ?side2 A6.out).mono ?_); (case side1 => repeat (first | exact (Kd.C_below HR0_0.out HB.out) | (with_reducible refine Kd.C_alloc ?_ _) | (with_reducible refine Kd.C_drewN ?_ _) | (with_reducible refine Kd.C_drew ?_))); (case side2 => exact HC0_0.out); rintro e w11 ⟨rfl, hb⟩; refine ⟨_, rfl, ?_⟩; have n0_ := bkB BK446 hb; have n1_ := bkB BK447 hb; have n2_ := Aside0.mk (below_step (bl HB) hb); clear BK446; clear BK447; clear HB; have BK446 := n0_; have BK447 := n1_; have HB := n2_; clear n0_ n1_ n2_; (try clear hb); (try clear hb2); (try clear hk); (try clear hi)) | (go_at_call 17; (with_reducible refine (spec_LinOk.calls k a1 t449 _ A8.out).mono ?_); rintro e w' ⟨rfl, ⟨nd, rfl⟩⟩))
      go_meet
      case rel => exact ⟨_, (!t449), (by first | rfl | (simp; done) | (simp [*]; done)), H', ⟨by first | omega | exact Nat.le_refl _⟩, ⟨by (with_reducible repeat refine bu ?_); exact BK446.out⟩, ⟨by (with_reducible repeat refine bu ?_); exact BK447.out⟩, ⟨by repeat (first | (with_reducible first | exact HB.out | apply below_alloc | apply pw_below_drewN | apply below_drew1 | refine below_set ?_ GE446.out | refine below_set ?_ GE447.out) | exact HB.out)⟩⟩
    · replace c7 := Bool.eq_false_iff.mpr c7
      subst c7
      have H1 : (spec_RwrLine.j0 k a1 true l0_0) = some (r1, r2) := by rw [if_neg (show ¬ (false = true) by decide)] at H; exact H
      clear H
      have H := H1
      clear H1
      have H' := Aside0.mk H
      clear H
      have hnb12 := NB446_447.out
      have hnc12 := NB447_446.out
      have hcz13_0 : w5.cell? ⟨gb446, 0, none⟩ = some (.slice A0_0 l0_0.length c0_0) := (blk_cell BK446.out 0).trans rfl
      have hfz13_0 := blk_frozen BK446.out 0
      go_wp2_with (first | ((with_reducible refine gate_callee (f := 16) rfl ?_); refine goesL_ (some 7) rfl rfl Tryz.func16 (by kernel_rfl) rfl #[.agg #[.slice A0_0 l0_0.length c0_0]] rfl (by (try simp only [List.map_toArray, List.map_cons, List.map_nil]); first | done | rfl | (simp only [List.length_drop, List.length_take]; rfl)) ?_; (with_reducible refine (spec_MapOk.calls k _ _ l0_0 false _ ?side1 ?side2 A6.out).mono ?_); (case side1 => repeat (first | exact (Kd.C_below HR0_0.out HB.out) | (with_reducible refine Kd.C_alloc ?_ _) | (with_reducible refine Kd.C_drewN ?_ _) | (with_reducible refine Kd.C_drew ?_))); (case side2 => exact HC0_0.out); rintro e w14 ⟨rfl, hb⟩; refine ⟨_, rfl, ?_⟩; have n0_ := bkB BK446 hb; have n1_ := bkB BK447 hb; have n2_ := Aside0.mk (below_step (bl HB) hb); clear BK446; clear BK447; clear HB; have BK446 := n0_; have BK447 := n1_; have HB := n2_; clear n0_ n1_ n2_; (try clear hb); (try clear hb2); (try clear hk); (try clear hi)))
      go_meet
      case rel => exact ⟨_, (true), (by first | rfl | (simp; done) | (simp [*]; done)), H', ⟨by first | omega | exact Nat.le_refl _⟩, ⟨by (with_reducible repeat refine bu ?_); exact BK446.out⟩, ⟨by (with_reducible repeat refine bu ?_); exact BK447.out⟩, ⟨by repeat (first | (with_reducible first | exact HB.out | apply below_alloc | apply pw_below_drewN | apply below_drew1 | refine below_set ?_ GE446.out | refine below_set ?_ GE447.out) | exact HB.out)⟩⟩
  case rest =>
    clear HC3
    try clear c1
    try clear p2
    try clear c7
    try clear c9
    try clear c12
    try clear c14
    try clear hcz10_0
    try clear hcz13_0
    try clear hfz10_0
    try clear hfz13_0
    obtain ⟨kq, x13_2, rfl, HA, HJ2, BK446, BK447, HB⟩ := hcut
    cases kq with
    | zero => exact absurd HA.out (by simp [spec_RwrLine.j0])
    | succ kj2 =>
      have H := HA.out
      clear HA
      simp only [spec_RwrLine.j0] at H
      by_cases c15 : x13_2 = true
      · subst c15
        have H1 : (some (([] : List (S34)), (⟨#[]⟩ : ByteArray))) = some (r1, r2) := by rw [if_pos rfl] at H; exact H
        clear H
        have H := H1
        clear H1
        simp only [Option.some.injEq, Prod.mk.injEq] at H
        obtain ⟨rfl, rfl⟩ := H
        have hnb16 := NB447_446.out
        have hnc16 := NB446_447.out
        have hcz17_0 : wc.cell? ⟨gb447, 0, none⟩ = some (.slice none 0 0) := (blk_cell BK447.out 0).trans rfl
        have hfz17_0 := blk_frozen BK447.out 0
        go_wp2
        refine bodyPost_ret (results_ct rfl _ _ gb447 25 #[.slice none 0 0] (0, 0) _ rfl (by (with_reducible repeat refine bu ?_); refine blk_put (cs := #[.slice none 0 0]) ?_ 0 _ rfl; (with_reducible repeat refine bu ?_); exact BK447.out) Tryz.underlying25 rfl (by kernel_rfl)) rfl ?_
        exact ⟨_, by first | rfl | (simp [errW_none, errW_some] <;> rfl) | (simp [*, errW_none, errW_some] <;> rfl), by first | exact Kd.R_nil _ _ _ _ _ | exact Kd.N_nil _ _ _ _ _ | exact Kd.V_nil _ _ _ _ _ | exact Kd.Q_nil _ _ _ _ _ | exact Kd.S_nil _ _ _ _ _, by repeat (first | (with_reducible first | exact HB.out | apply below_alloc | apply pw_below_drewN | apply below_drew1 | refine below_set ?_ GE446.out | refine below_set ?_ GE447.out) | exact HB.out)⟩
      · replace c15 := Bool.eq_false_iff.mpr c15
        subst c15
        have H1 : ((spec_l3Copy.f l0_0).bind fun t450 => ((spec_l3Line.f kj2 t450 a1).bind fun bt453 => (some (bt453.1, bt453.2)))) = some (r1, r2) := by rw [if_neg (show ¬ (false = true) by decide)] at H; exact H
        clear H
        have H := H1
        clear H1
        replace H := Option.bind_eq_some_iff.mp H
        obtain ⟨t450, A180, H⟩ := H
        replace H : ((spec_l3Line.f kj2 t450 a1).bind fun bt453 => (some (bt453.1, bt453.2))) = some (r1, r2) := H
        have A18 := Aside0.mk A180
        clear A180
        replace H := Option.bind_eq_some_iff.mp H
        obtain ⟨⟨t453, t456⟩, A190, H⟩ := H
        replace H : (some (t453, t456)) = some (r1, r2) := H
        have A19 := Aside0.mk A190
        clear A190
        simp only [Option.some.injEq, Prod.mk.injEq] at H
        obtain ⟨rfl, rfl⟩ := H
        have hnb20 := NB446_447.out
        have hnc20 := NB447_446.out
        have hcz21_0 : wc.cell? ⟨gb446, 0, none⟩ = some (.slice A0_0 l0_0.length c0_0) := (blk_cell BK446.out 0).trans rfl
        have hfz21_0 := blk_frozen BK446.out 0
        go_wp2_with (first | ((with_reducible refine gate_callee (f := 47) rfl ?_); refine goesL_ (some 16) rfl rfl Tryz.func47 (by kernel_rfl) rfl #[.agg #[.slice A0_0 l0_0.length c0_0]] rfl (by (try simp only [List.map_toArray, List.map_cons, List.map_nil]); first | done | rfl | (simp only [List.length_drop, List.length_take]; rfl)) ?_; (with_reducible refine (spec_l3Copy.calls _ _ l0_0 t450 _ ?side1 ?side2 A18.out).mono ?_); (case side1 => repeat (first | exact (Kd.C_below HR0_0.out HB.out) | (with_reducible refine Kd.C_alloc ?_ _) | (with_reducible refine Kd.C_drewN ?_ _) | (with_reducible refine Kd.C_drew ?_))); (case side2 => exact HC0_0.out); rintro e w22 ⟨v451, rfl, ho0, hb⟩; refine ⟨_, rfl, ?_⟩; have n0_ := Aside0.mk (Kd.R_lower ho0 (below_size (bl HB))); have n1_ := bkB BK446 hb; have n2_ := bkB BK447 hb; have n3_ := Aside0.mk (below_step (bl HB) hb); clear BK446; clear BK447; clear HB; have HO452 := n0_; have BK446 := n1_; have BK447 := n2_; have HB := n3_; clear n0_ n1_ n2_ n3_; (try clear hb); (try clear hb2); (try clear hk); (try clear hi); (try clear ho0); obtain ⟨Ao23, co23, eo23⟩ := Kd.R_slice HO452.out; subst eo23) | ((with_reducible refine gate_callee (f := 46) rfl ?_); refine goesL_ (some 18) rfl rfl Tryz.func46 (by kernel_rfl) rfl #[.agg #[.slice Ao23 t450.length co23], .string a1] rfl (by (try simp only [List.map_toArray, List.map_cons, List.map_nil]); first | done | rfl | (simp only [List.length_drop, List.length_take]; rfl)) ?_; (with_reducible refine (spec_l3Line.calls kj2 (fun k_ => some k_ = (.slice Ao23 t450.length co23 : Value).ownBlock) (.slice Ao23 t450.length co23) t450 a1 t453 t456 w _ ?side1 ?side2 A19.out).mono ?_); (case side1 => repeat (first | (with_reducible first | exact HB.out | apply below_alloc | apply pw_below_drewN | apply below_drew1 | refine below_set ?_ GE446.out | refine below_set ?_ GE447.out) | exact HB.out)); (case side2 => exact Kd.R_tight rfl HO452.out); rintro e w24 ⟨v454, rfl, ho0, hb, hkp⟩; refine ⟨_, rfl, ?_⟩; have n0_ := Aside0.mk (blk_kept (bk BK446) hkp (fun hs_ => (fun e_ => (Kd.R_ne HO452.out BK446.out (by decide)) e_) hs_)); have n1_ := Aside0.mk (blk_kept (bk BK447) hkp (fun hs_ => (fun e_ => (Kd.R_ne HO452.out BK447.out (by decide)) e_) hs_)); have n2_ := Aside0.mk (Kd.R_mono (ok' := fun k_ => True) ho0 (fun k_ hk_ => trivial)); have n3_ := Aside0.mk (hb); clear BK446; clear BK447; clear HB; clear HO452; have BK446 := n0_; have BK447 := n1_; have HO455 := n2_; have HB := n3_; clear n0_ n1_ n2_ n3_; (try clear hb); (try clear hkp); (try clear ho0); obtain ⟨Ao25, co25, eo25⟩ := Kd.R_slice HO455.out; subst eo25; have hcz26_0 : w24.cell? ⟨gb447, 0, none⟩ = some (.slice none 0 0) := (blk_cell BK447.out 0).trans rfl; have hfz26_0 := blk_frozen BK447.out 0))
        refine bodyPost_ret (results_ct rfl _ _ gb447 25 #[.slice Ao25 t453.length co25] (0, 0) _ rfl (by (with_reducible repeat refine bu ?_); refine blk_put (cs := #[.slice none 0 0]) ?_ 0 _ rfl; (with_reducible repeat refine bu ?_); exact BK447.out) Tryz.underlying25 rfl (by kernel_rfl)) rfl ?_
        exact ⟨_, by first | rfl | (simp [errW_none, errW_some] <;> rfl) | (simp [*, errW_none, errW_some] <;> rfl), by (with_reducible repeat apply ru); exact Kd.R_mono (Kd.R_far (p := ⟨gb447, 0, none⟩) (Kd.R_types HO455.out BK447.out (by decide)) (fun _ hk => hk.2) (.slice Ao25 t453.length co25)) (fun _ hk => trivial), by repeat (first | (with_reducible first | exact HB.out | apply below_alloc | apply pw_below_drewN | apply below_drew1 | refine below_set ?_ GE446.out | refine below_set ?_ GE447.out) | exact HB.out)⟩

end Go.Proofs.YtffmbccgcaghjaaGreatDoor.P

-- written by hw.py for this claim
namespace Go.Proofs.YtffmbccgcaghjaaGreatDoor.P
open Go.RowKit Go.Proofs.YtffmbccgcaghjaaGreatDoorUFnExactRwrLine.PrintWords Go.Proofs.YtffmbccgcaghjaaGreatDoorUFnExactRwrLine.PrintLast Go.Proofs.YtffmbccgcaghjaaGreatDoorUFnExactRwrLine.PrintMore
attribute [local go_sem] max2_int min2_int max_two min_two max_three min_three max_four min_four
set_option linter.unusedVariables false
set_option linter.unusedSimpArgs false

/-! ### impl_LinSays: function 19 -/
def impl_LinSays.f (a0 : ByteArray) : Option (Int × Int × Bool) := (impl_said.f a0).bind fun bt352 => (if bt352.2.2 = true then ((impl_EndInside.f bt352.1 bt352.2.1).bind fun t356 => (if t356 = true then (some (bt352.1, bt352.2.1, true)) else (some (0, 0, false)))) else (some (0, 0, false)))
set_option maxHeartbeats 8000000 in
set_option maxRecDepth 100000 in
theorem impl_LinSays.calls (a0 : ByteArray) (r1 : Int) (r2 : Int) (r3 : Bool) (w : World) (h : impl_LinSays.f a0 = some (r1, r2, r3)) (hE : EnvE w) :
    Calls Tryz.prog 19 #[.string a0] w fun e w' => e = .returned (.tuple #[.agg #[.int .i64 r1, .int .i64 r2], .bool r3]) ∧ Below w.heap.size w w' := by
  have hu34 := Tryz.underlying34
  have HB := Aside0.mk (Below.refl w.heap.size w)
  have H : ((impl_said.f a0).bind fun bt352 => (if bt352.2.2 = true then ((impl_EndInside.f bt352.1 bt352.2.1).bind fun t356 => (if t356 = true then (some (bt352.1, bt352.2.1, true)) else (some (0, 0, false)))) else (some (0, 0, false)))) = some (r1, r2, r3) := h
  clear h
  replace H := Option.bind_eq_some_iff.mp H
  obtain ⟨⟨t352, t353, t354⟩, A20, H⟩ := H
  replace H : (if t354 = true then ((impl_EndInside.f t352 t353).bind fun t356 => (if t356 = true then (some (t352, t353, true)) else (some (0, 0, false)))) else (some (0, 0, false))) = some (r1, r2, r3) := H
  have A2 := Aside0.mk A20
  clear A20
  by_cases c3 : t354 = true
  · subst c3
    have H1 : ((impl_EndInside.f t352 t353).bind fun t356 => (if t356 = true then (some (t352, t353, true)) else (some (0, 0, false)))) = some (r1, r2, r3) := by rw [if_pos rfl] at H; exact H
    clear H
    have H := H1
    clear H1
    replace H := Option.bind_eq_some_iff.mp H
    obtain ⟨t356, A40, H⟩ := H
    replace H : (if t356 = true then (some (t352, t353, true)) else (some (0, 0, false))) = some (r1, r2, r3) := H
    have A4 := Aside0.mk A40
    clear A40
    by_cases c5 : t356 = true
    · subst c5
      have H1 : (some (t352, t353, true)) = some (r1, r2, r3) := by rw [if_pos rfl] at H; exact H
      clear H
      have H := H1
      clear H1
      simp only [Option.some.injEq, Prod.mk.injEq] at H
      obtain ⟨rfl, rfl, rfl⟩ := H
      go_enter Tryz.func19, Tryz.ntmps19
      go_wp2_with (first | ((with_reducible refine gate_dst (N := 2) rfl ?_); refine box_event ?hg (N := 2) ?hd (cs := #[.int .i64 0, .int .i64 0]) (t := 34) ?hr ?_; (case hd => rfl); (case hg => rfl); (case hr => first | (go_simp; done) | (go_simp; rfl)); intro gb351 hg w6 hbox hb; have n0_ := Aside0.mk (below_step (bl HB) hb); have n1_ := Aside0.mk (hbox); have n2_ := Aside0.mk ((by rw [hg]; exact (below_size (bl HB)) : w.heap.size ≤ gb351)); have n3_ := Aside0.mk ((by rw [hg]; exact (below_size (bl HB)) : w.heap.size ≤ gb351)); clear HB; have HB := n0_; have BK351 := n1_; have GW351 := n2_; have GE351 := n3_; clear n0_ n1_ n2_ n3_; clear hb hbox hg) | ((with_reducible refine gate_callee (f := 51) rfl ?_); refine goesL_ (some 8) rfl rfl Tryz.func51 (by kernel_rfl) rfl #[.string a0] rfl (by (try simp only [List.map_toArray, List.map_cons, List.map_nil]); first | done | rfl | (simp only [List.length_drop, List.length_take]; rfl)) ?_; (with_reducible refine (impl_said.calls a0 t352 t353 true _ A2.out (EnvE.below hE (bl HB))).mono ?_); rintro e w7 ⟨rfl, hb⟩; refine ⟨_, rfl, ?_⟩; have n0_ := bkB BK351 hb; have n1_ := Aside0.mk (below_step (bl HB) hb); clear BK351; clear HB; have BK351 := n0_; have HB := n1_; clear n0_ n1_; (try clear hb); (try clear hb2); (try clear hk); (try clear hi)) | ((with_reducible refine gate_dst (N := 4) rfl ?_); refine box_event ?hg (N := 4) ?hd (cs := #[.int .i64 0, .int .i64 0]) (t := 34) ?hr ?_; (case hd => rfl); (case hg => rfl); (case hr => first | (go_simp; done) | (go_simp; rfl)); intro gb355 hg w8 hbox hb; have n0_ := bkB BK351 hb; have n1_ := Aside0.mk (below_step (bl HB) hb); have n2_ := Aside0.mk (hbox); have n3_ := Aside0.mk ((by rw [hg]; exact (below_size (bl HB)) : w.heap.size ≤ gb355)); have n4_ := Aside0.mk ((by rw [hg]; exact (below_size (bl HB)) : w.heap.size ≤ gb355)); have n5_ := Aside0.mk ((by rw [hg]; exact Nat.ne_of_lt (bkL BK351) : gb351 ≠ gb355)); have n6_ := Aside0.mk ((by rw [hg]; exact Nat.ne_of_gt (bkL BK351) : gb355 ≠ gb351)); clear BK351; clear HB; have BK351 := n0_; have HB := n1_; have BK355 := n2_; have GW355 := n3_; have GE355 := n4_; have NB351_355 := n5_; have NB355_351 := n6_; clear n0_ n1_ n2_ n3_ n4_ n5_ n6_; clear hb hbox hg; have hnb9 := NB355_351.out; have hnc9 := NB351_355.out; have hcz10_0 : w8.cell? ⟨gb355, 0, none⟩ = some (.int .i64 0) := (blk_cell BK355.out 0).trans rfl; have hcz10_1 : w8.cell? ⟨gb355, 1, none⟩ = some (.int .i64 0) := (blk_cell BK355.out 1).trans rfl; have hfz10_0 := blk_frozen BK355.out 0; have hfz10_1 := blk_frozen BK355.out 1) | (go_at_call 52; (with_reducible refine (impl_EndInside.calls t352 t353 true _ A4.out).mono ?_); rintro e w11 ⟨rfl, hb⟩; have n0_ := Aside0.mk (blk_below (g := gb351) (o := .cells #[.int .i64 0, .int .i64 0] 34 (0, 0)) (by (with_reducible repeat refine bu ?_); refine blk_far ?_ NB351_355.out _; (with_reducible repeat refine bu ?_); refine blk_far ?_ NB351_355.out _; (with_reducible repeat refine bu ?_); exact BK351.out) hb); have n1_ := Aside0.mk (blk_below (g := gb355) (o := .cells #[.int .i64 t352, .int .i64 t353] 34 (0, 0)) (by (with_reducible repeat refine bu ?_); refine blk_put (cs := #[.int .i64 t352, .int .i64 0]) ?_ 1 _ rfl; (with_reducible repeat refine bu ?_); refine blk_put (cs := #[.int .i64 0, .int .i64 0]) ?_ 0 _ rfl; (with_reducible repeat refine bu ?_); exact BK355.out) hb); have n2_ := Aside0.mk (below_step (bl HB) hb); clear BK351; clear BK355; clear HB; have BK351 := n0_; have BK355 := n1_; have HB := n2_; clear n0_ n1_ n2_; (try clear hb); (try clear hb2); (try clear hk); (try clear hi); have hcz12_0 : w11.cell? ⟨gb355, 0, none⟩ = some (.int .i64 t352) := (blk_cell BK355.out 0).trans rfl; have hcz12_1 : w11.cell? ⟨gb355, 1, none⟩ = some (.int .i64 t353) := (blk_cell BK355.out 1).trans rfl; have hfz12_0 := blk_frozen BK355.out 0; have hfz12_1 := blk_frozen BK355.out 1; have hcz13_0 : w11.cell? ⟨gb351, 0, none⟩ = some (.int .i64 0) := (blk_cell BK351.out 0).trans rfl; have hcz13_1 : w11.cell? ⟨gb351, 1, none⟩ = some (.int .i64 0) := (blk_cell BK351.out 1).trans rfl; have hfz13_0 := blk_frozen BK351.out 0; have hfz13_1 := blk_frozen BK351.out 1))
      refine bodyPost_ret (results_ct rfl _ _ gb351 34 #[.int .i64 t352, .int .i64 t353] (0, 0) _ rfl (by (with_reducible repeat refine bu ?_); refine blk_put (cs := #[.int .i64 t352, .int .i64 0]) ?_ 1 _ rfl; (with_reducible repeat refine bu ?_); refine blk_put (cs := #[.int .i64 0, .int .i64 0]) ?_ 0 _ rfl; (with_reducible repeat refine bu ?_); exact BK351.out) Tryz.underlying34 rfl (by kernel_rfl)) rfl ?_
      exact ⟨by first | rfl | (simp [errW_none, errW_some] <;> rfl) | (simp [*, errW_none, errW_some] <;> rfl), by repeat (first | (with_reducible first | exact HB.out | apply below_alloc | apply pw_below_drewN | apply below_drew1 | refine below_set ?_ GE351.out | refine below_set ?_ GE355.out) | exact HB.out)⟩
    · replace c5 := Bool.eq_false_iff.mpr c5
      subst c5
      have H1 : (some (0, 0, false)) = some (r1, r2, r3) := by rw [if_neg (show ¬ (false = true) by decide)] at H; exact H
      clear H
      have H := H1
      clear H1
      simp only [Option.some.injEq, Prod.mk.injEq] at H
      obtain ⟨rfl, rfl, rfl⟩ := H
      go_enter Tryz.func19, Tryz.ntmps19
      go_wp2_with (first | ((with_reducible refine gate_dst (N := 2) rfl ?_); refine box_event ?hg (N := 2) ?hd (cs := #[.int .i64 0, .int .i64 0]) (t := 34) ?hr ?_; (case hd => rfl); (case hg => rfl); (case hr => first | (go_simp; done) | (go_simp; rfl)); intro gb351 hg w14 hbox hb; have n0_ := Aside0.mk (below_step (bl HB) hb); have n1_ := Aside0.mk (hbox); have n2_ := Aside0.mk ((by rw [hg]; exact (below_size (bl HB)) : w.heap.size ≤ gb351)); have n3_ := Aside0.mk ((by rw [hg]; exact (below_size (bl HB)) : w.heap.size ≤ gb351)); clear HB; have HB := n0_; have BK351 := n1_; have GW351 := n2_; have GE351 := n3_; clear n0_ n1_ n2_ n3_; clear hb hbox hg) | ((with_reducible refine gate_callee (f := 51) rfl ?_); refine goesL_ (some 8) rfl rfl Tryz.func51 (by kernel_rfl) rfl #[.string a0] rfl (by (try simp only [List.map_toArray, List.map_cons, List.map_nil]); first | done | rfl | (simp only [List.length_drop, List.length_take]; rfl)) ?_; (with_reducible refine (impl_said.calls a0 t352 t353 true _ A2.out (EnvE.below hE (bl HB))).mono ?_); rintro e w15 ⟨rfl, hb⟩; refine ⟨_, rfl, ?_⟩; have n0_ := bkB BK351 hb; have n1_ := Aside0.mk (below_step (bl HB) hb); clear BK351; clear HB; have BK351 := n0_; have HB := n1_; clear n0_ n1_; (try clear hb); (try clear hb2); (try clear hk); (try clear hi)) | ((with_reducible refine gate_dst (N := 4) rfl ?_); refine box_event ?hg (N := 4) ?hd (cs := #[.int .i64 0, .int .i64 0]) (t := 34) ?hr ?_; (case hd => rfl); (case hg => rfl); (case hr => first | (go_simp; done) | (go_simp; rfl)); intro gb355 hg w16 hbox hb; have n0_ := bkB BK351 hb; have n1_ := Aside0.mk (below_step (bl HB) hb); have n2_ := Aside0.mk (hbox); have n3_ := Aside0.mk ((by rw [hg]; exact (below_size (bl HB)) : w.heap.size ≤ gb355)); have n4_ := Aside0.mk ((by rw [hg]; exact (below_size (bl HB)) : w.heap.size ≤ gb355)); have n5_ := Aside0.mk ((by rw [hg]; exact Nat.ne_of_lt (bkL BK351) : gb351 ≠ gb355)); have n6_ := Aside0.mk ((by rw [hg]; exact Nat.ne_of_gt (bkL BK351) : gb355 ≠ gb351)); clear BK351; clear HB; have BK351 := n0_; have HB := n1_; have BK355 := n2_; have GW355 := n3_; have GE355 := n4_; have NB351_355 := n5_; have NB355_351 := n6_; clear n0_ n1_ n2_ n3_ n4_ n5_ n6_; clear hb hbox hg; have hnb17 := NB355_351.out; have hnc17 := NB351_355.out; have hcz18_0 : w16.cell? ⟨gb355, 0, none⟩ = some (.int .i64 0) := (blk_cell BK355.out 0).trans rfl; have hcz18_1 : w16.cell? ⟨gb355, 1, none⟩ = some (.int .i64 0) := (blk_cell BK355.out 1).trans rfl; have hfz18_0 := blk_frozen BK355.out 0; have hfz18_1 := blk_frozen BK355.out 1) | (go_at_call 52; (with_reducible refine (impl_EndInside.calls t352 t353 false _ A4.out).mono ?_); rintro e w19 ⟨rfl, hb⟩; have n0_ := Aside0.mk (blk_below (g := gb351) (o := .cells #[.int .i64 0, .int .i64 0] 34 (0, 0)) (by (with_reducible repeat refine bu ?_); refine blk_far ?_ NB351_355.out _; (with_reducible repeat refine bu ?_); refine blk_far ?_ NB351_355.out _; (with_reducible repeat refine bu ?_); exact BK351.out) hb); have n1_ := Aside0.mk (blk_below (g := gb355) (o := .cells #[.int .i64 t352, .int .i64 t353] 34 (0, 0)) (by (with_reducible repeat refine bu ?_); refine blk_put (cs := #[.int .i64 t352, .int .i64 0]) ?_ 1 _ rfl; (with_reducible repeat refine bu ?_); refine blk_put (cs := #[.int .i64 0, .int .i64 0]) ?_ 0 _ rfl; (with_reducible repeat refine bu ?_); exact BK355.out) hb); have n2_ := Aside0.mk (below_step (bl HB) hb); clear BK351; clear BK355; clear HB; have BK351 := n0_; have BK355 := n1_; have HB := n2_; clear n0_ n1_ n2_; (try clear hb); (try clear hb2); (try clear hk); (try clear hi); have hcz20_0 : w19.cell? ⟨gb351, 0, none⟩ = some (.int .i64 0) := (blk_cell BK351.out 0).trans rfl; have hcz20_1 : w19.cell? ⟨gb351, 1, none⟩ = some (.int .i64 0) := (blk_cell BK351.out 1).trans rfl; have hfz20_0 := blk_frozen BK351.out 0; have hfz20_1 := blk_frozen BK351.out 1))
      refine bodyPost_ret (results_ct rfl _ _ gb351 34 #[.int .i64 0, .int .i64 0] (0, 0) _ rfl (by (with_reducible repeat refine bu ?_); refine blk_put (cs := #[.int .i64 0, .int .i64 0]) ?_ 1 _ rfl; (with_reducible repeat refine bu ?_); refine blk_put (cs := #[.int .i64 0, .int .i64 0]) ?_ 0 _ rfl; (with_reducible repeat refine bu ?_); exact BK351.out) Tryz.underlying34 rfl (by kernel_rfl)) rfl ?_
      exact ⟨by first | rfl | (simp [errW_none, errW_some] <;> rfl) | (simp [*, errW_none, errW_some] <;> rfl), by repeat (first | (with_reducible first | exact HB.out | apply below_alloc | apply pw_below_drewN | apply below_drew1 | refine below_set ?_ GE351.out | refine below_set ?_ GE355.out) | exact HB.out)⟩
  · replace c3 := Bool.eq_false_iff.mpr c3
    subst c3
    have H1 : (some (0, 0, false)) = some (r1, r2, r3) := by rw [if_neg (show ¬ (false = true) by decide)] at H; exact H
    clear H
    have H := H1
    clear H1
    simp only [Option.some.injEq, Prod.mk.injEq] at H
    obtain ⟨rfl, rfl, rfl⟩ := H
    go_enter Tryz.func19, Tryz.ntmps19
    go_wp2_with (first | ((with_reducible refine gate_dst (N := 2) rfl ?_); refine box_event ?hg (N := 2) ?hd (cs := #[.int .i64 0, .int .i64 0]) (t := 34) ?hr ?_; (case hd => rfl); (case hg => rfl); (case hr => first | (go_simp; done) | (go_simp; rfl)); intro gb351 hg w21 hbox hb; have n0_ := Aside0.mk (below_step (bl HB) hb); have n1_ := Aside0.mk (hbox); have n2_ := Aside0.mk ((by rw [hg]; exact (below_size (bl HB)) : w.heap.size ≤ gb351)); have n3_ := Aside0.mk ((by rw [hg]; exact (below_size (bl HB)) : w.heap.size ≤ gb351)); clear HB; have HB := n0_; have BK351 := n1_; have GW351 := n2_; have GE351 := n3_; clear n0_ n1_ n2_ n3_; clear hb hbox hg) | ((with_reducible refine gate_callee (f := 51) rfl ?_); refine goesL_ (some 8) rfl rfl Tryz.func51 (by kernel_rfl) rfl #[.string a0] rfl (by (try simp only [List.map_toArray, List.map_cons, List.map_nil]); first | done | rfl | (simp only [List.length_drop, List.length_take]; rfl)) ?_; (with_reducible refine (impl_said.calls a0 t352 t353 false _ A2.out (EnvE.below hE (bl HB))).mono ?_); rintro e w22 ⟨rfl, hb⟩; refine ⟨_, rfl, ?_⟩; have n0_ := bkB BK351 hb; have n1_ := Aside0.mk (below_step (bl HB) hb); clear BK351; clear HB; have BK351 := n0_; have HB := n1_; clear n0_ n1_; (try clear hb); (try clear hb2); (try clear hk); (try clear hi)) | ((with_reducible refine gate_dst (N := 4) rfl ?_); refine box_event ?hg (N := 4) ?hd (cs := #[.int .i64 0, .int .i64 0]) (t := 34) ?hr ?_; (case hd => rfl); (case hg => rfl); (case hr => first | (go_simp; done) | (go_simp; rfl)); intro gb355 hg w23 hbox hb; have n0_ := bkB BK351 hb; have n1_ := Aside0.mk (below_step (bl HB) hb); have n2_ := Aside0.mk (hbox); have n3_ := Aside0.mk ((by rw [hg]; exact (below_size (bl HB)) : w.heap.size ≤ gb355)); have n4_ := Aside0.mk ((by rw [hg]; exact (below_size (bl HB)) : w.heap.size ≤ gb355)); have n5_ := Aside0.mk ((by rw [hg]; exact Nat.ne_of_lt (bkL BK351) : gb351 ≠ gb355)); have n6_ := Aside0.mk ((by rw [hg]; exact Nat.ne_of_gt (bkL BK351) : gb355 ≠ gb351)); clear BK351; clear HB; have BK351 := n0_; have HB := n1_; have BK355 := n2_; have GW355 := n3_; have GE355 := n4_; have NB351_355 := n5_; have NB355_351 := n6_; clear n0_ n1_ n2_ n3_ n4_ n5_ n6_; clear hb hbox hg; have hnb24 := NB355_351.out; have hnc24 := NB351_355.out; have hcz25_0 : w23.cell? ⟨gb355, 0, none⟩ = some (.int .i64 0) := (blk_cell BK355.out 0).trans rfl; have hcz25_1 : w23.cell? ⟨gb355, 1, none⟩ = some (.int .i64 0) := (blk_cell BK355.out 1).trans rfl; have hfz25_0 := blk_frozen BK355.out 0; have hfz25_1 := blk_frozen BK355.out 1; have hcz26_0 : w23.cell? ⟨gb351, 0, none⟩ = some (.int .i64 0) := (blk_cell BK351.out 0).trans rfl; have hcz26_1 : w23.cell? ⟨gb351, 1, none⟩ = some (.int .i64 0) := (blk_cell BK351.out 1).trans rfl; have hfz26_0 := blk_frozen BK351.out 0; have hfz26_1 := blk_frozen BK351.out 1))
    refine bodyPost_ret (results_ct rfl _ _ gb351 34 #[.int .i64 0, .int .i64 0] (0, 0) _ rfl (by (with_reducible repeat refine bu ?_); refine blk_put (cs := #[.int .i64 0, .int .i64 0]) ?_ 1 _ rfl; (with_reducible repeat refine bu ?_); refine blk_put (cs := #[.int .i64 0, .int .i64 0]) ?_ 0 _ rfl; (with_reducible repeat refine bu ?_); refine blk_far ?_ NB351_355.out _; (with_reducible repeat refine bu ?_); refine blk_far ?_ NB351_355.out _; (with_reducible repeat refine bu ?_); exact BK351.out) Tryz.underlying34 rfl (by kernel_rfl)) rfl ?_
    exact ⟨by first | rfl | (simp [errW_none, errW_some] <;> rfl) | (simp [*, errW_none, errW_some] <;> rfl), by repeat (first | (with_reducible first | exact HB.out | apply below_alloc | apply pw_below_drewN | apply below_drew1 | refine below_set ?_ GE351.out | refine below_set ?_ GE355.out) | exact HB.out)⟩

end Go.Proofs.YtffmbccgcaghjaaGreatDoor.P

-- written by hw.py for this claim
namespace Go.Proofs.YtffmbccgcaghjaaGreatDoor.P
open Go.RowKit Go.Proofs.YtffmbccgcaghjaaGreatDoorUFnExactRwrLine.PrintWords Go.Proofs.YtffmbccgcaghjaaGreatDoorUFnExactRwrLine.PrintLast Go.Proofs.YtffmbccgcaghjaaGreatDoorUFnExactRwrLine.PrintMore
attribute [local go_sem] max2_int min2_int max_two min_two max_three min_three max_four min_four
set_option linter.unusedVariables false
set_option linter.unusedSimpArgs false

/-! ### impl_LinPort: function 24 -/
def impl_LinPort.f (a0_0 : Int) (a0_1 : Int) : Option (ByteArray) := (impl_EndOk.f a0_0 a0_1).bind fun t358 => (if t358 = true then ((impl_EndText.f a0_0 a0_1).bind fun t359 => (if 5 + t359.size ≤ 9223372036854775807 then (some ((⟨#[112, 111, 114, 116, 32]⟩ : ByteArray) ++ t359)) else (none))) else (some (⟨#[]⟩ : ByteArray)))
set_option maxHeartbeats 8000000 in
set_option maxRecDepth 100000 in
theorem impl_LinPort.calls (a0_0 : Int) (a0_1 : Int) (r : ByteArray) (w : World) (h : impl_LinPort.f a0_0 a0_1 = some r) (hE : EnvT w) :
    Calls Tryz.prog 24 #[.agg #[.int .i64 a0_0, .int .i64 a0_1]] w fun e w' => e = .returned (.string r) ∧ Below w.heap.size w w' := by
  have hu34 := Tryz.underlying34
  have HB := Aside0.mk (Below.refl w.heap.size w)
  have H : ((impl_EndOk.f a0_0 a0_1).bind fun t358 => (if t358 = true then ((impl_EndText.f a0_0 a0_1).bind fun t359 => (if 5 + t359.size ≤ 9223372036854775807 then (some ((⟨#[112, 111, 114, 116, 32]⟩ : ByteArray) ++ t359)) else (none))) else (some (⟨#[]⟩ : ByteArray)))) = some r := h
  clear h
  replace H := Option.bind_eq_some_iff.mp H
  obtain ⟨t358, A20, H⟩ := H
  replace H : (if t358 = true then ((impl_EndText.f a0_0 a0_1).bind fun t359 => (if 5 + t359.size ≤ 9223372036854775807 then (some ((⟨#[112, 111, 114, 116, 32]⟩ : ByteArray) ++ t359)) else (none))) else (some (⟨#[]⟩ : ByteArray))) = some r := H
  have A2 := Aside0.mk A20
  clear A20
  by_cases c3 : t358 = true
  · subst c3
    have H1 : ((impl_EndText.f a0_0 a0_1).bind fun t359 => (if 5 + t359.size ≤ 9223372036854775807 then (some ((⟨#[112, 111, 114, 116, 32]⟩ : ByteArray) ++ t359)) else (none))) = some r := by rw [if_pos rfl] at H; exact H
    clear H
    have H := H1
    clear H1
    replace H := Option.bind_eq_some_iff.mp H
    obtain ⟨t359, A40, H⟩ := H
    replace H : (if 5 + t359.size ≤ 9223372036854775807 then (some ((⟨#[112, 111, 114, 116, 32]⟩ : ByteArray) ++ t359)) else (none)) = some r := H
    have A4 := Aside0.mk A40
    clear A40
    by_cases c5 : 5 + t359.size ≤ 9223372036854775807
    · rw [if_pos c5] at H
      have c5b0 := eq_true c5
      have c5b1 : decide (5 + t359.size ≤ 9223372036854775807) = true := decide_eq_true c5
      try have c5b2 : (9223372036854775807 < 5 + t359.size) = False := eq_false (Nat.not_lt.2 c5)
      obtain rfl := Option.some.inj H
      go_enter Tryz.func24, Tryz.ntmps24
      go_wp2_with (first | ((with_reducible refine gate_dst (N := 1) rfl ?_); refine box_event ?hg (N := 1) ?hd (cs := #[.int .i64 a0_0, .int .i64 a0_1]) (t := 34) ?hr ?_; (case hd => rfl); (case hg => rfl); (case hr => first | (go_simp; done) | (go_simp; rfl)); intro gb357 hg w6 hbox hb; have n0_ := Aside0.mk (below_step (bl HB) hb); have n1_ := Aside0.mk (hbox); have n2_ := Aside0.mk ((by rw [hg]; exact (below_size (bl HB)) : w.heap.size ≤ gb357)); have n3_ := Aside0.mk ((by rw [hg]; exact (below_size (bl HB)) : w.heap.size ≤ gb357)); clear HB; have HB := n0_; have BK357 := n1_; have GW357 := n2_; have GE357 := n3_; clear n0_ n1_ n2_ n3_; clear hb hbox hg; have hcz7_0 : w6.cell? ⟨gb357, 0, none⟩ = some (.int .i64 a0_0) := (blk_cell BK357.out 0).trans rfl; have hcz7_1 : w6.cell? ⟨gb357, 1, none⟩ = some (.int .i64 a0_1) := (blk_cell BK357.out 1).trans rfl; have hfz7_0 := blk_frozen BK357.out 0; have hfz7_1 := blk_frozen BK357.out 1) | ((with_reducible refine gate_callee (f := 56) rfl ?_); refine goesL_ (some 4) rfl rfl Tryz.func56 (by kernel_rfl) rfl #[.agg #[.int .i64 a0_0, .int .i64 a0_1]] rfl (by (try simp only [List.map_toArray, List.map_cons, List.map_nil]); first | done | rfl | (simp only [List.length_drop, List.length_take]; rfl)) ?_; (with_reducible refine (impl_EndOk.calls a0_0 a0_1 true _ A2.out).mono ?_); rintro e w8 ⟨rfl, hb⟩; refine ⟨_, rfl, ?_⟩; have n0_ := bkB BK357 hb; have n1_ := Aside0.mk (below_step (bl HB) hb); clear BK357; clear HB; have BK357 := n0_; have HB := n1_; clear n0_ n1_; (try clear hb); (try clear hb2); (try clear hk); (try clear hi); have hcz9_0 : w8.cell? ⟨gb357, 0, none⟩ = some (.int .i64 a0_0) := (blk_cell BK357.out 0).trans rfl; have hcz9_1 : w8.cell? ⟨gb357, 1, none⟩ = some (.int .i64 a0_1) := (blk_cell BK357.out 1).trans rfl; have hfz9_0 := blk_frozen BK357.out 0; have hfz9_1 := blk_frozen BK357.out 1) | ((with_reducible refine gate_callee (f := 57) rfl ?_); refine goesL_ (some 7) rfl rfl Tryz.func57 (by kernel_rfl) rfl #[.agg #[.int .i64 a0_0, .int .i64 a0_1]] rfl (by (try simp only [List.map_toArray, List.map_cons, List.map_nil]); first | done | rfl | (simp only [List.length_drop, List.length_take]; rfl)) ?_; (with_reducible refine (impl_EndText.calls a0_0 a0_1 t359 _ A4.out (EnvT.below hE (bl HB))).mono ?_); rintro e w10 ⟨rfl, hb⟩; refine ⟨_, rfl, ?_⟩; have n0_ := bkB BK357 hb; have n1_ := Aside0.mk (below_step (bl HB) hb); clear BK357; clear HB; have BK357 := n0_; have HB := n1_; clear n0_ n1_; (try clear hb); (try clear hb2); (try clear hk); (try clear hi)))
      go_ret
      exact ⟨by first | rfl | (simp [errW_none, errW_some] <;> rfl) | (simp [*, errW_none, errW_some] <;> rfl), by repeat (first | (with_reducible first | exact HB.out | apply below_alloc | apply pw_below_drewN | apply below_drew1 | refine below_set ?_ GE357.out) | exact HB.out)⟩
    · rw [if_neg c5] at H
      exact absurd H (by simp)
  · replace c3 := Bool.eq_false_iff.mpr c3
    subst c3
    have H1 : (some (⟨#[]⟩ : ByteArray)) = some r := by rw [if_neg (show ¬ (false = true) by decide)] at H; exact H
    clear H
    have H := H1
    clear H1
    obtain rfl := Option.some.inj H
    go_enter Tryz.func24, Tryz.ntmps24
    go_wp2_with (first | ((with_reducible refine gate_dst (N := 1) rfl ?_); refine box_event ?hg (N := 1) ?hd (cs := #[.int .i64 a0_0, .int .i64 a0_1]) (t := 34) ?hr ?_; (case hd => rfl); (case hg => rfl); (case hr => first | (go_simp; done) | (go_simp; rfl)); intro gb357 hg w11 hbox hb; have n0_ := Aside0.mk (below_step (bl HB) hb); have n1_ := Aside0.mk (hbox); have n2_ := Aside0.mk ((by rw [hg]; exact (below_size (bl HB)) : w.heap.size ≤ gb357)); have n3_ := Aside0.mk ((by rw [hg]; exact (below_size (bl HB)) : w.heap.size ≤ gb357)); clear HB; have HB := n0_; have BK357 := n1_; have GW357 := n2_; have GE357 := n3_; clear n0_ n1_ n2_ n3_; clear hb hbox hg; have hcz12_0 : w11.cell? ⟨gb357, 0, none⟩ = some (.int .i64 a0_0) := (blk_cell BK357.out 0).trans rfl; have hcz12_1 : w11.cell? ⟨gb357, 1, none⟩ = some (.int .i64 a0_1) := (blk_cell BK357.out 1).trans rfl; have hfz12_0 := blk_frozen BK357.out 0; have hfz12_1 := blk_frozen BK357.out 1) | ((with_reducible refine gate_callee (f := 56) rfl ?_); refine goesL_ (some 4) rfl rfl Tryz.func56 (by kernel_rfl) rfl #[.agg #[.int .i64 a0_0, .int .i64 a0_1]] rfl (by (try simp only [List.map_toArray, List.map_cons, List.map_nil]); first | done | rfl | (simp only [List.length_drop, List.length_take]; rfl)) ?_; (with_reducible refine (impl_EndOk.calls a0_0 a0_1 false _ A2.out).mono ?_); rintro e w13 ⟨rfl, hb⟩; refine ⟨_, rfl, ?_⟩; have n0_ := bkB BK357 hb; have n1_ := Aside0.mk (below_step (bl HB) hb); clear BK357; clear HB; have BK357 := n0_; have HB := n1_; clear n0_ n1_; (try clear hb); (try clear hb2); (try clear hk); (try clear hi)))
    go_ret
    exact ⟨by first | rfl | (simp [errW_none, errW_some] <;> rfl) | (simp [*, errW_none, errW_some] <;> rfl), by repeat (first | (with_reducible first | exact HB.out | apply below_alloc | apply pw_below_drewN | apply below_drew1 | refine below_set ?_ GE357.out) | exact HB.out)⟩

end Go.Proofs.YtffmbccgcaghjaaGreatDoor.P

-- written by hw.py for this claim
namespace Go.Proofs.YtffmbccgcaghjaaGreatDoor.P
open Go.RowKit Go.Proofs.YtffmbccgcaghjaaGreatDoorUFnExactRwrLine.PrintWords Go.Proofs.YtffmbccgcaghjaaGreatDoorUFnExactRwrLine.PrintLast Go.Proofs.YtffmbccgcaghjaaGreatDoorUFnExactRwrLine.PrintMore
attribute [local go_sem] max2_int min2_int max_two min_two max_three min_three max_four min_four
set_option linter.unusedVariables false
set_option linter.unusedSimpArgs false

/-! ### impl_MapTab_goesOut: function 45 -/
def impl_MapTab_goesOut.f (l0_0 : List (S34)) (a1 : ByteArray) : Option ((List (S34)) × ByteArray) := (impl_LinSays.f a1).bind fun bt386 => (if bt386.2.2 = true then ((impl_MapTab_put.f l0_0 bt386.1 bt386.2.1).bind fun bt393 => (if bt393.2 = 0 then (some (bt393.1, (⟨#[110, 111, 110, 101]⟩ : ByteArray))) else ((impl_LinPort.f 50 bt393.2).bind fun t398 => (some (bt393.1, t398))))) else ((impl_MapTab_copied.f l0_0).bind fun t390 => (some (t390, a1))))
set_option maxHeartbeats 8000000 in
set_option maxRecDepth 100000 in
theorem impl_MapTab_goesOut.calls (A0_0 : Option Addr) (c0_0 : Nat) (l0_0 : List (S34)) (a1 : ByteArray) (r1 : List (S34)) (r2 : ByteArray) (w : World) (hr0_0 : Kd.C k34 w A0_0 l0_0.length l0_0) (hc0_0 : l0_0.length ≤ c0_0) (h : impl_MapTab_goesOut.f l0_0 a1 = some (r1, r2)) (hE : EnvE w) :
    Calls Tryz.prog 45 #[.agg #[.slice A0_0 l0_0.length c0_0], .string a1] w fun e w' => ∃ v0_ : Value, e = .returned (.tuple #[.agg #[v0_], .string r2]) ∧ Kd.R k34 34 w' w.heap.size (fun _ => True) v0_ r1 ∧ Below w.heap.size w w' := by
  have hu25 := Tryz.underlying25
  have hu34 := Tryz.underlying34
  have HR0_0 := Aside0.mk hr0_0
  have HC0_0 := Aside0.mk hc0_0
  clear hr0_0 hc0_0
  have HB := Aside0.mk (Below.refl w.heap.size w)
  have H : ((impl_LinSays.f a1).bind fun bt386 => (if bt386.2.2 = true then ((impl_MapTab_put.f l0_0 bt386.1 bt386.2.1).bind fun bt393 => (if bt393.2 = 0 then (some (bt393.1, (⟨#[110, 111, 110, 101]⟩ : ByteArray))) else ((impl_LinPort.f 50 bt393.2).bind fun t398 => (some (bt393.1, t398))))) else ((impl_MapTab_copied.f l0_0).bind fun t390 => (some (t390, a1))))) = some (r1, r2) := h
  clear h
  replace H := Option.bind_eq_some_iff.mp H
  obtain ⟨⟨t386, t387, t388⟩, A30, H⟩ := H
  replace H : (if t388 = true then ((impl_MapTab_put.f l0_0 t386 t387).bind fun bt393 => (if bt393.2 = 0 then (some (bt393.1, (⟨#[110, 111, 110, 101]⟩ : ByteArray))) else ((impl_LinPort.f 50 bt393.2).bind fun t398 => (some (bt393.1, t398))))) else ((impl_MapTab_copied.f l0_0).bind fun t390 => (some (t390, a1)))) = some (r1, r2) := H
  have A3 := Aside0.mk A30
  clear A30
  by_cases c4 : t388 = true
  · subst c4
    have H1 : ((impl_MapTab_put.f l0_0 t386 t387).bind fun bt393 => (if bt393.2 = 0 then (some (bt393.1, (⟨#[110, 111, 110, 101]⟩ : ByteArray))) else ((impl_LinPort.f 50 bt393.2).bind fun t398 => (some (bt393.1, t398))))) = some (r1, r2) := by rw [if_pos rfl] at H; exact H
    clear H
    have H := H1
    clear H1
    replace H := Option.bind_eq_some_iff.mp H
    obtain ⟨⟨t393, t396⟩, A50, H⟩ := H
    replace H : (if t396 = 0 then (some (t393, (⟨#[110, 111, 110, 101]⟩ : ByteArray))) else ((impl_LinPort.f 50 t396).bind fun t398 => (some (t393, t398)))) = some (r1, r2) := H
    have A5 := Aside0.mk A50
    clear A50
    by_cases c6 : t396 = 0
    · rw [if_pos c6] at H
      have c6b0 : (t396 == 0) = true := beq_iff_eq.mpr c6
      have c6b1 : (t396 != 0) = false := bne_eq_false_iff_eq.mpr c6
      clear c6
      simp only [Option.some.injEq, Prod.mk.injEq] at H
      obtain ⟨rfl, rfl⟩ := H
      go_enter Tryz.func45, Tryz.ntmps45
      go_wp2_with (first | ((with_reducible refine gate_dst (N := 2) rfl ?_); refine box_event ?hg (N := 2) ?hd (cs := #[.slice A0_0 l0_0.length c0_0]) (t := 25) ?hr ?_; (case hd => rfl); (case hg => rfl); (case hr => first | (go_simp; done) | (go_simp; rfl)); intro gb384 hg w7 hbox hb; have n0_ := Aside0.mk (below_step (bl HB) hb); have n1_ := Aside0.mk (hbox); have n2_ := Aside0.mk ((by rw [hg]; exact (below_size (bl HB)) : w.heap.size ≤ gb384)); have n3_ := Aside0.mk ((by rw [hg]; exact (below_size (bl HB)) : w.heap.size ≤ gb384)); clear HB; have HB := n0_; have BK384 := n1_; have GW384 := n2_; have GE384 := n3_; clear n0_ n1_ n2_ n3_; clear hb hbox hg) | ((with_reducible refine gate_dst (N := 4) rfl ?_); refine box_event ?hg (N := 4) ?hd (cs := #[.slice none 0 0]) (t := 25) ?hr ?_; (case hd => rfl); (case hg => rfl); (case hr => first | (go_simp; done) | (go_simp; rfl)); intro gb385 hg w8 hbox hb; have n0_ := bkB BK384 hb; have n1_ := Aside0.mk (below_step (bl HB) hb); have n2_ := Aside0.mk (hbox); have n3_ := Aside0.mk ((by rw [hg]; exact (below_size (bl HB)) : w.heap.size ≤ gb385)); have n4_ := Aside0.mk ((by rw [hg]; exact (below_size (bl HB)) : w.heap.size ≤ gb385)); have n5_ := Aside0.mk ((by rw [hg]; exact Nat.ne_of_lt (bkL BK384) : gb384 ≠ gb385)); have n6_ := Aside0.mk ((by rw [hg]; exact Nat.ne_of_gt (bkL BK384) : gb385 ≠ gb384)); clear BK384; clear HB; have BK384 := n0_; have HB := n1_; have BK385 := n2_; have GW385 := n3_; have GE385 := n4_; have NB384_385 := n5_; have NB385_384 := n6_; clear n0_ n1_ n2_ n3_ n4_ n5_ n6_; clear hb hbox hg) | ((with_reducible refine gate_callee (f := 19) rfl ?_); refine goesL_ (some 12) rfl rfl Tryz.func19 (by kernel_rfl) rfl #[.string a1] rfl (by (try simp only [List.map_toArray, List.map_cons, List.map_nil]); first | done | rfl | (simp only [List.length_drop, List.length_take]; rfl)) ?_; (with_reducible refine (impl_LinSays.calls a1 t386 t387 true _ A3.out (EnvE.below hE (bl HB))).mono ?_); rintro e w9 ⟨rfl, hb⟩; refine ⟨_, rfl, ?_⟩; have n0_ := bkB BK384 hb; have n1_ := bkB BK385 hb; have n2_ := Aside0.mk (below_step (bl HB) hb); clear BK384; clear BK385; clear HB; have BK384 := n0_; have BK385 := n1_; have HB := n2_; clear n0_ n1_ n2_; (try clear hb); (try clear hb2); (try clear hk); (try clear hi)) | ((with_reducible refine gate_dst (N := 6) rfl ?_); refine box_event ?hg (N := 6) ?hd (cs := #[.int .i64 0, .int .i64 0]) (t := 34) ?hr ?_; (case hd => rfl); (case hg => rfl); (case hr => first | (go_simp; done) | (go_simp; rfl)); intro gb389 hg w10 hbox hb; have n0_ := bkB BK384 hb; have n1_ := bkB BK385 hb; have n2_ := Aside0.mk (below_step (bl HB) hb); have n3_ := Aside0.mk (hbox); have n4_ := Aside0.mk ((by rw [hg]; exact (below_size (bl HB)) : w.heap.size ≤ gb389)); have n5_ := Aside0.mk ((by rw [hg]; exact (below_size (bl HB)) : w.heap.size ≤ gb389)); have n6_ := Aside0.mk ((by rw [hg]; exact Nat.ne_of_lt (bkL BK384) : gb384 ≠ gb389)); have n7_ := Aside0.mk ((by rw [hg]; exact Nat.ne_of_gt (bkL BK384) : gb389 ≠ gb384)); have n8_ := Aside0.mk ((by rw [hg]; exact Nat.ne_of_lt (bkL BK385) : gb385 ≠ gb389)); have n9_ := Aside0.mk ((by rw [hg]; exact Nat.ne_of_gt (bkL BK385) : gb389 ≠ gb385)); clear BK384; clear BK385; clear HB; have BK384 := n0_; have BK385 := n1_; have HB := n2_; have BK389 := n3_; have GW389 := n4_; have GE389 := n5_; have NB384_389 := n6_; have NB389_384 := n7_; have NB385_389 := n8_; have NB389_385 := n9_; clear n0_ n1_ n2_ n3_ n4_ n5_ n6_ n7_ n8_ n9_; clear hb hbox hg; have hnb11 := NB389_384.out; have hnc11 := NB384_389.out; have hnb12 := NB389_385.out; have hnc12 := NB385_389.out; have hcz13_0 : w10.cell? ⟨gb389, 0, none⟩ = some (.int .i64 0) := (blk_cell BK389.out 0).trans rfl; have hcz13_1 : w10.cell? ⟨gb389, 1, none⟩ = some (.int .i64 0) := (blk_cell BK389.out 1).trans rfl; have hfz13_0 := blk_frozen BK389.out 0; have hfz13_1 := blk_frozen BK389.out 1; have hnb14 := NB384_385.out; have hnc14 := NB385_384.out; have hcz15_0 : w10.cell? ⟨gb384, 0, none⟩ = some (.slice A0_0 l0_0.length c0_0) := (blk_cell BK384.out 0).trans rfl; have hfz15_0 := blk_frozen BK384.out 0) | ((with_reducible refine gate_callee (f := 78) rfl ?_); refine goesL_ (some 23) rfl rfl Tryz.func78 (by kernel_rfl) rfl #[.agg #[.slice A0_0 l0_0.length c0_0], .agg #[.int .i64 t386, .int .i64 t387]] rfl (by (try simp only [List.map_toArray, List.map_cons, List.map_nil]); first | done | rfl | (simp only [List.length_drop, List.length_take]; rfl)) ?_; (with_reducible refine (impl_MapTab_put.calls _ _ l0_0 t386 t387 t393 t396 _ ?side1 ?side2 A5.out).mono ?_); (case side1 => exact Kd.C_below HR0_0.out (bl HB)); (case side2 => exact HC0_0.out); rintro e w16 ⟨v394, rfl, ho0, hb⟩; refine ⟨_, rfl, ?_⟩; have n0_ := Aside0.mk (Kd.R_lower (Kd.R_newB ho0 (g := gb389) (o := .cells #[.int .i64 t386, .int .i64 t387] 34 (0, 0)) (by (with_reducible repeat refine bu ?_); refine blk_put (cs := #[.int .i64 t386, .int .i64 0]) ?_ 1 _ rfl; (with_reducible repeat refine bu ?_); refine blk_put (cs := #[.int .i64 0, .int .i64 0]) ?_ 0 _ rfl; (with_reducible repeat refine bu ?_); exact BK389.out)) (below_size (bl HB))); have n1_ := Aside0.mk (blk_below (g := gb384) (o := .cells #[.slice A0_0 l0_0.length c0_0] 25 (0, 0)) (by (with_reducible repeat refine bu ?_); refine blk_far ?_ NB384_389.out _; (with_reducible repeat refine bu ?_); refine blk_far ?_ NB384_389.out _; (with_reducible repeat refine bu ?_); exact BK384.out) hb); have n2_ := Aside0.mk (blk_below (g := gb385) (o := .cells #[.slice none 0 0] 25 (0, 0)) (by (with_reducible repeat refine bu ?_); refine blk_far ?_ NB385_389.out _; (with_reducible repeat refine bu ?_); refine blk_far ?_ NB385_389.out _; (with_reducible repeat refine bu ?_); exact BK385.out) hb); have n3_ := Aside0.mk (blk_below (g := gb389) (o := .cells #[.int .i64 t386, .int .i64 t387] 34 (0, 0)) (by (with_reducible repeat refine bu ?_); refine blk_put (cs := #[.int .i64 t386, .int .i64 0]) ?_ 1 _ rfl; (with_reducible repeat refine bu ?_); refine blk_put (cs := #[.int .i64 0, .int .i64 0]) ?_ 0 _ rfl; (with_reducible repeat refine bu ?_); exact BK389.out) hb); have n4_ := Aside0.mk (below_step (bl HB) hb); clear BK384; clear BK385; clear BK389; clear HB; have HO395 := n0_; have BK384 := n1_; have BK385 := n2_; have BK389 := n3_; have HB := n4_; clear n0_ n1_ n2_ n3_ n4_; (try clear hb); (try clear hb2); (try clear hk); (try clear hi); (try clear ho0)) | ((with_reducible refine gate_dst (N := 8) rfl ?_); refine box_event ?hg (N := 8) ?hd (cs := #[.slice none 0 0]) (t := 25) ?hr ?_; (case hd => rfl); (case hg => rfl); (case hr => first | (go_simp; done) | (go_simp; rfl)); intro gb397 hg w17 hbox hb; have n0_ := Aside0.mk (Kd.R_below (rs HO395) hb); have n1_ := bkB BK384 hb; have n2_ := bkB BK385 hb; have n3_ := bkB BK389 hb; have n4_ := Aside0.mk (below_step (bl HB) hb); have n5_ := Aside0.mk (hbox); have n6_ := Aside0.mk ((by rw [hg]; exact (below_size (bl HB)) : w.heap.size ≤ gb397)); have n7_ := Aside0.mk ((by rw [hg]; exact (below_size (bl HB)) : w.heap.size ≤ gb397)); have n8_ := Aside0.mk ((by rw [hg]; exact Nat.ne_of_lt (bkL BK384) : gb384 ≠ gb397)); have n9_ := Aside0.mk ((by rw [hg]; exact Nat.ne_of_gt (bkL BK384) : gb397 ≠ gb384)); have n10_ := Aside0.mk ((by rw [hg]; exact Nat.ne_of_lt (bkL BK385) : gb385 ≠ gb397)); have n11_ := Aside0.mk ((by rw [hg]; exact Nat.ne_of_gt (bkL BK385) : gb397 ≠ gb385)); have n12_ := Aside0.mk ((by rw [hg]; exact Nat.ne_of_lt (bkL BK389) : gb389 ≠ gb397)); have n13_ := Aside0.mk ((by rw [hg]; exact Nat.ne_of_gt (bkL BK389) : gb397 ≠ gb389)); clear HO395; clear BK384; clear BK385; clear BK389; clear HB; have HO395 := n0_; have BK384 := n1_; have BK385 := n2_; have BK389 := n3_; have HB := n4_; have BK397 := n5_; have GW397 := n6_; have GE397 := n7_; have NB384_397 := n8_; have NB397_384 := n9_; have NB385_397 := n10_; have NB397_385 := n11_; have NB389_397 := n12_; have NB397_389 := n13_; clear n0_ n1_ n2_ n3_ n4_ n5_ n6_ n7_ n8_ n9_ n10_ n11_ n12_ n13_; clear hb hbox hg; obtain ⟨Ao18, co18, eo18⟩ := Kd.R_slice HO395.out; subst eo18; have hnb19 := NB397_384.out; have hnc19 := NB384_397.out; have hnb20 := NB397_385.out; have hnc20 := NB385_397.out; have hnb21 := NB397_389.out; have hnc21 := NB389_397.out; have hcz22_0 : w17.cell? ⟨gb397, 0, none⟩ = some (.slice none 0 0) := (blk_cell BK397.out 0).trans rfl; have hfz22_0 := blk_frozen BK397.out 0; have hcz23_0 : w17.cell? ⟨gb385, 0, none⟩ = some (.slice none 0 0) := (blk_cell BK385.out 0).trans rfl; have hfz23_0 := blk_frozen BK385.out 0))
      refine bodyPost_ret (results_ct rfl _ _ gb385 25 #[.slice Ao18 t393.length co18] (0, 0) _ rfl (by (with_reducible repeat refine bu ?_); refine blk_put (cs := #[.slice none 0 0]) ?_ 0 _ rfl; (with_reducible repeat refine bu ?_); refine blk_far ?_ NB385_397.out _; (with_reducible repeat refine bu ?_); exact BK385.out) Tryz.underlying25 rfl (by kernel_rfl)) rfl ?_
      exact ⟨_, by first | rfl | (simp [errW_none, errW_some] <;> rfl) | (simp [*, errW_none, errW_some] <;> rfl), by (with_reducible repeat apply ru); exact Kd.R_mono (Kd.R_far (p := ⟨gb385, 0, none⟩) (Kd.R_far (p := ⟨gb397, 0, none⟩) (Kd.R_types (Kd.R_types HO395.out BK397.out (by decide)) BK385.out (by decide)) (fun _ hk => hk.1.2) (.slice Ao18 t393.length co18)) (fun _ hk => hk.2) (.slice Ao18 t393.length co18)) (fun _ hk => trivial), by repeat (first | (with_reducible first | exact HB.out | apply below_alloc | apply pw_below_drewN | apply below_drew1 | refine below_set ?_ GE384.out | refine below_set ?_ GE385.out | refine below_set ?_ GE389.out | refine below_set ?_ GE397.out) | exact HB.out)⟩
    · rw [if_neg c6] at H
      have c6b0 : (t396 == 0) = false := beq_eq_false_iff_ne.mpr c6
      have c6b1 : (t396 != 0) = true := bne_iff_ne.mpr c6
      replace H := Option.bind_eq_some_iff.mp H
      obtain ⟨t398, A240, H⟩ := H
      replace H : (some (t393, t398)) = some (r1, r2) := H
      have A24 := Aside0.mk A240
      clear A240
      simp only [Option.some.injEq, Prod.mk.injEq] at H
      obtain ⟨rfl, rfl⟩ := H
      go_enter Tryz.func45, Tryz.ntmps45
      try go_wp2_with (first | ((with_reducible refine gate_dst (N := 2) rfl ?_); refine box_event ?hg (N := 2) ?hd (cs := #[.slice A0_0 l0_0.length c0_0]) (t := 25) ?hr ?_; (case hd => rfl); (case hg => rfl); (case hr => first | (go_simp; done) | (go_simp; rfl)); intro gb384 hg w25 hbox hb; have n0_ := Aside0.mk (below_step (bl HB) hb); have n1_ := Aside0.mk (hbox); have n2_ := Aside0.mk ((by rw [hg]; exact (below_size (bl HB)) : w.heap.size ≤ gb384)); have n3_ := Aside0.mk ((by rw [hg]; exact (below_size (bl HB)) : w.heap.size ≤ gb384)); clear HB; have HB := n0_; have BK384 := n1_; have GW384 := n2_; have GE384 := n3_; clear n0_ n1_ n2_ n3_; clear hb hbox hg) | ((with_reducible refine gate_dst (N := 4) rfl ?_); refine box_event ?hg (N := 4) ?hd (cs := #[.slice none 0 0]) (t := 25) ?hr ?_; (case hd => rfl); (case hg => rfl); (case hr => first | (go_simp; done) | (go_simp; rfl)); intro gb385 hg w26 hbox hb; have n0_ := bkB BK384 hb; have n1_ := Aside0.mk (below_step (bl HB) hb); have n2_ := Aside0.mk (hbox); have n3_ := Aside0.mk ((by rw [hg]; exact (below_size (bl HB)) : w.heap.size ≤ gb385)); have n4_ := Aside0.mk ((by rw [hg]; exact (below_size (bl HB)) : w.heap.size ≤ gb385)); have n5_ := Aside0.mk ((by rw [hg]; exact Nat.ne_of_lt (bkL BK384) : gb384 ≠ gb385)); have n6_ := Aside0.mk ((by rw [hg]; exact Nat.ne_of_gt (bkL BK384) : gb385 ≠ gb384)); clear BK384; clear HB; have BK384 := n0_; have HB := n1_; have BK385 := n2_; have GW385 := n3_; have GE385 := n4_; have NB384_385 := n5_; have NB385_384 := n6_; clear n0_ n1_ n2_ n3_ n4_ n5_ n6_; clear hb hbox hg) | ((with_reducible refine gate_callee (f := 19) rfl ?_); refine goesL_ (some 12) rfl rfl Tryz.func19 (by kernel_rfl) rfl #[.string a1] rfl (by (try simp only [List.map_toArray, List.map_cons, List.map_nil]); first | done | rfl | (simp only [List.length_drop, List.length_take]; rfl)) ?_; (with_reducible refine (impl_LinSays.calls a1 t386 t387 true _ A3.out (EnvE.below hE (bl HB))).mono ?_); rintro e w27 ⟨rfl, hb⟩; refine ⟨_, rfl, ?_⟩; have n0_ := bkB BK384 hb; have n1_ := bkB BK385 hb; have n2_ := Aside0.mk (below_step (bl HB) hb); clear BK384; clear BK385; clear HB; have BK384 := n0_; have BK385 := n1_; have HB := n2_; clear n0_ n1_ n2_; (try clear hb); (try clear hb2); (try clear hk); (try clear hi)) | ((with_reducible refine gate_dst (N := 6) rfl ?_); refine box_event ?hg (N := 6) ?hd (cs := #[.int .i64 0, .int .i64 0]) (t := 34) ?hr ?_; (case hd => rfl); (case hg => rfl); (case hr => first | (go_simp; done) | (go_simp; rfl)); intro gb389 hg w28 hbox hb; have n0_ := bkB BK384 hb; have n1_ := bkB BK385 hb; have n2_ := Aside0.mk (below_step (bl HB) hb); have n3_ := Aside0.mk (hbox); have n4_ := Aside0.mk ((by rw [hg]; exact (below_size (bl HB)) : w.heap.size ≤ gb389)); have n5_ := Aside0.mk ((by rw [hg]; exact (below_size (bl HB)) : w.heap.size ≤ gb389)); have n6_ := Aside0.mk ((by rw [hg]; exact Nat.ne_of_lt (bkL BK384) : gb384 ≠ gb389)); have n7_ := Aside0.mk ((by rw [hg]; exact Nat.ne_of_gt (bkL BK384) : gb389 ≠ gb384)); have n8_ := Aside0.mk ((by rw [hg]; exact Nat.ne_of_lt (bkL BK385) : gb385 ≠ gb389)); have n9_ := Aside0.mk ((by rw [hg]; exact Nat.ne_of_gt (bkL BK385) : gb389 ≠ gb385)); clear BK384; clear BK385; clear HB; have BK384 := n0_; have BK385 := n1_; have HB := n2_; have BK389 := n3_; have GW389 := n4_; have GE389 := n5_; have NB384_389 := n6_; have NB389_384 := n7_; have NB385_389 := n8_; have NB389_385 := n9_; clear n0_ n1_ n2_ n3_ n4_ n5_ n6_ n7_ n8_ n9_; clear hb hbox hg; have hnb29 := NB389_384.out; have hnc29 := NB384_389.out; have hnb30 := NB389_385.out; have hnc30 := NB385_389.out; have hcz31_0 : w28.cell? ⟨gb389, 0, none⟩ = some (.int .i64 0) := (blk_cell BK389.out 0).trans rfl; have hcz31_1 : w28.cell? ⟨gb389, 1, none⟩ = some (.int .i64 0) := (blk_cell BK389.out 1).trans rfl; have hfz31_0 := blk_frozen BK389.out 0; have hfz31_1 := blk_frozen BK389.out 1; have hnb32 := NB384_385.out; have hnc32 := NB385_384.out; have hcz33_0 : w28.cell? ⟨gb384, 0, none⟩ = some (.slice A0_0 l0_0.length c0_0) := (blk_cell BK384.out 0).trans rfl; have hfz33_0 := blk_frozen BK384.out 0) | ((with_reducible refine gate_callee (f := 78) rfl ?_); refine goesL_ (some 23) rfl rfl Tryz.func78 (by kernel_rfl) rfl #[.agg #[.slice A0_0 l0_0.length c0_0], .agg #[.int .i64 t386, .int .i64 t387]] rfl (by (try simp only [List.map_toArray, List.map_cons, List.map_nil]); first | done | rfl | (simp only [List.length_drop, List.length_take]; rfl)) ?_; (with_reducible refine (impl_MapTab_put.calls _ _ l0_0 t386 t387 t393 t396 _ ?side1 ?side2 A5.out).mono ?_); (case side1 => exact Kd.C_below HR0_0.out (bl HB)); (case side2 => exact HC0_0.out); rintro e w34 ⟨v394, rfl, ho0, hb⟩; refine ⟨_, rfl, ?_⟩; have n0_ := Aside0.mk (Kd.R_lower (Kd.R_newB ho0 (g := gb389) (o := .cells #[.int .i64 t386, .int .i64 t387] 34 (0, 0)) (by (with_reducible repeat refine bu ?_); refine blk_put (cs := #[.int .i64 t386, .int .i64 0]) ?_ 1 _ rfl; (with_reducible repeat refine bu ?_); refine blk_put (cs := #[.int .i64 0, .int .i64 0]) ?_ 0 _ rfl; (with_reducible repeat refine bu ?_); exact BK389.out)) (below_size (bl HB))); have n1_ := Aside0.mk (blk_below (g := gb384) (o := .cells #[.slice A0_0 l0_0.length c0_0] 25 (0, 0)) (by (with_reducible repeat refine bu ?_); refine blk_far ?_ NB384_389.out _; (with_reducible repeat refine bu ?_); refine blk_far ?_ NB384_389.out _; (with_reducible repeat refine bu ?_); exact BK384.out) hb); have n2_ := Aside0.mk (blk_below (g := gb385) (o := .cells #[.slice none 0 0] 25 (0, 0)) (by (with_reducible repeat refine bu ?_); refine blk_far ?_ NB385_389.out _; (with_reducible repeat refine bu ?_); refine blk_far ?_ NB385_389.out _; (with_reducible repeat refine bu ?_); exact BK385.out) hb); have n3_ := Aside0.mk (blk_below (g := gb389) (o := .cells #[.int .i64 t386, .int .i64 t387] 34 (0, 0)) (by (with_reducible repeat refine bu ?_); refine blk_put (cs := #[.int .i64 t386, .int .i64 0]) ?_ 1 _ rfl; (with_reducible repeat refine bu ?_); refine blk_put (cs := #[.int .i64 0, .int .i64 0]) ?_ 0 _ rfl; (with_reducible repeat refine bu ?_); exact BK389.out) hb); have n4_ := Aside0.mk (below_step (bl HB) hb); clear BK384; clear BK385; clear BK389; clear HB; have HO395 := n0_; have BK384 := n1_; have BK385 := n2_; have BK389 := n3_; have HB := n4_; clear n0_ n1_ n2_ n3_ n4_; (try clear hb); (try clear hb2); (try clear hk); (try clear hi); (try clear ho0)) | ((with_reducible refine gate_dst (N := 8) rfl ?_); refine box_event ?hg (N := 8) ?hd (cs := #[.slice none 0 0]) (t := 25) ?hr ?_; (case hd => rfl); (case hg => rfl); (case hr => first | (go_simp; done) | (go_simp; rfl)); intro gb397 hg w35 hbox hb; have n0_ := Aside0.mk (Kd.R_below (rs HO395) hb); have n1_ := bkB BK384 hb; have n2_ := bkB BK385 hb; have n3_ := bkB BK389 hb; have n4_ := Aside0.mk (below_step (bl HB) hb); have n5_ := Aside0.mk (hbox); have n6_ := Aside0.mk ((by rw [hg]; exact (below_size (bl HB)) : w.heap.size ≤ gb397)); have n7_ := Aside0.mk ((by rw [hg]; exact (below_size (bl HB)) : w.heap.size ≤ gb397)); have n8_ := Aside0.mk ((by rw [hg]; exact Nat.ne_of_lt (bkL BK384) : gb384 ≠ gb397)); have n9_ := Aside0.mk ((by rw [hg]; exact Nat.ne_of_gt (bkL BK384) : gb397 ≠ gb384)); have n10_ := Aside0.mk ((by rw [hg]; exact Nat.ne_of_lt (bkL BK385) : gb385 ≠ gb397)); have n11_ := Aside0.mk ((by rw [hg]; exact Nat.ne_of_gt (bkL BK385) : gb397 ≠ gb385)); have n12_ := Aside0.mk ((by rw [hg]; exact Nat.ne_of_lt (bkL BK389) : gb389 ≠ gb397)); have n13_ := Aside0.mk ((by rw [hg]; exact Nat.ne_of_gt (bkL BK389) : gb397 ≠ gb389)); clear HO395; clear BK384; clear BK385; clear BK389; clear HB; have HO395 := n0_; have BK384 := n1_; have BK385 := n2_; have BK389 := n3_; have HB := n4_; have BK397 := n5_; have GW397 := n6_; have GE397 := n7_; have NB384_397 := n8_; have NB397_384 := n9_; have NB385_397 := n10_; have NB397_385 := n11_; have NB389_397 := n12_; have NB397_389 := n13_; clear n0_ n1_ n2_ n3_ n4_ n5_ n6_ n7_ n8_ n9_ n10_ n11_ n12_ n13_; clear hb hbox hg; obtain ⟨Ao36, co36, eo36⟩ := Kd.R_slice HO395.out; subst eo36; have hnb37 := NB397_384.out; have hnc37 := NB384_397.out; have hnb38 := NB397_385.out; have hnc38 := NB385_397.out; have hnb39 := NB397_389.out; have hnc39 := NB389_397.out; have hcz40_0 : w35.cell? ⟨gb397, 0, none⟩ = some (.slice none 0 0) := (blk_cell BK397.out 0).trans rfl; have hfz40_0 := blk_frozen BK397.out 0))
      have n0_ : Aside0 (Kd.R k34 34 (w35.setCell ⟨gb397, 0, none⟩ (.slice Ao36 t393.length co36)) w.heap.size (fun k_ => k_ ≠ gb389) (.slice Ao36 t393.length co36) t393) := ⟨by (with_reducible repeat apply ru); exact Kd.R_mono (Kd.R_far (p := ⟨gb397, 0, none⟩) (Kd.R_types HO395.out BK397.out (by decide)) (fun _ hk => hk.2) (.slice Ao36 t393.length co36)) (fun _ hk => hk.1.2)⟩
      have n1_ : Aside0 ((w35.setCell ⟨gb397, 0, none⟩ (.slice Ao36 t393.length co36)).heap[gb384]? = some (.cells #[.slice A0_0 l0_0.length c0_0] 25 (0, 0))) := ⟨by (with_reducible repeat refine bu ?_); refine blk_far ?_ NB384_397.out _; (with_reducible repeat refine bu ?_); exact BK384.out⟩
      have n2_ : Aside0 ((w35.setCell ⟨gb397, 0, none⟩ (.slice Ao36 t393.length co36)).heap[gb385]? = some (.cells #[.slice none 0 0] 25 (0, 0))) := ⟨by (with_reducible repeat refine bu ?_); refine blk_far ?_ NB385_397.out _; (with_reducible repeat refine bu ?_); exact BK385.out⟩
      have n3_ : Aside0 ((w35.setCell ⟨gb397, 0, none⟩ (.slice Ao36 t393.length co36)).heap[gb389]? = some (.cells #[.int .i64 t386, .int .i64 t387] 34 (0, 0))) := ⟨by (with_reducible repeat refine bu ?_); refine blk_far ?_ NB389_397.out _; (with_reducible repeat refine bu ?_); exact BK389.out⟩
      have n4_ : Aside0 ((w35.setCell ⟨gb397, 0, none⟩ (.slice Ao36 t393.length co36)).heap[gb397]? = some (.cells #[.slice Ao36 t393.length co36] 25 (0, 0))) := ⟨by (with_reducible repeat refine bu ?_); refine blk_put (cs := #[.slice none 0 0]) ?_ 0 _ rfl; (with_reducible repeat refine bu ?_); exact BK397.out⟩
      have n5_ : Aside0 (Below w.heap.size w (w35.setCell ⟨gb397, 0, none⟩ (.slice Ao36 t393.length co36))) := ⟨by repeat (first | (with_reducible first | exact HB.out | apply below_alloc | apply pw_below_drewN | apply below_drew1 | refine below_set ?_ GE384.out | refine below_set ?_ GE385.out | refine below_set ?_ GE389.out | refine below_set ?_ GE397.out) | exact HB.out)⟩
      (try clear HO395)
      (try clear BK384)
      (try clear BK385)
      (try clear BK389)
      (try clear BK397)
      (try clear HB)
      generalize (w35.setCell ⟨gb397, 0, none⟩ (.slice Ao36 t393.length co36)) = w41 at n0_ n1_ n2_ n3_ n4_ n5_ ⊢
      have HO395 := n0_
      have BK384 := n1_
      have BK385 := n2_
      have BK389 := n3_
      have BK397 := n4_
      have HB := n5_
      clear n0_ n1_ n2_ n3_ n4_ n5_
      have n0_ := Aside0.mk (Kd.R_drew HO395.out)
      have n1_ := Aside0.mk (blk_drew BK384.out)
      have n2_ := Aside0.mk (blk_drew BK385.out)
      have n3_ := Aside0.mk (blk_drew BK389.out)
      have n4_ := Aside0.mk (blk_drew BK397.out)
      have n5_ := Aside0.mk (below_drew1 HB.out)
      clear HO395
      clear BK384
      clear BK385
      clear BK389
      clear BK397
      clear HB
      have HO395 := n0_
      have BK384 := n1_
      have BK385 := n2_
      have BK389 := n3_
      have BK397 := n4_
      have HB := n5_
      clear n0_ n1_ n2_ n3_ n4_ n5_
      refine start_ (n := 6) (S := fun w' => w'.cell? ⟨gb397, 0, none⟩ = some (.slice Ao36 t393.length co36)) (ds := []) #[false, false, false, false, false, false] (by kernel_rfl) rfl rfl ((blk_cell BK397.out 0).trans rfl) (fun hHeld => ?_)
      generalize w41.drew = w42 at HO395 BK384 BK385 BK389 BK397 HB hHeld ⊢
      refine pure_ (i := 1) (N := some 30) (v := ?_) (a' := ?_) #[false, true, false, false, false, false] rfl rfl (by kernel_rfl) (fun _ _ _ h => h) (Or.inl ⟨by rfl, ?_⟩) ?_ ?_
      rotate_left
      · intro w'
        go_simp
        with_reducible rfl
      rotate_left
      · simp only [Act.put, List.setIfInBounds_toArray, List.set_cons_zero, List.set_cons_succ, i64_w, i32_w]
        rfl
      refine pure_ (i := 2) (N := some 31) (v := ?_) (a' := ?_) #[false, true, true, false, false, false] rfl rfl (by kernel_rfl) (fun _ _ _ h => h) (Or.inl ⟨by rfl, ?_⟩) ?_ ?_
      rotate_left
      · intro w'
        go_simp
        with_reducible rfl
      rotate_left
      · simp only [Act.put, List.setIfInBounds_toArray, List.set_cons_zero, List.set_cons_succ, i64_w, i32_w]
        rfl
      refine take_ (i := 0) (N := some 29) (v := ?_) (a' := ?_) #[true, true, true, false, false, false] rfl rfl (by kernel_rfl) (fun _ _ _ h => h) (Or.inl ⟨by rfl, ?_⟩) hHeld ?_ ?_
      rotate_left
      · intro w' s0
        go_simp
        with_reducible rfl
      rotate_left
      · simp only [Act.put, List.setIfInBounds_toArray, List.set_cons_zero, List.set_cons_succ, i64_w, i32_w]
        rfl
      refine one_ (i := 3) (N := some 32) #[true, true, true, true, false, false] rfl rfl (by kernel_rfl) (by decide) (fun K hK => ?_)
      refine goes_ Tryz.func24 (by kernel_rfl) rfl #[.agg #[.int .i64 50, .int .i64 t396]] (by rfl) rfl rfl (by (try simp only [List.map_toArray, List.map_cons, List.map_nil]); first | done | rfl | (simp only [List.length_drop, List.length_take]; rfl)) ?_
      with_reducible refine (impl_LinPort.calls 50 t396 t398 _ A24.out (EnvT.below hE.e.t (bl HB))).mono ?_
      rintro e w43 ⟨rfl, hb⟩
      refine ⟨_, rfl, ?_⟩
      have n0_ := Aside0.mk (Kd.R_below (rs HO395) hb)
      have n1_ := bkB BK384 hb
      have n2_ := bkB BK385 hb
      have n3_ := bkB BK389 hb
      have n4_ := bkB BK397 hb
      have n5_ := Aside0.mk (below_step (bl HB) hb)
      clear HO395
      clear BK384
      clear BK385
      clear BK389
      clear BK397
      clear HB
      have HO395 := n0_
      have BK384 := n1_
      have BK385 := n2_
      have BK389 := n3_
      have BK397 := n4_
      have HB := n5_
      clear n0_ n1_ n2_ n3_ n4_ n5_
      (try clear hb)
      (try clear hb2)
      (try clear hk)
      (try clear hi)
      refine hK.out _ _ ((blk_cell BK397.out 0).trans rfl) (fun hHeld => ?_)
      clear hK K
      refine norm_ (a' := ?_) ?_ ?_
      rotate_left
      · show Act.put _ (some 32) _ = _
        simp only [Act.put, List.setIfInBounds_toArray, List.set_cons_zero, List.set_cons_succ, i64_w, i32_w]
        rfl
      refine one_ (i := 4) (N := none) #[true, true, true, true, true, false] rfl rfl (by kernel_rfl) (by decide) (fun K hK => ?_)
      have hs44 : w43.cell? ⟨gb385, 0, none⟩ = some (.slice none 0 0) := (blk_cell BK385.out 0).trans rfl
      have hfs44 := blk_frozen BK385.out 0
      have hns44_0 := NB384_385.out
      have hns44_2 := NB389_385.out
      have hns44_3 := NB397_385.out
      have hms44_0 := NB385_384.out
      have hms44_2 := NB385_389.out
      have hms44_3 := NB385_397.out
      refine skip_ (w1 := ?_) (by rfl) rfl ?_ ?_
      rotate_left
      · go_simp
        rfl
      refine hK.out _ _ (((cell_far (p := ⟨gb385, _, none⟩) NB397_385.out _).trans (hHeld))) (fun hHeld => ?_)
      clear hK K
      refine pure_ (i := 5) (N := some 5) (v := ?_) (a' := ?_) #[true, true, true, true, true, true] rfl rfl (by kernel_rfl) (fun _ _ _ h => h) (Or.inl ⟨by rfl, ?_⟩) ?_ ?_
      rotate_left
      · intro w'
        go_simp
        with_reducible rfl
      rotate_left
      · simp only [Act.put, List.setIfInBounds_toArray, List.set_cons_zero, List.set_cons_succ, i64_w, i32_w]
        rfl
      refine done_ (by kernel_rfl) ?_
      try go_wp2
      refine bodyPost_ret (results_ct rfl _ _ gb385 25 #[.slice Ao36 t393.length co36] (0, 0) _ rfl (by (with_reducible repeat refine bu ?_); refine blk_put (cs := #[.slice none 0 0]) ?_ 0 _ rfl; (with_reducible repeat refine bu ?_); exact BK385.out) Tryz.underlying25 rfl (by kernel_rfl)) rfl ?_
      exact ⟨_, by first | rfl | (simp [errW_none, errW_some] <;> rfl) | (simp [*, errW_none, errW_some] <;> rfl), by (with_reducible repeat apply ru); exact Kd.R_mono (Kd.R_far (p := ⟨gb385, 0, none⟩) (Kd.R_types HO395.out BK385.out (by decide)) (fun _ hk => hk.2) (.slice Ao36 t393.length co36)) (fun _ hk => trivial), by repeat (first | (with_reducible first | exact HB.out | apply below_alloc | apply pw_below_drewN | apply below_drew1 | refine below_set ?_ GE384.out | refine below_set ?_ GE385.out | refine below_set ?_ GE389.out | refine below_set ?_ GE397.out) | exact HB.out)⟩
  · replace c4 := Bool.eq_false_iff.mpr c4
    subst c4
    have H1 : ((impl_MapTab_copied.f l0_0).bind fun t390 => (some (t390, a1))) = some (r1, r2) := by rw [if_neg (show ¬ (false = true) by decide)] at H; exact H
    clear H
    have H := H1
    clear H1
    replace H := Option.bind_eq_some_iff.mp H
    obtain ⟨t390, A450, H⟩ := H
    replace H : (some (t390, a1)) = some (r1, r2) := H
    have A45 := Aside0.mk A450
    clear A450
    simp only [Option.some.injEq, Prod.mk.injEq] at H
    obtain ⟨rfl, rfl⟩ := H
    go_enter Tryz.func45, Tryz.ntmps45
    go_wp2_with (first | ((with_reducible refine gate_dst (N := 2) rfl ?_); refine box_event ?hg (N := 2) ?hd (cs := #[.slice A0_0 l0_0.length c0_0]) (t := 25) ?hr ?_; (case hd => rfl); (case hg => rfl); (case hr => first | (go_simp; done) | (go_simp; rfl)); intro gb384 hg w46 hbox hb; have n0_ := Aside0.mk (below_step (bl HB) hb); have n1_ := Aside0.mk (hbox); have n2_ := Aside0.mk ((by rw [hg]; exact (below_size (bl HB)) : w.heap.size ≤ gb384)); have n3_ := Aside0.mk ((by rw [hg]; exact (below_size (bl HB)) : w.heap.size ≤ gb384)); clear HB; have HB := n0_; have BK384 := n1_; have GW384 := n2_; have GE384 := n3_; clear n0_ n1_ n2_ n3_; clear hb hbox hg) | ((with_reducible refine gate_dst (N := 4) rfl ?_); refine box_event ?hg (N := 4) ?hd (cs := #[.slice none 0 0]) (t := 25) ?hr ?_; (case hd => rfl); (case hg => rfl); (case hr => first | (go_simp; done) | (go_simp; rfl)); intro gb385 hg w47 hbox hb; have n0_ := bkB BK384 hb; have n1_ := Aside0.mk (below_step (bl HB) hb); have n2_ := Aside0.mk (hbox); have n3_ := Aside0.mk ((by rw [hg]; exact (below_size (bl HB)) : w.heap.size ≤ gb385)); have n4_ := Aside0.mk ((by rw [hg]; exact (below_size (bl HB)) : w.heap.size ≤ gb385)); have n5_ := Aside0.mk ((by rw [hg]; exact Nat.ne_of_lt (bkL BK384) : gb384 ≠ gb385)); have n6_ := Aside0.mk ((by rw [hg]; exact Nat.ne_of_gt (bkL BK384) : gb385 ≠ gb384)); clear BK384; clear HB; have BK384 := n0_; have HB := n1_; have BK385 := n2_; have GW385 := n3_; have GE385 := n4_; have NB384_385 := n5_; have NB385_384 := n6_; clear n0_ n1_ n2_ n3_ n4_ n5_ n6_; clear hb hbox hg) | ((with_reducible refine gate_callee (f := 19) rfl ?_); refine goesL_ (some 12) rfl rfl Tryz.func19 (by kernel_rfl) rfl #[.string a1] rfl (by (try simp only [List.map_toArray, List.map_cons, List.map_nil]); first | done | rfl | (simp only [List.length_drop, List.length_take]; rfl)) ?_; (with_reducible refine (impl_LinSays.calls a1 t386 t387 false _ A3.out (EnvE.below hE (bl HB))).mono ?_); rintro e w48 ⟨rfl, hb⟩; refine ⟨_, rfl, ?_⟩; have n0_ := bkB BK384 hb; have n1_ := bkB BK385 hb; have n2_ := Aside0.mk (below_step (bl HB) hb); clear BK384; clear BK385; clear HB; have BK384 := n0_; have BK385 := n1_; have HB := n2_; clear n0_ n1_ n2_; (try clear hb); (try clear hb2); (try clear hk); (try clear hi)) | ((with_reducible refine gate_dst (N := 6) rfl ?_); refine box_event ?hg (N := 6) ?hd (cs := #[.int .i64 0, .int .i64 0]) (t := 34) ?hr ?_; (case hd => rfl); (case hg => rfl); (case hr => first | (go_simp; done) | (go_simp; rfl)); intro gb389 hg w49 hbox hb; have n0_ := bkB BK384 hb; have n1_ := bkB BK385 hb; have n2_ := Aside0.mk (below_step (bl HB) hb); have n3_ := Aside0.mk (hbox); have n4_ := Aside0.mk ((by rw [hg]; exact (below_size (bl HB)) : w.heap.size ≤ gb389)); have n5_ := Aside0.mk ((by rw [hg]; exact (below_size (bl HB)) : w.heap.size ≤ gb389)); have n6_ := Aside0.mk ((by rw [hg]; exact Nat.ne_of_lt (bkL BK384) : gb384 ≠ gb389)); have n7_ := Aside0.mk ((by rw [hg]; exact Nat.ne_of_gt (bkL BK384) : gb389 ≠ gb384)); have n8_ := Aside0.mk ((by rw [hg]; exact Nat.ne_of_lt (bkL BK385) : gb385 ≠ gb389)); have n9_ := Aside0.mk ((by rw [hg]; exact Nat.ne_of_gt (bkL BK385) : gb389 ≠ gb385)); clear BK384; clear BK385; clear HB; have BK384 := n0_; have BK385 := n1_; have HB := n2_; have BK389 := n3_; have GW389 := n4_; have GE389 := n5_; have NB384_389 := n6_; have NB389_384 := n7_; have NB385_389 := n8_; have NB389_385 := n9_; clear n0_ n1_ n2_ n3_ n4_ n5_ n6_ n7_ n8_ n9_; clear hb hbox hg; have hnb50 := NB389_384.out; have hnc50 := NB384_389.out; have hnb51 := NB389_385.out; have hnc51 := NB385_389.out; have hcz52_0 : w49.cell? ⟨gb389, 0, none⟩ = some (.int .i64 0) := (blk_cell BK389.out 0).trans rfl; have hcz52_1 : w49.cell? ⟨gb389, 1, none⟩ = some (.int .i64 0) := (blk_cell BK389.out 1).trans rfl; have hfz52_0 := blk_frozen BK389.out 0; have hfz52_1 := blk_frozen BK389.out 1; have hnb53 := NB384_385.out; have hnc53 := NB385_384.out; have hcz54_0 : w49.cell? ⟨gb384, 0, none⟩ = some (.slice A0_0 l0_0.length c0_0) := (blk_cell BK384.out 0).trans rfl; have hfz54_0 := blk_frozen BK384.out 0) | ((with_reducible refine gate_callee (f := 77) rfl ?_); refine goesL_ (some 18) rfl rfl Tryz.func77 (by kernel_rfl) rfl #[.agg #[.slice A0_0 l0_0.length c0_0]] rfl (by (try simp only [List.map_toArray, List.map_cons, List.map_nil]); first | done | rfl | (simp only [List.length_drop, List.length_take]; rfl)) ?_; (with_reducible refine (impl_MapTab_copied.calls _ _ l0_0 t390 _ ?side1 ?side2 A45.out).mono ?_); (case side1 => exact Kd.C_below HR0_0.out (bl HB)); (case side2 => exact HC0_0.out); rintro e w55 ⟨v391, rfl, ho0, hb⟩; refine ⟨_, rfl, ?_⟩; have n0_ := Aside0.mk (Kd.R_lower (Kd.R_newB ho0 (g := gb389) (o := .cells #[.int .i64 t386, .int .i64 t387] 34 (0, 0)) (by (with_reducible repeat refine bu ?_); refine blk_put (cs := #[.int .i64 t386, .int .i64 0]) ?_ 1 _ rfl; (with_reducible repeat refine bu ?_); refine blk_put (cs := #[.int .i64 0, .int .i64 0]) ?_ 0 _ rfl; (with_reducible repeat refine bu ?_); exact BK389.out)) (below_size (bl HB))); have n1_ := Aside0.mk (blk_below (g := gb384) (o := .cells #[.slice A0_0 l0_0.length c0_0] 25 (0, 0)) (by (with_reducible repeat refine bu ?_); refine blk_far ?_ NB384_389.out _; (with_reducible repeat refine bu ?_); refine blk_far ?_ NB384_389.out _; (with_reducible repeat refine bu ?_); exact BK384.out) hb); have n2_ := Aside0.mk (blk_below (g := gb385) (o := .cells #[.slice none 0 0] 25 (0, 0)) (by (with_reducible repeat refine bu ?_); refine blk_far ?_ NB385_389.out _; (with_reducible repeat refine bu ?_); refine blk_far ?_ NB385_389.out _; (with_reducible repeat refine bu ?_); exact BK385.out) hb); have n3_ := Aside0.mk (blk_below (g := gb389) (o := .cells #[.int .i64 t386, .int .i64 t387] 34 (0, 0)) (by (with_reducible repeat refine bu ?_); refine blk_put (cs := #[.int .i64 t386, .int .i64 0]) ?_ 1 _ rfl; (with_reducible repeat refine bu ?_); refine blk_put (cs := #[.int .i64 0, .int .i64 0]) ?_ 0 _ rfl; (with_reducible repeat refine bu ?_); exact BK389.out) hb); have n4_ := Aside0.mk (below_step (bl HB) hb); clear BK384; clear BK385; clear BK389; clear HB; have HO392 := n0_; have BK384 := n1_; have BK385 := n2_; have BK389 := n3_; have HB := n4_; clear n0_ n1_ n2_ n3_ n4_; (try clear hb); (try clear hb2); (try clear hk); (try clear hi); (try clear ho0); obtain ⟨Ao56, co56, eo56⟩ := Kd.R_slice HO392.out; subst eo56; have hcz57_0 : w55.cell? ⟨gb385, 0, none⟩ = some (.slice none 0 0) := (blk_cell BK385.out 0).trans rfl; have hfz57_0 := blk_frozen BK385.out 0))
    refine bodyPost_ret (results_ct rfl _ _ gb385 25 #[.slice Ao56 t390.length co56] (0, 0) _ rfl (by (with_reducible repeat refine bu ?_); refine blk_put (cs := #[.slice none 0 0]) ?_ 0 _ rfl; (with_reducible repeat refine bu ?_); exact BK385.out) Tryz.underlying25 rfl (by kernel_rfl)) rfl ?_
    exact ⟨_, by first | rfl | (simp [errW_none, errW_some] <;> rfl) | (simp [*, errW_none, errW_some] <;> rfl), by (with_reducible repeat apply ru); exact Kd.R_mono (Kd.R_far (p := ⟨gb385, 0, none⟩) (Kd.R_types HO392.out BK385.out (by decide)) (fun _ hk => hk.2) (.slice Ao56 t390.length co56)) (fun _ hk => trivial), by repeat (first | (with_reducible first | exact HB.out | apply below_alloc | apply pw_below_drewN | apply below_drew1 | refine below_set ?_ GE384.out | refine below_set ?_ GE385.out | refine below_set ?_ GE389.out) | exact HB.out)⟩

end Go.Proofs.YtffmbccgcaghjaaGreatDoor.P
