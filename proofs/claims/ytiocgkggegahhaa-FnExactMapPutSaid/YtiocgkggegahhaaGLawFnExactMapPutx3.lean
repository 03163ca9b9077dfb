import Derived.Test.YtiocgkggegahhaaGLawFnExactMapPutx2
-- written by hw.py for this claim
namespace Go.Proofs.Ytiocgkggegahhaa.P
open Go.RowKit Go.Proofs.YtiocgkggegahhaaUFnExactMapPut.PrintWords Go.Proofs.YtiocgkggegahhaaUFnExactMapPut.PrintLast Go.Proofs.YtiocgkggegahhaaUFnExactMapPut.PrintMore
attribute [local go_sem] max2_int min2_int max_two min_two max_three min_three max_four min_four
set_option linter.unusedVariables false
set_option linter.unusedSimpArgs false

/-! ### spec_l3Put: function 69 -/
def spec_l3Put.f (k : Nat) (l0_0 : List (S29)) (a1_0 : Int) (a1_1 : Int) : Option ((List (S29)) × Int) := (spec_MapPort.f k l0_0 a1_0 a1_1).bind fun t521 => (if t521 > 0 then (some (l0_0, t521)) else (if (l0_0.length : Int) = 6 then (some (l0_0, 0)) else ((some (([] : List (S29)) : List (S29))).bind fun y522 => (if y522.length + l0_0.length < 8796093022208 then ((some (y522 ++ l0_0 : List (S29))).bind fun y525 => ((some (([(⟨a1_0, a1_1⟩ : S29)] : List (S29)) : List (S29))).bind fun y528 => (if y525.length + y528.length < 8796093022208 then ((some (y525 ++ y528 : List (S29))).bind fun y531 => (some (y531, wrap64 ((wrap64 (500 + (y531.length : Int))) - 1)))) else (none)))) else (none)))))
theorem spec_l3Put.mono : ∀ a0 a1 a2 k, LeO (spec_l3Put.f k a0 a1 a2) (spec_l3Put.f (k + 1) a0 a1 a2) := by
  intro a0 a1 a2 k
  unfold spec_l3Put.f
  repeat' first
      | (with_reducible exact spec_MapPort.mono _ _ _ _)
      | (with_reducible exact LeO.refl _)
      | (with_reducible exact LeO.none _)
      | (with_reducible refine LeO.ite ?_ ?_)
      | (with_reducible refine LeO.bind ?_ (fun _ => ?_))
      | exact spec_MapPort.mono _ _ _ _
      | exact LeO.none _
      | refine LeO.ite ?_ ?_
      | refine LeO.bind ?_ (fun _ => ?_)
def spec_l3Put.T6 : Bool × List (List Nat × List Nat) := (true, [([], []), ([], []), ([1], [1]), ([0, 2], [0, 2]), ([], []), ([4], [4]), ([3, 5, 3], [3, 5]), ([0, 1, 2, 3, 4, 5, 6], []), ([7, 6, 6, 0, 1, 2, 3, 4, 5, 6], [6, 7])])
def spec_l3Put.B6 : List Nat := [0, 0, 2, 7, 0, 16, 63, 127, 255]
theorem spec_l3Put.tab6 : rtab .any (opsOf Try.f69 6) = spec_l3Put.T6 := by kernel_rfl
theorem spec_l3Put.bits6 : waitsOk spec_l3Put.T6.2 spec_l3Put.B6 = true := by kernel_rfl
def spec_l3Put.T7 : Bool × List (List Nat × List Nat) := (true, [([], []), ([], []), ([1], [1]), ([2], [2]), ([3], [3]), ([4], [4]), ([0, 0], [0]), ([5, 6, 0, 1, 2, 3, 4, 5, 6], [5])])
def spec_l3Put.B7 : List Nat := [0, 0, 2, 6, 14, 30, 1, 127]
theorem spec_l3Put.tab7 : rtab .any (opsOf Try.f69 7) = spec_l3Put.T7 := by kernel_rfl
theorem spec_l3Put.bits7 : waitsOk spec_l3Put.T7.2 spec_l3Put.B7 = true := by kernel_rfl
set_option maxHeartbeats 8000000 in
set_option maxRecDepth 100000 in
theorem spec_l3Put.calls (k : Nat) (P0_0_ : Nat → Prop) (u9000_ : Value) (l0_0 : List (S29)) (a1_0 : Int) (a1_1 : Int) (r1 : List (S29)) (r2 : Int) (w0 w : World) (hB : Below w0.heap.size w0 w) (ho0_0 : Kd.R k29 29 w w0.heap.size P0_0_ u9000_ l0_0) (h : spec_l3Put.f k l0_0 a1_0 a1_1 = some (r1, r2)) :
    Calls Try.prog 69 #[.agg #[u9000_], .agg #[.int .i64 a1_0, .int .i64 a1_1]] w fun e w' => ∃ v0_ : Value, e = .returned (.tuple #[.agg #[v0_], .int .i64 r2]) ∧ Kd.R k29 29 w' w0.heap.size (fun k_ => (P0_0_ k_ ∨ w.heap.size ≤ k_)) v0_ r1 ∧ Below w0.heap.size w0 w' ∧ Kept w w' (fun k_ => P0_0_ k_) := by
  have hu45 := Try.underlying45
  have hu29 := Try.underlying29
  have HO0_0 := Aside0.mk (show Kd.R k29 29 w w0.heap.size (fun k_ => (P0_0_ k_ ∨ w.heap.size ≤ k_)) u9000_ l0_0 from Kd.R_mono ho0_0 (fun k_ hk => (.inl hk)))
  have HK := Aside0.mk (Kept.refl w (fun k_ => P0_0_ k_))
  have HW0 := Aside0.mk hB.size
  have HB := Aside0.mk hB
  clear hB
  have H : ((spec_MapPort.f k l0_0 a1_0 a1_1).bind fun t521 => (if t521 > 0 then (some (l0_0, t521)) else (if (l0_0.length : Int) = 6 then (some (l0_0, 0)) else ((some (([] : List (S29)) : List (S29))).bind fun y522 => (if y522.length + l0_0.length < 8796093022208 then ((some (y522 ++ l0_0 : List (S29))).bind fun y525 => ((some (([(⟨a1_0, a1_1⟩ : S29)] : List (S29)) : List (S29))).bind fun y528 => (if y525.length + y528.length < 8796093022208 then ((some (y525 ++ y528 : List (S29))).bind fun y531 => (some (y531, wrap64 ((wrap64 (500 + (y531.length : Int))) - 1)))) else (none)))) else (none)))))) = some (r1, r2) := h
  clear h
  replace H := Option.bind_eq_some_iff.mp H
  obtain ⟨t521, A30, H⟩ := H
  replace H : (if t521 > 0 then (some (l0_0, t521)) else (if (l0_0.length : Int) = 6 then (some (l0_0, 0)) else ((some (([] : List (S29)) : List (S29))).bind fun y522 => (if y522.length + l0_0.length < 8796093022208 then ((some (y522 ++ l0_0 : List (S29))).bind fun y525 => ((some (([(⟨a1_0, a1_1⟩ : S29)] : List (S29)) : List (S29))).bind fun y528 => (if y525.length + y528.length < 8796093022208 then ((some (y525 ++ y528 : List (S29))).bind fun y531 => (some (y531, wrap64 ((wrap64 (500 + (y531.length : Int))) - 1)))) else (none)))) else (none))))) = some (r1, r2) := H
  have A3 := Aside0.mk A30
  clear A30
  by_cases c4 : t521 > 0
  · rw [if_pos c4] at H
    have c4b0 : decide (0 < t521) = true := decide_eq_true c4
    clear c4
    simp only [Option.some.injEq, Prod.mk.injEq] at H
    obtain ⟨rfl, rfl⟩ := H
    obtain ⟨Ao5, co5, eo5⟩ := Kd.R_slice HO0_0.out
    subst eo5
    go_enter Try.func69, Try.ntmps69
    go_wp2_with (first | ((with_reducible refine gate_dst (N := 2) rfl ?_); refine box_event ?hg (N := 2) ?hd (cs := #[.slice Ao5 l0_0.length co5]) (t := 45) ?hr ?_; (case hd => rfl); (case hg => rfl); (case hr => first | (go_simp; done) | (go_simp; rfl)); intro gb518 hg w6 hbox hb; have n0_ := Aside0.mk (Kd.R_below (rs HO0_0) hb); have n1_ := Aside0.mk (Kept.below (S := (fun k_ => P0_0_ k_)) (by repeat (first | (with_reducible first | exact HK.out | apply Kept.alloc | apply Kept.drewN | apply Kept.drew) | exact HK.out)) hb); have n2_ := Aside0.mk (below_step (bl HB) hb); have n3_ := Aside0.mk (hbox); have n4_ := Aside0.mk ((by rw [hg]; exact (by first | exact HK.out.1 | exact (show Kept w _ (fun k_ => P0_0_ k_) from by repeat (first | (with_reducible first | exact HK.out | apply Kept.alloc | apply Kept.drewN | apply Kept.drew) | exact HK.out)).1) : w.heap.size ≤ gb518)); have n5_ := Aside0.mk ((by rw [hg]; exact (below_size (bl HB)) : w0.heap.size ≤ gb518)); clear HO0_0; clear HK; clear HB; have HO0_0 := n0_; have HK := n1_; have HB := n2_; have BK518 := n3_; have GW518 := n4_; have GE518 := n5_; clear n0_ n1_ n2_ n3_ n4_ n5_; clear hb hbox hg) | ((with_reducible refine gate_dst (N := 3) rfl ?_); refine box_event ?hg (N := 3) ?hd (cs := #[.int .i64 a1_0, .int .i64 a1_1]) (t := 29) ?hr ?_; (case hd => rfl); (case hg => rfl); (case hr => first | (go_simp; done) | (go_simp; rfl)); intro gb519 hg w7 hbox hb; have n0_ := Aside0.mk (Kd.R_below (Kd.R_elderB (rs HO0_0) gb519 (Nat.le_of_eq hg.symm)) hb); have n1_ := bkB BK518 hb; have n2_ := Aside0.mk (Kept.below (S := (fun k_ => P0_0_ k_)) (by repeat (first | (with_reducible first | exact HK.out | apply Kept.alloc | apply Kept.drewN | apply Kept.drew | refine Kept.setCell ?_ (.inr GW518.out) _) | exact HK.out)) hb); have n3_ := Aside0.mk (below_step (bl HB) hb); have n4_ := Aside0.mk (hbox); have n5_ := Aside0.mk ((by rw [hg]; exact (by first | exact HK.out.1 | exact (show Kept w _ (fun k_ => P0_0_ k_) from by repeat (first | (with_reducible first | exact HK.out | apply Kept.alloc | apply Kept.drewN | apply Kept.drew | refine Kept.setCell ?_ (.inr GW518.out) _) | exact HK.out)).1) : w.heap.size ≤ gb519)); have n6_ := Aside0.mk ((by rw [hg]; exact (below_size (bl HB)) : w0.heap.size ≤ gb519)); have n7_ := Aside0.mk ((by rw [hg]; exact Nat.ne_of_lt (bkL BK518) : gb518 ≠ gb519)); have n8_ := Aside0.mk ((by rw [hg]; exact Nat.ne_of_gt (bkL BK518) : gb519 ≠ gb518)); clear HO0_0; clear BK518; clear HK; clear HB; have HO0_0 := n0_; have BK518 := n1_; have HK := n2_; have HB := n3_; have BK519 := n4_; have GW519 := n5_; have GE519 := n6_; have NB518_519 := n7_; have NB519_518 := n8_; clear n0_ n1_ n2_ n3_ n4_ n5_ n6_ n7_ n8_; clear hb hbox hg) | ((with_reducible refine gate_dst (N := 4) rfl ?_); refine box_event ?hg (N := 4) ?hd (cs := #[.slice none 0 0]) (t := 45) ?hr ?_; (case hd => rfl); (case hg => rfl); (case hr => first | (go_simp; done) | (go_simp; rfl)); intro gb520 hg w8 hbox hb; have n0_ := Aside0.mk (Kd.R_below (rs HO0_0) hb); have n1_ := bkB BK518 hb; have n2_ := bkB BK519 hb; have n3_ := Aside0.mk (Kept.below (S := (fun k_ => P0_0_ k_)) (by repeat (first | (with_reducible first | exact HK.out | apply Kept.alloc | apply Kept.drewN | apply Kept.drew | refine Kept.setCell ?_ (.inr GW518.out) _ | refine Kept.setCell ?_ (.inr GW519.out) _) | exact HK.out)) hb); have n4_ := Aside0.mk (below_step (bl HB) hb); have n5_ := Aside0.mk (hbox); have n6_ := Aside0.mk ((by rw [hg]; exact (by first | exact HK.out.1 | exact (show Kept w _ (fun k_ => P0_0_ k_) from by repeat (first | (with_reducible first | exact HK.out | apply Kept.alloc | apply Kept.drewN | apply Kept.drew | refine Kept.setCell ?_ (.inr GW518.out) _ | refine Kept.setCell ?_ (.inr GW519.out) _) | exact HK.out)).1) : w.heap.size ≤ gb520)); have n7_ := Aside0.mk ((by rw [hg]; exact (below_size (bl HB)) : w0.heap.size ≤ gb520)); have n8_ := Aside0.mk ((by rw [hg]; exact Nat.ne_of_lt (bkL BK518) : gb518 ≠ gb520)); have n9_ := Aside0.mk ((by rw [hg]; exact Nat.ne_of_gt (bkL BK518) : gb520 ≠ gb518)); have n10_ := Aside0.mk ((by rw [hg]; exact Nat.ne_of_lt (bkL BK519) : gb519 ≠ gb520)); have n11_ := Aside0.mk ((by rw [hg]; exact Nat.ne_of_gt (bkL BK519) : gb520 ≠ gb519)); clear HO0_0; clear BK518; clear BK519; clear HK; clear HB; have HO0_0 := n0_; have BK518 := n1_; have BK519 := n2_; have HK := n3_; have HB := n4_; have BK520 := n5_; have GW520 := n6_; have GE520 := n7_; have NB518_520 := n8_; have NB520_518 := n9_; have NB519_520 := n10_; have NB520_519 := n11_; clear n0_ n1_ n2_ n3_ n4_ n5_ n6_ n7_ n8_ n9_ n10_ n11_; clear hb hbox hg; have hnb9 := NB518_519.out; have hnc9 := NB519_518.out; have hnb10 := NB518_520.out; have hnc10 := NB520_518.out; have hcz11_0 : w8.cell? ⟨gb518, 0, none⟩ = some (.slice Ao5 l0_0.length co5) := (blk_cell BK518.out 0).trans rfl; have hfz11_0 := blk_frozen BK518.out 0; have hnb12 := NB519_520.out; have hnc12 := NB520_519.out; have hcz13_0 : w8.cell? ⟨gb519, 0, none⟩ = some (.int .i64 a1_0) := (blk_cell BK519.out 0).trans rfl; have hcz13_1 : w8.cell? ⟨gb519, 1, none⟩ = some (.int .i64 a1_1) := (blk_cell BK519.out 1).trans rfl; have hfz13_0 := blk_frozen BK519.out 0; have hfz13_1 := blk_frozen BK519.out 1) | ((with_reducible refine gate_callee (f := 95) rfl ?_); refine goesL_ (some 9) rfl rfl Try.func95 (by kernel_rfl) rfl #[.agg #[.slice Ao5 l0_0.length co5], .agg #[.int .i64 a1_0, .int .i64 a1_1]] rfl (by (try simp only [List.map_toArray, List.map_cons, List.map_nil]); first | done | rfl | (simp only [List.length_drop, List.length_take]; rfl)) ?_; (with_reducible refine (spec_MapPort.calls k _ _ l0_0 a1_0 a1_1 t521 _ ?side1 ?side2 A3.out).mono ?_); (case side1 => repeat (first | exact (Kd.R_reads' HO0_0.out).2.2 | (with_reducible refine Kd.C_alloc ?_ _) | (with_reducible refine Kd.C_drewN ?_ _) | (with_reducible refine Kd.C_drew ?_))); (case side2 => exact (Kd.R_reads' HO0_0.out).2.1); rintro e w14 ⟨rfl, hb⟩; refine ⟨_, rfl, ?_⟩; have n0_ := Aside0.mk (Kd.R_below (rs HO0_0) hb); have n1_ := bkB BK518 hb; have n2_ := bkB BK519 hb; have n3_ := bkB BK520 hb; have n4_ := Aside0.mk (Kept.below (S := (fun k_ => P0_0_ k_)) (by repeat (first | (with_reducible first | exact HK.out | apply Kept.alloc | apply Kept.drewN | apply Kept.drew | refine Kept.setCell ?_ (.inr GW518.out) _ | refine Kept.setCell ?_ (.inr GW519.out) _ | refine Kept.setCell ?_ (.inr GW520.out) _) | exact HK.out)) hb); have n5_ := Aside0.mk (below_step (bl HB) hb); clear HO0_0; clear BK518; clear BK519; clear BK520; clear HK; clear HB; have HO0_0 := n0_; have BK518 := n1_; have BK519 := n2_; have BK520 := n3_; have HK := n4_; have HB := n5_; clear n0_ n1_ n2_ n3_ n4_ n5_; (try clear hb); (try clear hb2); (try clear hk); (try clear hi); have hcz15_0 : w14.cell? ⟨gb518, 0, none⟩ = some (.slice Ao5 l0_0.length co5) := (blk_cell BK518.out 0).trans rfl; have hfz15_0 := blk_frozen BK518.out 0; have hcz16_0 : w14.cell? ⟨gb520, 0, none⟩ = some (.slice none 0 0) := (blk_cell BK520.out 0).trans rfl; have hfz16_0 := blk_frozen BK520.out 0))
    refine bodyPost_ret (results_ct rfl _ _ gb520 45 #[.slice Ao5 l0_0.length co5] (0, 0) _ rfl (by (with_reducible repeat refine bu ?_); refine blk_put (cs := #[.slice none 0 0]) ?_ 0 _ rfl; (with_reducible repeat refine bu ?_); exact BK520.out) Try.underlying45 rfl (by kernel_rfl)) rfl ?_
    exact ⟨_, by first | rfl | (simp [errW_none, errW_some] <;> rfl) | (simp [*, errW_none, errW_some] <;> rfl), by (with_reducible repeat apply ru); exact Kd.R_mono (Kd.R_far (p := ⟨gb520, 0, none⟩) (Kd.R_types HO0_0.out BK520.out (by decide)) (fun _ hk => hk.2) (.slice Ao5 l0_0.length co5)) (fun _ hk => hk.1.1), by repeat (first | (with_reducible first | exact HB.out | apply below_alloc | apply pw_below_drewN | apply below_drew1 | refine below_set ?_ GE518.out | refine below_set ?_ GE519.out | refine below_set ?_ GE520.out) | exact HB.out), by repeat (first | (with_reducible first | exact HK.out | apply Kept.alloc | apply Kept.drewN | apply Kept.drew | refine Kept.setCell ?_ (.inr GW518.out) _ | refine Kept.setCell ?_ (.inr GW519.out) _ | refine Kept.setCell ?_ (.inr GW520.out) _) | exact HK.out)⟩
  · rw [if_neg c4] at H
    have c4b0 : decide (0 < t521) = false := decide_eq_false c4
    clear c4
    by_cases c17 : (l0_0.length : Int) = 6
    · rw [if_pos c17] at H
      have c17b0 : ((l0_0.length : Int) == 6) = true := beq_iff_eq.mpr c17
      have c17b1 : ((l0_0.length : Int) != 6) = false := bne_eq_false_iff_eq.mpr c17
      clear c17
      simp only [Option.some.injEq, Prod.mk.injEq] at H
      obtain ⟨rfl, rfl⟩ := H
      obtain ⟨Ao18, co18, eo18⟩ := Kd.R_slice HO0_0.out
      subst eo18
      go_enter Try.func69, Try.ntmps69
      go_wp2_with (first | ((with_reducible refine gate_dst (N := 2) rfl ?_); refine box_event ?hg (N := 2) ?hd (cs := #[.slice Ao18 l0_0.length co18]) (t := 45) ?hr ?_; (case hd => rfl); (case hg => rfl); (case hr => first | (go_simp; done) | (go_simp; rfl)); intro gb518 hg w19 hbox hb; have n0_ := Aside0.mk (Kd.R_below (rs HO0_0) hb); have n1_ := Aside0.mk (Kept.below (S := (fun k_ => P0_0_ k_)) (by repeat (first | (with_reducible first | exact HK.out | apply Kept.alloc | apply Kept.drewN | apply Kept.drew) | exact HK.out)) hb); have n2_ := Aside0.mk (below_step (bl HB) hb); have n3_ := Aside0.mk (hbox); have n4_ := Aside0.mk ((by rw [hg]; exact (by first | exact HK.out.1 | exact (show Kept w _ (fun k_ => P0_0_ k_) from by repeat (first | (with_reducible first | exact HK.out | apply Kept.alloc | apply Kept.drewN | apply Kept.drew) | exact HK.out)).1) : w.heap.size ≤ gb518)); have n5_ := Aside0.mk ((by rw [hg]; exact (below_size (bl HB)) : w0.heap.size ≤ gb518)); clear HO0_0; clear HK; clear HB; have HO0_0 := n0_; have HK := n1_; have HB := n2_; have BK518 := n3_; have GW518 := n4_; have GE518 := n5_; clear n0_ n1_ n2_ n3_ n4_ n5_; clear hb hbox hg) | ((with_reducible refine gate_dst (N := 3) rfl ?_); refine box_event ?hg (N := 3) ?hd (cs := #[.int .i64 a1_0, .int .i64 a1_1]) (t := 29) ?hr ?_; (case hd => rfl); (case hg => rfl); (case hr => first | (go_simp; done) | (go_simp; rfl)); intro gb519 hg w20 hbox hb; have n0_ := Aside0.mk (Kd.R_below (Kd.R_elderB (rs HO0_0) gb519 (Nat.le_of_eq hg.symm)) hb); have n1_ := bkB BK518 hb; have n2_ := Aside0.mk (Kept.below (S := (fun k_ => P0_0_ k_)) (by repeat (first | (with_reducible first | exact HK.out | apply Kept.alloc | apply Kept.drewN | apply Kept.drew | refine Kept.setCell ?_ (.inr GW518.out) _) | exact HK.out)) hb); have n3_ := Aside0.mk (below_step (bl HB) hb); have n4_ := Aside0.mk (hbox); have n5_ := Aside0.mk ((by rw [hg]; exact (by first | exact HK.out.1 | exact (show Kept w _ (fun k_ => P0_0_ k_) from by repeat (first | (with_reducible first | exact HK.out | apply Kept.alloc | apply Kept.drewN | apply Kept.drew | refine Kept.setCell ?_ (.inr GW518.out) _) | exact HK.out)).1) : w.heap.size ≤ gb519)); have n6_ := Aside0.mk ((by rw [hg]; exact (below_size (bl HB)) : w0.heap.size ≤ gb519)); have n7_ := Aside0.mk ((by rw [hg]; exact Nat.ne_of_lt (bkL BK518) : gb518 ≠ gb519)); have n8_ := Aside0.mk ((by rw [hg]; exact Nat.ne_of_gt (bkL BK518) : gb519 ≠ gb518)); clear HO0_0; clear BK518; clear HK; clear HB; have HO0_0 := n0_; have BK518 := n1_; have HK := n2_; have HB := n3_; have BK519 := n4_; have GW519 := n5_; have GE519 := n6_; have NB518_519 := n7_; have NB519_518 := n8_; clear n0_ n1_ n2_ n3_ n4_ n5_ n6_ n7_ n8_; clear hb hbox hg) | ((with_reducible refine gate_dst (N := 4) rfl ?_); refine box_event ?hg (N := 4) ?hd (cs := #[.slice none 0 0]) (t := 45) ?hr ?_; (case hd => rfl); (case hg => rfl); (case hr => first | (go_simp; done) | (go_simp; rfl)); intro gb520 hg w21 hbox hb; have n0_ := Aside0.mk (Kd.R_below (rs HO0_0) hb); have n1_ := bkB BK518 hb; have n2_ := bkB BK519 hb; have n3_ := Aside0.mk (Kept.below (S := (fun k_ => P0_0_ k_)) (by repeat (first | (with_reducible first | exact HK.out | apply Kept.alloc | apply Kept.drewN | apply Kept.drew | refine Kept.setCell ?_ (.inr GW518.out) _ | refine Kept.setCell ?_ (.inr GW519.out) _) | exact HK.out)) hb); have n4_ := Aside0.mk (below_step (bl HB) hb); have n5_ := Aside0.mk (hbox); have n6_ := Aside0.mk ((by rw [hg]; exact (by first | exact HK.out.1 | exact (show Kept w _ (fun k_ => P0_0_ k_) from by repeat (first | (with_reducible first | exact HK.out | apply Kept.alloc | apply Kept.drewN | apply Kept.drew | refine Kept.setCell ?_ (.inr GW518.out) _ | refine Kept.setCell ?_ (.inr GW519.out) _) | exact HK.out)).1) : w.heap.size ≤ gb520)); have n7_ := Aside0.mk ((by rw [hg]; exact (below_size (bl HB)) : w0.heap.size ≤ gb520)); have n8_ := Aside0.mk ((by rw [hg]; exact Nat.ne_of_lt (bkL BK518) : gb518 ≠ gb520)); have n9_ := Aside0.mk ((by rw [hg]; exact Nat.ne_of_gt (bkL BK518) : gb520 ≠ gb518)); have n10_ := Aside0.mk ((by rw [hg]; exact Nat.ne_of_lt (bkL BK519) : gb519 ≠ gb520)); have n11_ := Aside0.mk ((by rw [hg]; exact Nat.ne_of_gt (bkL BK519) : gb520 ≠ gb519)); clear HO0_0; clear BK518; clear BK519; clear HK; clear HB; have HO0_0 := n0_; have BK518 := n1_; have BK519 := n2_; have HK := n3_; have HB := n4_; have BK520 := n5_; have GW520 := n6_; have GE520 := n7_; have NB518_520 := n8_; have NB520_518 := n9_; have NB519_520 := n10_; have NB520_519 := n11_; clear n0_ n1_ n2_ n3_ n4_ n5_ n6_ n7_ n8_ n9_ n10_ n11_; clear hb hbox hg; have hnb22 := NB518_519.out; have hnc22 := NB519_518.out; have hnb23 := NB518_520.out; have hnc23 := NB520_518.out; have hcz24_0 : w21.cell? ⟨gb518, 0, none⟩ = some (.slice Ao18 l0_0.length co18) := (blk_cell BK518.out 0).trans rfl; have hfz24_0 := blk_frozen BK518.out 0; have hnb25 := NB519_520.out; have hnc25 := NB520_519.out; have hcz26_0 : w21.cell? ⟨gb519, 0, none⟩ = some (.int .i64 a1_0) := (blk_cell BK519.out 0).trans rfl; have hcz26_1 : w21.cell? ⟨gb519, 1, none⟩ = some (.int .i64 a1_1) := (blk_cell BK519.out 1).trans rfl; have hfz26_0 := blk_frozen BK519.out 0; have hfz26_1 := blk_frozen BK519.out 1) | ((with_reducible refine gate_callee (f := 95) rfl ?_); refine goesL_ (some 9) rfl rfl Try.func95 (by kernel_rfl) rfl #[.agg #[.slice Ao18 l0_0.length co18], .agg #[.int .i64 a1_0, .int .i64 a1_1]] rfl (by (try simp only [List.map_toArray, List.map_cons, List.map_nil]); first | done | rfl | (simp only [List.length_drop, List.length_take]; rfl)) ?_; (with_reducible refine (spec_MapPort.calls k _ _ l0_0 a1_0 a1_1 t521 _ ?side1 ?side2 A3.out).mono ?_); (case side1 => repeat (first | exact (Kd.R_reads' HO0_0.out).2.2 | (with_reducible refine Kd.C_alloc ?_ _) | (with_reducible refine Kd.C_drewN ?_ _) | (with_reducible refine Kd.C_drew ?_))); (case side2 => exact (Kd.R_reads' HO0_0.out).2.1); rintro e w27 ⟨rfl, hb⟩; refine ⟨_, rfl, ?_⟩; have n0_ := Aside0.mk (Kd.R_below (rs HO0_0) hb); have n1_ := bkB BK518 hb; have n2_ := bkB BK519 hb; have n3_ := bkB BK520 hb; have n4_ := Aside0.mk (Kept.below (S := (fun k_ => P0_0_ k_)) (by repeat (first | (with_reducible first | exact HK.out | apply Kept.alloc | apply Kept.drewN | apply Kept.drew | refine Kept.setCell ?_ (.inr GW518.out) _ | refine Kept.setCell ?_ (.inr GW519.out) _ | refine Kept.setCell ?_ (.inr GW520.out) _) | exact HK.out)) hb); have n5_ := Aside0.mk (below_step (bl HB) hb); clear HO0_0; clear BK518; clear BK519; clear BK520; clear HK; clear HB; have HO0_0 := n0_; have BK518 := n1_; have BK519 := n2_; have BK520 := n3_; have HK := n4_; have HB := n5_; clear n0_ n1_ n2_ n3_ n4_ n5_; (try clear hb); (try clear hb2); (try clear hk); (try clear hi); have hcz28_0 : w27.cell? ⟨gb518, 0, none⟩ = some (.slice Ao18 l0_0.length co18) := (blk_cell BK518.out 0).trans rfl; have hfz28_0 := blk_frozen BK518.out 0; have hcz29_0 : w27.cell? ⟨gb520, 0, none⟩ = some (.slice none 0 0) := (blk_cell BK520.out 0).trans rfl; have hfz29_0 := blk_frozen BK520.out 0))
      refine bodyPost_ret (results_ct rfl _ _ gb520 45 #[.slice Ao18 l0_0.length co18] (0, 0) _ rfl (by (with_reducible repeat refine bu ?_); refine blk_put (cs := #[.slice none 0 0]) ?_ 0 _ rfl; (with_reducible repeat refine bu ?_); exact BK520.out) Try.underlying45 rfl (by kernel_rfl)) rfl ?_
      exact ⟨_, by first | rfl | (simp [errW_none, errW_some] <;> rfl) | (simp [*, errW_none, errW_some] <;> rfl), by (with_reducible repeat apply ru); exact Kd.R_mono (Kd.R_far (p := ⟨gb520, 0, none⟩) (Kd.R_types HO0_0.out BK520.out (by decide)) (fun _ hk => hk.2) (.slice Ao18 l0_0.length co18)) (fun _ hk => hk.1.1), by repeat (first | (with_reducible first | exact HB.out | apply below_alloc | apply pw_below_drewN | apply below_drew1 | refine below_set ?_ GE518.out | refine below_set ?_ GE519.out | refine below_set ?_ GE520.out) | exact HB.out), by repeat (first | (with_reducible first | exact HK.out | apply Kept.alloc | apply Kept.drewN | apply Kept.drew | refine Kept.setCell ?_ (.inr GW518.out) _ | refine Kept.setCell ?_ (.inr GW519.out) _ | refine Kept.setCell ?_ (.inr GW520.out) _) | exact HK.out)⟩
    · rw [if_neg c17] at H
      have c17b0 : ((l0_0.length : Int) == 6) = false := beq_eq_false_iff_ne.mpr c17
      have c17b1 : ((l0_0.length : Int) != 6) = true := bne_iff_ne.mpr c17
      obtain ⟨y522, hy522⟩ : ∃ y_ : List (S29), y_ = (([] : List (S29))) := ⟨_, rfl⟩
      replace H : (if y522.length + l0_0.length < 8796093022208 then ((some (y522 ++ l0_0 : List (S29))).bind fun y525 => ((some (([(⟨a1_0, a1_1⟩ : S29)] : List (S29)) : List (S29))).bind fun y528 => (if y525.length + y528.length < 8796093022208 then ((some (y525 ++ y528 : List (S29))).bind fun y531 => (some (y531, wrap64 ((wrap64 (500 + (y531.length : Int))) - 1)))) else (none)))) else (none)) = some (r1, r2) := by first | (rw [hy522]; with_reducible exact H) | (have H2_ := (Option.bind_some _ _).symm.trans H; rw [hy522]; with_reducible exact H2_) | (have H2_ := (Option.bind_some _ _).symm.trans H; with_reducible exact H2_) | with_reducible exact H | (rw [hy522]; exact H) | exact H
      have Ny522 := Aside0.mk hy522
      clear hy522
      by_cases c30 : y522.length + l0_0.length < 8796093022208
      · rw [if_pos c30] at H
        have LMc30 := Aside0.mk c30
        clear c30
        obtain ⟨y525, hy525⟩ : ∃ y_ : List (S29), y_ = (y522 ++ l0_0) := ⟨_, rfl⟩
        replace H : ((some (([(⟨a1_0, a1_1⟩ : S29)] : List (S29)) : List (S29))).bind fun y528 => (if y525.length + y528.length < 8796093022208 then ((some (y525 ++ y528 : List (S29))).bind fun y531 => (some (y531, wrap64 ((wrap64 (500 + (y531.length : Int))) - 1)))) else (none))) = some (r1, r2) := by first | (rw [hy525]; with_reducible exact H) | (have H2_ := (Option.bind_some _ _).symm.trans H; rw [hy525]; with_reducible exact H2_) | (have H2_ := (Option.bind_some _ _).symm.trans H; with_reducible exact H2_) | with_reducible exact H | (rw [hy525]; exact H) | exact H
        have Ny525 := Aside0.mk hy525
        clear hy525
        obtain ⟨y528, hy528⟩ : ∃ y_ : List (S29), y_ = (([(⟨a1_0, a1_1⟩ : S29)] : List (S29))) := ⟨_, rfl⟩
        replace H : (if y525.length + y528.length < 8796093022208 then ((some (y525 ++ y528 : List (S29))).bind fun y531 => (some (y531, wrap64 ((wrap64 (500 + (y531.length : Int))) - 1)))) else (none)) = some (r1, r2) := by first | (rw [hy528]; with_reducible exact H) | (have H2_ := (Option.bind_some _ _).symm.trans H; rw [hy528]; with_reducible exact H2_) | (have H2_ := (Option.bind_some _ _).symm.trans H; with_reducible exact H2_) | with_reducible exact H | (rw [hy528]; exact H) | exact H
        have Ny528 := Aside0.mk hy528
        clear hy528
        by_cases c31 : y525.length + y528.length < 8796093022208
        · rw [if_pos c31] at H
          have LMc31 := Aside0.mk c31
          clear c31
          obtain ⟨y531, hy531⟩ : ∃ y_ : List (S29), y_ = (y525 ++ y528) := ⟨_, rfl⟩
          replace H : (some (y531, wrap64 ((wrap64 (500 + (y531.length : Int))) - 1))) = some (r1, r2) := by first | (rw [hy531]; with_reducible exact H) | (have H2_ := (Option.bind_some _ _).symm.trans H; rw [hy531]; with_reducible exact H2_) | (have H2_ := (Option.bind_some _ _).symm.trans H; with_reducible exact H2_) | with_reducible exact H | (rw [hy531]; exact H) | exact H
          have Ny531 := Aside0.mk hy531
          clear hy531
          simp only [Option.some.injEq, Prod.mk.injEq] at H
          obtain ⟨rfl, rfl⟩ := H
          obtain ⟨Ao32, co32, eo32⟩ := Kd.R_slice HO0_0.out
          subst eo32
          go_enter Try.func69, Try.ntmps69
          try go_wp2_with (first | ((with_reducible refine gate_dst (N := 2) rfl ?_); refine box_event ?hg (N := 2) ?hd (cs := #[.slice Ao32 l0_0.length co32]) (t := 45) ?hr ?_; (case hd => rfl); (case hg => rfl); (case hr => first | (go_simp; done) | (go_simp; rfl)); intro gb518 hg w33 hbox hb; have n0_ := Aside0.mk (Kd.R_below (rs HO0_0) hb); have n1_ := Aside0.mk (Kept.below (S := (fun k_ => P0_0_ k_)) (by repeat (first | (with_reducible first | exact HK.out | apply Kept.alloc | apply Kept.drewN | apply Kept.drew) | exact HK.out)) hb); have n2_ := Aside0.mk (below_step (bl HB) hb); have n3_ := Aside0.mk (hbox); have n4_ := Aside0.mk ((by rw [hg]; exact (by first | exact HK.out.1 | exact (show Kept w _ (fun k_ => P0_0_ k_) from by repeat (first | (with_reducible first | exact HK.out | apply Kept.alloc | apply Kept.drewN | apply Kept.drew) | exact HK.out)).1) : w.heap.size ≤ gb518)); have n5_ := Aside0.mk ((by rw [hg]; exact (below_size (bl HB)) : w0.heap.size ≤ gb518)); clear HO0_0; clear HK; clear HB; have HO0_0 := n0_; have HK := n1_; have HB := n2_; have BK518 := n3_; have GW518 := n4_; have GE518 := n5_; clear n0_ n1_ n2_ n3_ n4_ n5_; clear hb hbox hg) | ((with_reducible refine gate_dst (N := 3) rfl ?_); refine box_event ?hg (N := 3) ?hd (cs := #[.int .i64 a1_0, .int .i64 a1_1]) (t := 29) ?hr ?_; (case hd => rfl); (case hg => rfl); (case hr => first | (go_simp; done) | (go_simp; rfl)); intro gb519 hg w34 hbox hb; have n0_ := Aside0.mk (Kd.R_below (Kd.R_elderB (rs HO0_0) gb519 (Nat.le_of_eq hg.symm)) hb); have n1_ := bkB BK518 hb; have n2_ := Aside0.mk (Kept.below (S := (fun k_ => P0_0_ k_)) (by repeat (first | (with_reducible first | exact HK.out | apply Kept.alloc | apply Kept.drewN | apply Kept.drew | refine Kept.setCell ?_ (.inr GW518.out) _) | exact HK.out)) hb); have n3_ := Aside0.mk (below_step (bl HB) hb); have n4_ := Aside0.mk (hbox); have n5_ := Aside0.mk ((by rw [hg]; exact (by first | exact HK.out.1 | exact (show Kept w _ (fun k_ => P0_0_ k_) from by repeat (first | (with_reducible first | exact HK.out | apply Kept.alloc | apply Kept.drewN | apply Kept.drew | refine Kept.setCell ?_ (.inr GW518.out) _) | exact HK.out)).1) : w.heap.size ≤ gb519)); have n6_ := Aside0.mk ((by rw [hg]; exact (below_size (bl HB)) : w0.heap.size ≤ gb519)); have n7_ := Aside0.mk ((by rw [hg]; exact Nat.ne_of_lt (bkL BK518) : gb518 ≠ gb519)); have n8_ := Aside0.mk ((by rw [hg]; exact Nat.ne_of_gt (bkL BK518) : gb519 ≠ gb518)); clear HO0_0; clear BK518; clear HK; clear HB; have HO0_0 := n0_; have BK518 := n1_; have HK := n2_; have HB := n3_; have BK519 := n4_; have GW519 := n5_; have GE519 := n6_; have NB518_519 := n7_; have NB519_518 := n8_; clear n0_ n1_ n2_ n3_ n4_ n5_ n6_ n7_ n8_; clear hb hbox hg) | ((with_reducible refine gate_dst (N := 4) rfl ?_); refine box_event ?hg (N := 4) ?hd (cs := #[.slice none 0 0]) (t := 45) ?hr ?_; (case hd => rfl); (case hg => rfl); (case hr => first | (go_simp; done) | (go_simp; rfl)); intro gb520 hg w35 hbox hb; have n0_ := Aside0.mk (Kd.R_below (rs HO0_0) hb); have n1_ := bkB BK518 hb; have n2_ := bkB BK519 hb; have n3_ := Aside0.mk (Kept.below (S := (fun k_ => P0_0_ k_)) (by repeat (first | (with_reducible first | exact HK.out | apply Kept.alloc | apply Kept.drewN | apply Kept.drew | refine Kept.setCell ?_ (.inr GW518.out) _ | refine Kept.setCell ?_ (.inr GW519.out) _) | exact HK.out)) hb); have n4_ := Aside0.mk (below_step (bl HB) hb); have n5_ := Aside0.mk (hbox); have n6_ := Aside0.mk ((by rw [hg]; exact (by first | exact HK.out.1 | exact (show Kept w _ (fun k_ => P0_0_ k_) from by repeat (first | (with_reducible first | exact HK.out | apply Kept.alloc | apply Kept.drewN | apply Kept.drew | refine Kept.setCell ?_ (.inr GW518.out) _ | refine Kept.setCell ?_ (.inr GW519.out) _) | exact HK.out)).1) : w.heap.size ≤ gb520)); have n7_ := Aside0.mk ((by rw [hg]; exact (below_size (bl HB)) : w0.heap.size ≤ gb520)); have n8_ := Aside0.mk ((by rw [hg]; exact Nat.ne_of_lt (bkL BK518) : gb518 ≠ gb520)); have n9_ := Aside0.mk ((by rw [hg]; exact Nat.ne_of_gt (bkL BK518) : gb520 ≠ gb518)); have n10_ := Aside0.mk ((by rw [hg]; exact Nat.ne_of_lt (bkL BK519) : gb519 ≠ gb520)); have n11_ := Aside0.mk ((by rw [hg]; exact Nat.ne_of_gt (bkL BK519) : gb520 ≠ gb519)); clear HO0_0; clear BK518; clear BK519; clear HK; clear HB; have HO0_0 := n0_; have BK518 := n1_; have BK519 := n2_; have HK := n3_; have HB := n4_; have BK520 := n5_; have GW520 := n6_; have GE520 := n7_; have NB518_520 := n8_; have NB520_518 := n9_; have NB519_520 := n10_; have NB520_519 := n11_; clear n0_ n1_ n2_ n3_ n4_ n5_ n6_ n7_ n8_ n9_ n10_ n11_; clear hb hbox hg; have hnb36 := NB518_519.out; have hnc36 := NB519_518.out; have hnb37 := NB518_520.out; have hnc37 := NB520_518.out; have hcz38_0 : w35.cell? ⟨gb518, 0, none⟩ = some (.slice Ao32 l0_0.length co32) := (blk_cell BK518.out 0).trans rfl; have hfz38_0 := blk_frozen BK518.out 0; have hnb39 := NB519_520.out; have hnc39 := NB520_519.out; have hcz40_0 : w35.cell? ⟨gb519, 0, none⟩ = some (.int .i64 a1_0) := (blk_cell BK519.out 0).trans rfl; have hcz40_1 : w35.cell? ⟨gb519, 1, none⟩ = some (.int .i64 a1_1) := (blk_cell BK519.out 1).trans rfl; have hfz40_0 := blk_frozen BK519.out 0; have hfz40_1 := blk_frozen BK519.out 1) | ((with_reducible refine gate_callee (f := 95) rfl ?_); refine goesL_ (some 9) rfl rfl Try.func95 (by kernel_rfl) rfl #[.agg #[.slice Ao32 l0_0.length co32], .agg #[.int .i64 a1_0, .int .i64 a1_1]] rfl (by (try simp only [List.map_toArray, List.map_cons, List.map_nil]); first | done | rfl | (simp only [List.length_drop, List.length_take]; rfl)) ?_; (with_reducible refine (spec_MapPort.calls k _ _ l0_0 a1_0 a1_1 t521 _ ?side1 ?side2 A3.out).mono ?_); (case side1 => repeat (first | exact (Kd.R_reads' HO0_0.out).2.2 | (with_reducible refine Kd.C_alloc ?_ _) | (with_reducible refine Kd.C_drewN ?_ _) | (with_reducible refine Kd.C_drew ?_))); (case side2 => exact (Kd.R_reads' HO0_0.out).2.1); rintro e w41 ⟨rfl, hb⟩; refine ⟨_, rfl, ?_⟩; have n0_ := Aside0.mk (Kd.R_below (rs HO0_0) hb); have n1_ := bkB BK518 hb; have n2_ := bkB BK519 hb; have n3_ := bkB BK520 hb; have n4_ := Aside0.mk (Kept.below (S := (fun k_ => P0_0_ k_)) (by repeat (first | (with_reducible first | exact HK.out | apply Kept.alloc | apply Kept.drewN | apply Kept.drew | refine Kept.setCell ?_ (.inr GW518.out) _ | refine Kept.setCell ?_ (.inr GW519.out) _ | refine Kept.setCell ?_ (.inr GW520.out) _) | exact HK.out)) hb); have n5_ := Aside0.mk (below_step (bl HB) hb); clear HO0_0; clear BK518; clear BK519; clear BK520; clear HK; clear HB; have HO0_0 := n0_; have BK518 := n1_; have BK519 := n2_; have BK520 := n3_; have HK := n4_; have HB := n5_; clear n0_ n1_ n2_ n3_ n4_ n5_; (try clear hb); (try clear hb2); (try clear hk); (try clear hi); have hcz42_0 : w41.cell? ⟨gb518, 0, none⟩ = some (.slice Ao32 l0_0.length co32) := (blk_cell BK518.out 0).trans rfl; have hfz42_0 := blk_frozen BK518.out 0))
          have n0_ := Aside0.mk (Kd.R_drew HO0_0.out)
          have n1_ := Aside0.mk (blk_drew BK518.out)
          have n2_ := Aside0.mk (blk_drew BK519.out)
          have n3_ := Aside0.mk (blk_drew BK520.out)
          have n4_ := Aside0.mk (Kept.drew HK.out)
          have n5_ := Aside0.mk (below_drew1 HB.out)
          clear HO0_0
          clear BK518
          clear BK519
          clear BK520
          clear HK
          clear HB
          have HO0_0 := n0_
          have BK518 := n1_
          have BK519 := n2_
          have BK520 := n3_
          have HK := n4_
          have HB := n5_
          clear n0_ n1_ n2_ n3_ n4_ n5_
          refine start_ (n := 9) (S := fun w' => w'.cell? ⟨gb518, 0, none⟩ = some (.slice Ao32 l0_0.length co32) ∧ w'.cell? ⟨gb519, 0, none⟩ = some (.int .i64 a1_0) ∧ w'.cell? ⟨gb519, 1, none⟩ = some (.int .i64 a1_1)) (ds := [8]) #[false, false, false, false, false, false, false, false, false] (by kernel_rfl) rfl rfl ⟨(blk_cell BK518.out 0).trans rfl, (blk_cell BK519.out 0).trans rfl, (blk_cell BK519.out 1).trans rfl⟩ (fun hHeld => ?_); refine with_tabW spec_l3Put.tab6 spec_l3Put.bits6 (fun HT_ HW_ => ?_)
          generalize w41.drew = w43 at HO0_0 BK518 BK519 BK520 HK HB hHeld ⊢
          refine pure_ (i := 1) (N := some 20) (v := ?_) (a' := ?_) #[false, true, false, false, false, false, false, false, false] rfl rfl (any_of HT_.out (by kernel_rfl)) (fun _ _ _ h => h) (Or.inl ⟨by rfl, ?_⟩) ?_ ?_
          rotate_left
          · intro w'
            go_simp
            with_reducible rfl
          rotate_left
          · simp only [Act.put, List.setIfInBounds_toArray, List.set_cons_zero, List.set_cons_succ, i64_w, i32_w]
            rfl
          refine take_ (i := 2) (N := some 21) (v := ?_) (a' := ?_) #[false, true, true, false, false, false, false, false, false] rfl rfl (take_ofW HT_.out HW_.out (by kernel_rfl)) (fun _ _ _ h => h) (Or.inl ⟨by rfl, ?_⟩) hHeld ?_ ?_
          rotate_left
          · rintro w' ⟨s0, s1, s2⟩
            go_simp
            with_reducible rfl
          rotate_left
          · simp only [Act.put, List.setIfInBounds_toArray, List.set_cons_zero, List.set_cons_succ, i64_w, i32_w]
            rfl
          refine take_ (i := 4) (N := some 23) (v := ?_) (a' := ?_) #[false, true, true, false, true, false, false, false, false] rfl rfl (take_ofW HT_.out HW_.out (by kernel_rfl)) (fun _ _ _ h => h) (Or.inl ⟨by rfl, ?_⟩) hHeld ?_ ?_
          rotate_left
          · rintro w' ⟨s0, s1, s2⟩
            go_simp
            with_reducible rfl
          rotate_left
          · simp only [Act.put, List.setIfInBounds_toArray, List.set_cons_zero, List.set_cons_succ, i64_w, i32_w]
            rfl
          refine join_ (σ := Value × Value × Value) 3 #[true, true, true, true, true, true, false, false, false] (fun s_ => [(19, s_.1), (22, s_.2.1), (24, s_.2.2)]) (fun s_ w' => (w'.cell? ⟨gb518, 0, none⟩ = some (.slice Ao32 l0_0.length co32) ∧ w'.cell? ⟨gb519, 0, none⟩ = some (.int .i64 a1_0) ∧ w'.cell? ⟨gb519, 1, none⟩ = some (.int .i64 a1_1)) ∧ (Kd.R k29 29 w' w0.heap.size (fun k_ => (P0_0_ k_ ∨ w.heap.size ≤ k_) ∧ some k_ ≠ (s_.2.1 : Value).ownBlock ∧ some k_ ≠ (s_.2.2 : Value).ownBlock ∧ k_ ≠ gb519) (.slice Ao32 l0_0.length co32) l0_0) ∧ (Kd.R k29 29 w' w0.heap.size (fun k_ => (P0_0_ k_ ∨ w.heap.size ≤ k_) ∧ some k_ ≠ (.slice Ao32 l0_0.length co32 : Value).ownBlock ∧ some k_ ≠ (s_.2.2 : Value).ownBlock ∧ k_ ≠ gb519) s_.2.1 y525) ∧ (Kd.R k29 29 w' w0.heap.size (fun k_ => (P0_0_ k_ ∨ w.heap.size ≤ k_) ∧ some k_ ≠ (.slice Ao32 l0_0.length co32 : Value).ownBlock ∧ some k_ ≠ (s_.2.1 : Value).ownBlock ∧ k_ ≠ gb519) s_.2.2 y528) ∧ (w'.heap[gb518]? = some (.cells #[.slice Ao32 l0_0.length co32] 45 (0, 0))) ∧ (w'.heap[gb519]? = some (.cells #[.int .i64 a1_0, .int .i64 a1_1] 29 (0, 0))) ∧ (w'.heap[gb520]? = some (.cells #[.slice none 0 0] 45 (0, 0))) ∧ (Kept w w' (fun k_ => P0_0_ k_)) ∧ (Below w0.heap.size w0 w')) ?_ ?_
          rotate_left
          · intro hCont
            refine two_ (i := 0) (j := 5) (Ni := some 19) (Nj := some 24) #[true, true, true, false, true, false, false, false, false] #[false, true, true, false, true, true, false, false, false] rfl rfl rfl rfl (two_of HT_.out (by kernel_rfl)) (by decide) (by decide) (fun K hK => ?_) (fun K hK => ?_)
            · skip
              refine Kd.R_lit_step k29 _ 29 ?hg (N := 19) ?hd (xs := ([] : List (S29))) (inner := []) (ok := fun _ => True) (okp := fun _ => True) ?hr ?hp (fun _ hk => hk) trivial (Below.refl _ _) (Nat.le_refl _) (by simp) ?_; (case hd => rfl); (case hg => rfl); (case hr => first | (go_simp; done) | (go_simp; rfl)); (case hp => exact (Reps.none _ _))
              intro v523 w44 ho45 hb hg_ hnew_
              clear hg_ hnew_
              (first | rw [← Ny522.out] at ho45 | (simp only [Int.reduceToNat] at ho45; rw [← Ny522.out] at ho45))
              have n0_ := Aside0.mk (Kd.R_elder' (rs HO0_0) (Kd.R_base ho45) hb)
              have n1_ := Aside0.mk (Kd.R_lower (Kd.R_newB (Kd.R_new' (Kd.R_newM (M := fun k_ => (P0_0_ k_ ∨ w.heap.size ≤ k_)) ho45 (by first | exact HK.out.1 | exact (show Kept w _ (fun k_ => P0_0_ k_) from by repeat (first | (with_reducible first | exact HK.out | apply Kept.alloc | apply Kept.drewN | apply Kept.drew | refine Kept.setCell ?_ (.inr GW518.out) _ | refine Kept.setCell ?_ (.inr GW519.out) _ | refine Kept.setCell ?_ (.inr GW520.out) _) | exact HK.out)).1) (fun k_ h_ => .inr h_)) (Kd.R_lt (rs HO0_0))) (g := gb519) (o := .cells #[.int .i64 a1_0, .int .i64 a1_1] 29 (0, 0)) (bk BK519)) (below_size (bl HB)))
              have n2_ := bkB BK518 hb
              have n3_ := bkB BK519 hb
              have n4_ := bkB BK520 hb
              have n5_ := Aside0.mk (Kept.below (S := (fun k_ => P0_0_ k_)) (by repeat (first | (with_reducible first | exact HK.out | apply Kept.alloc | apply Kept.drewN | apply Kept.drew | refine Kept.setCell ?_ (.inr GW518.out) _ | refine Kept.setCell ?_ (.inr GW519.out) _ | refine Kept.setCell ?_ (.inr GW520.out) _) | exact HK.out)) hb)
              have n6_ := Aside0.mk (below_step (bl HB) hb)
              clear HO0_0
              clear BK518
              clear BK519
              clear BK520
              clear HK
              clear HB
              have HO0_0 := n0_
              have HO524 := n1_
              have BK518 := n2_
              have BK519 := n3_
              have BK520 := n4_
              have HK := n5_
              have HB := n6_
              clear n0_ n1_ n2_ n3_ n4_ n5_ n6_
              clear hb ho45
              refine hK.out _ _ ⟨(blk_cell BK518.out 0).trans rfl, (blk_cell BK519.out 0).trans rfl, (blk_cell BK519.out 1).trans rfl⟩ (fun hHeld => ?_)
              clear hK K
              refine norm_ (a' := ?_) ?_ ?_
              rotate_left
              · show Act.put _ (some 19) _ = _
                simp only [Act.put, List.setIfInBounds_toArray, List.set_cons_zero, List.set_cons_succ, i64_w, i32_w]
                rfl
              refine two_ (i := 3) (j := 5) (Ni := some 22) (Nj := some 24) #[true, true, true, true, true, false, false, false, false] #[true, true, true, false, true, true, false, false, false] rfl rfl rfl rfl (two_of HT_.out (by kernel_rfl)) (by decide) (by decide) (fun K hK => ?_) (fun K hK => ?_)
              · skip
                refine Kd.R_append_rows_step k29 (w0 := w0) w0.heap.size (by rfl) (.tmp 19) (.tmp 21) 43 29 (.agg #[(.int .i64 0), (.int .i64 0)]) 16 rfl Try.underlying43 info29 rfl (by decide) (by omega) v523 y522 l0_0 _ _ _ (fun k_ => (P0_0_ k_ ∨ w.heap.size ≤ k_) ∧ some k_ ≠ (.slice Ao32 l0_0.length co32 : Value).ownBlock ∧ k_ ≠ gb519) (fun _ => False) rfl rfl ?aO ?aR (fun _ _ h => h) (fun _ h => h.elim) ?aF ?aB ?aS ?aL ?_
                (case aR => repeat (first | exact (Kd.R_reads' HO0_0.out).2.2 | (with_reducible refine Kd.C_alloc ?_ _) | (with_reducible refine Kd.C_drewN ?_ _) | (with_reducible refine Kd.C_drew ?_)))
                (case aB => exact (bl HB))
                (case aF => exact (fun k_ hk => ⟨(.inr (Nat.le_trans (by first | exact HK.out.1 | exact (show Kept w _ (fun k_ => P0_0_ k_) from by repeat (first | (with_reducible first | exact HK.out | apply Kept.alloc | apply Kept.drewN | apply Kept.drew | refine Kept.setCell ?_ (.inr GW518.out) _ | refine Kept.setCell ?_ (.inr GW519.out) _ | refine Kept.setCell ?_ (.inr GW520.out) _) | exact HK.out)).1) hk)), Kd.fresh' (Kd.R_lt (rs HO0_0)) k_ hk, Kd.freshB (g := gb519) (o := .cells #[.int .i64 a1_0, .int .i64 a1_1] 29 (0, 0)) (bk BK519) k_ hk⟩))
                (case aO => exact (by (with_reducible repeat apply ru); exact Kd.R_mono HO524.out (fun _ hk => ⟨hk.1.1.1, ⟨hk.1.2, hk.2⟩⟩)))
                (case aS => exact (below_size (bl HB)))
                (case aL => have := LMc30.out; omega)
                intro v526 w46 ho hb hg hat
                rw [← Ny525.out] at ho
                have n0_ := Aside0.mk (Kd.R_after (ok := (fun k_ => (P0_0_ k_ ∨ w.heap.size ≤ k_) ∧ k_ ≠ gb519)) (rs HO0_0) hg hat)
                have n1_ := Aside0.mk (blk_grown (g := gb518) (o := .cells #[.slice Ao32 l0_0.length co32] 45 (0, 0)) (bk BK518) hg (Kd.R_ne HO524.out BK518.out (by decide)))
                have n2_ := Aside0.mk (blk_grown (g := gb519) (o := .cells #[.int .i64 a1_0, .int .i64 a1_1] 29 (0, 0)) (bk BK519) hg (Kd.R_away HO524.out (fun _ hk => hk.2)))
                have n3_ := Aside0.mk (blk_grown (g := gb520) (o := .cells #[.slice none 0 0] 45 (0, 0)) (bk BK520) hg (Kd.R_ne HO524.out BK520.out (by decide)))
                have n4_ := Aside0.mk (hb)
                have n5_ := Aside0.mk (Kept.of_grown (S := (fun k_ => P0_0_ k_)) hg (by repeat (first | (with_reducible first | exact HK.out | apply Kept.alloc | apply Kept.drewN | apply Kept.drew | refine Kept.setCell ?_ (.inr GW518.out) _ | refine Kept.setCell ?_ (.inr GW519.out) _ | refine Kept.setCell ?_ (.inr GW520.out) _) | exact HK.out)) (fun k_ e_ => (HO524.out.1 k_ e_).1.1.1))
                have n6_ := Aside0.mk (ho)
                clear HO0_0
                clear BK518
                clear BK519
                clear BK520
                clear HB
                clear HK
                clear HO524
                have HO0_0 := n0_
                have BK518 := n1_
                have BK519 := n2_
                have BK520 := n3_
                have HB := n4_
                have HK := n5_
                have HO527 := n6_
                clear n0_ n1_ n2_ n3_ n4_ n5_ n6_
                clear ho hb hg hat
                refine hK.out _ _ ⟨(blk_cell BK518.out 0).trans rfl, (blk_cell BK519.out 0).trans rfl, (blk_cell BK519.out 1).trans rfl⟩ (fun hHeld => ?_)
                clear hK K
                refine norm_ (a' := ?_) ?_ ?_
                rotate_left
                · show Act.put _ (some 22) _ = _
                  simp only [Act.put, List.setIfInBounds_toArray, List.set_cons_zero, List.set_cons_succ, i64_w, i32_w]
                  rfl
                refine one_ (i := 5) (N := some 24) #[true, true, true, true, true, true, false, false, false] rfl rfl (one_of HT_.out (by kernel_rfl)) (by decide) (fun K hK => ?_)
                refine Kd.R_lit_step k29 _ 29 ?hg (N := 24) ?hd (xs := ([(⟨a1_0, a1_1⟩ : S29)] : List (S29))) (inner := [.int .i64 a1_0, .int .i64 a1_1]) (ok := fun _ => True) (okp := fun _ => True) ?hr ?hp (fun _ hk => hk) trivial (Below.refl _ _) (Nat.le_refl _) (by simp) ?_; (case hd => rfl); (case hg => rfl); (case hr => first | (go_simp; done) | (go_simp; rfl)); (case hp => exact (Reps.c2 (show Kd.M k29 _ _ _ (⟨a1_0, a1_1⟩ : S29) [.int .i64 a1_0, .int .i64 a1_1] from (k29_mkM _ _ _ (⟨a1_0, a1_1⟩ : S29) )) (Reps.none _ _)))
                intro v529 w47 ho48 hb hg_ hnew_
                clear hg_ hnew_
                (first | rw [← Ny528.out] at ho48 | (simp only [Int.reduceToNat] at ho48; rw [← Ny528.out] at ho48))
                have n0_ := Aside0.mk (Kd.R_elder' (rs HO0_0) (Kd.R_base ho48) hb)
                have n1_ := Aside0.mk (Kd.R_elder' (rs HO527) (Kd.R_base ho48) hb)
                have n2_ := Aside0.mk (Kd.R_lower (Kd.R_newB (Kd.R_new' (Kd.R_new' (Kd.R_newM (M := fun k_ => (P0_0_ k_ ∨ w.heap.size ≤ k_)) ho48 (by first | exact HK.out.1 | exact (show Kept w _ (fun k_ => P0_0_ k_) from by repeat (first | (with_reducible first | exact HK.out | apply Kept.alloc | apply Kept.drewN | apply Kept.drew | refine Kept.setCell ?_ (.inr GW518.out) _ | refine Kept.setCell ?_ (.inr GW519.out) _ | refine Kept.setCell ?_ (.inr GW520.out) _) | exact HK.out)).1) (fun k_ h_ => .inr h_)) (Kd.R_lt (rs HO0_0))) (Kd.R_lt (rs HO527))) (g := gb519) (o := .cells #[.int .i64 a1_0, .int .i64 a1_1] 29 (0, 0)) (bk BK519)) (below_size (bl HB)))
                have n3_ := bkB BK518 hb
                have n4_ := bkB BK519 hb
                have n5_ := bkB BK520 hb
                have n6_ := Aside0.mk (Kept.below (S := (fun k_ => P0_0_ k_)) (by repeat (first | (with_reducible first | exact HK.out | apply Kept.alloc | apply Kept.drewN | apply Kept.drew | refine Kept.setCell ?_ (.inr GW518.out) _ | refine Kept.setCell ?_ (.inr GW519.out) _ | refine Kept.setCell ?_ (.inr GW520.out) _) | exact HK.out)) hb)
                have n7_ := Aside0.mk (below_step (bl HB) hb)
                clear HO0_0
                clear HO527
                clear BK518
                clear BK519
                clear BK520
                clear HK
                clear HB
                have HO0_0 := n0_
                have HO527 := n1_
                have HO530 := n2_
                have BK518 := n3_
                have BK519 := n4_
                have BK520 := n5_
                have HK := n6_
                have HB := n7_
                clear n0_ n1_ n2_ n3_ n4_ n5_ n6_ n7_
                clear hb ho48
                refine hK.out _ _ ⟨(blk_cell BK518.out 0).trans rfl, (blk_cell BK519.out 0).trans rfl, (blk_cell BK519.out 1).trans rfl⟩ (fun hHeld => ?_)
                clear hK K
                refine norm_ (a' := ?_) ?_ ?_
                rotate_left
                · show Act.put _ (some 24) _ = _
                  simp only [Act.put, List.setIfInBounds_toArray, List.set_cons_zero, List.set_cons_succ, i64_w, i32_w]
                  rfl
                exact norm_ (by simp only [putAll, Act.put, List.setIfInBounds_toArray, List.set_cons_zero, List.set_cons_succ]) (hCont (v523, v526, v529) _ ⟨hHeld, (by (with_reducible repeat apply ru); exact Kd.R_mono HO0_0.out (fun _ hk => ⟨hk.1.1.1, ⟨hk.1.2, ⟨hk.2, hk.1.1.2⟩⟩⟩)), (by (with_reducible repeat apply ru); exact Kd.R_mono HO527.out (fun _ hk => ⟨hk.1.1, ⟨hk.1.2.1, ⟨hk.2, hk.1.2.2⟩⟩⟩)), (by (with_reducible repeat apply ru); exact Kd.R_mono HO530.out (fun _ hk => ⟨hk.1.1.1.1, ⟨hk.1.1.2, ⟨hk.1.2, hk.2⟩⟩⟩)), (bk BK518), (bk BK519), (bk BK520), (by repeat (first | (with_reducible first | exact HK.out | apply Kept.alloc | apply Kept.drewN | apply Kept.drew | refine Kept.setCell ?_ (.inr GW518.out) _ | refine Kept.setCell ?_ (.inr GW519.out) _ | refine Kept.setCell ?_ (.inr GW520.out) _) | exact HK.out)), (bl HB)⟩)
              · skip
                refine Kd.R_lit_step k29 _ 29 ?hg (N := 24) ?hd (xs := ([(⟨a1_0, a1_1⟩ : S29)] : List (S29))) (inner := [.int .i64 a1_0, .int .i64 a1_1]) (ok := fun _ => True) (okp := fun _ => True) ?hr ?hp (fun _ hk => hk) trivial (Below.refl _ _) (Nat.le_refl _) (by simp) ?_; (case hd => rfl); (case hg => rfl); (case hr => first | (go_simp; done) | (go_simp; rfl)); (case hp => exact (Reps.c2 (show Kd.M k29 _ _ _ (⟨a1_0, a1_1⟩ : S29) [.int .i64 a1_0, .int .i64 a1_1] from (k29_mkM _ _ _ (⟨a1_0, a1_1⟩ : S29) )) (Reps.none _ _)))
                intro v529 w46 ho47 hb hg_ hnew_
                clear hg_ hnew_
                (first | rw [← Ny528.out] at ho47 | (simp only [Int.reduceToNat] at ho47; rw [← Ny528.out] at ho47))
                have n0_ := Aside0.mk (Kd.R_elder' (rs HO0_0) (Kd.R_base ho47) hb)
                have n1_ := Aside0.mk (Kd.R_elder' (rs HO524) (Kd.R_base ho47) hb)
                have n2_ := Aside0.mk (Kd.R_lower (Kd.R_newB (Kd.R_new' (Kd.R_new' (Kd.R_newM (M := fun k_ => (P0_0_ k_ ∨ w.heap.size ≤ k_)) ho47 (by first | exact HK.out.1 | exact (show Kept w _ (fun k_ => P0_0_ k_) from by repeat (first | (with_reducible first | exact HK.out | apply Kept.alloc | apply Kept.drewN | apply Kept.drew | refine Kept.setCell ?_ (.inr GW518.out) _ | refine Kept.setCell ?_ (.inr GW519.out) _ | refine Kept.setCell ?_ (.inr GW520.out) _) | exact HK.out)).1) (fun k_ h_ => .inr h_)) (Kd.R_lt (rs HO0_0))) (Kd.R_lt (rs HO524))) (g := gb519) (o := .cells #[.int .i64 a1_0, .int .i64 a1_1] 29 (0, 0)) (bk BK519)) (below_size (bl HB)))
                have n3_ := bkB BK518 hb
                have n4_ := bkB BK519 hb
                have n5_ := bkB BK520 hb
                have n6_ := Aside0.mk (Kept.below (S := (fun k_ => P0_0_ k_)) (by repeat (first | (with_reducible first | exact HK.out | apply Kept.alloc | apply Kept.drewN | apply Kept.drew | refine Kept.setCell ?_ (.inr GW518.out) _ | refine Kept.setCell ?_ (.inr GW519.out) _ | refine Kept.setCell ?_ (.inr GW520.out) _) | exact HK.out)) hb)
                have n7_ := Aside0.mk (below_step (bl HB) hb)
                clear HO0_0
                clear HO524
                clear BK518
                clear BK519
                clear BK520
                clear HK
                clear HB
                have HO0_0 := n0_
                have HO524 := n1_
                have HO530 := n2_
                have BK518 := n3_
                have BK519 := n4_
                have BK520 := n5_
                have HK := n6_
                have HB := n7_
                clear n0_ n1_ n2_ n3_ n4_ n5_ n6_ n7_
                clear hb ho47
                refine hK.out _ _ ⟨(blk_cell BK518.out 0).trans rfl, (blk_cell BK519.out 0).trans rfl, (blk_cell BK519.out 1).trans rfl⟩ (fun hHeld => ?_)
                clear hK K
                refine norm_ (a' := ?_) ?_ ?_
                rotate_left
                · show Act.put _ (some 24) _ = _
                  simp only [Act.put, List.setIfInBounds_toArray, List.set_cons_zero, List.set_cons_succ, i64_w, i32_w]
                  rfl
                refine one_ (i := 3) (N := some 22) #[true, true, true, true, true, true, false, false, false] rfl rfl (one_of HT_.out (by kernel_rfl)) (by decide) (fun K hK => ?_)
                refine Kd.R_append_rows_step k29 (w0 := w0) w0.heap.size (by rfl) (.tmp 19) (.tmp 21) 43 29 (.agg #[(.int .i64 0), (.int .i64 0)]) 16 rfl Try.underlying43 info29 rfl (by decide) (by omega) v523 y522 l0_0 _ _ _ (fun k_ => (P0_0_ k_ ∨ w.heap.size ≤ k_) ∧ some k_ ≠ (.slice Ao32 l0_0.length co32 : Value).ownBlock ∧ some k_ ≠ (v529 : Value).ownBlock ∧ k_ ≠ gb519) (fun _ => False) rfl rfl ?aO ?aR (fun _ _ h => h) (fun _ h => h.elim) ?aF ?aB ?aS ?aL ?_
                (case aR => repeat (first | exact (Kd.R_reads' HO0_0.out).2.2 | (with_reducible refine Kd.C_alloc ?_ _) | (with_reducible refine Kd.C_drewN ?_ _) | (with_reducible refine Kd.C_drew ?_)))
                (case aB => exact (bl HB))
                (case aF => exact (fun k_ hk => ⟨(.inr (Nat.le_trans (by first | exact HK.out.1 | exact (show Kept w _ (fun k_ => P0_0_ k_) from by repeat (first | (with_reducible first | exact HK.out | apply Kept.alloc | apply Kept.drewN | apply Kept.drew | refine Kept.setCell ?_ (.inr GW518.out) _ | refine Kept.setCell ?_ (.inr GW519.out) _ | refine Kept.setCell ?_ (.inr GW520.out) _) | exact HK.out)).1) hk)), Kd.fresh' (Kd.R_lt (rs HO0_0)) k_ hk, Kd.fresh' (Kd.R_lt (rs HO530)) k_ hk, Kd.freshB (g := gb519) (o := .cells #[.int .i64 a1_0, .int .i64 a1_1] 29 (0, 0)) (bk BK519) k_ hk⟩))
                (case aO => exact (by (with_reducible repeat apply ru); exact Kd.R_mono HO524.out (fun _ hk => ⟨hk.1.1.1.1, ⟨hk.1.1.2, ⟨hk.2, hk.1.2⟩⟩⟩)))
                (case aS => exact (below_size (bl HB)))
                (case aL => have := LMc30.out; omega)
                intro v526 w48 ho hb hg hat
                rw [← Ny525.out] at ho
                have n0_ := Aside0.mk (Kd.R_after (ok := (fun k_ => (P0_0_ k_ ∨ w.heap.size ≤ k_) ∧ some k_ ≠ (v529 : Value).ownBlock ∧ k_ ≠ gb519)) (by (with_reducible repeat apply ru); exact Kd.R_mono HO0_0.out (fun _ hk => ⟨⟨hk.1.1.1, ⟨hk.2, hk.1.1.2⟩⟩, hk.1.2⟩)) hg hat)
                have n1_ := Aside0.mk (blk_grown (g := gb518) (o := .cells #[.slice Ao32 l0_0.length co32] 45 (0, 0)) (bk BK518) hg (Kd.R_ne HO524.out BK518.out (by decide)))
                have n2_ := Aside0.mk (blk_grown (g := gb519) (o := .cells #[.int .i64 a1_0, .int .i64 a1_1] 29 (0, 0)) (bk BK519) hg (Kd.R_away HO524.out (fun _ hk => hk.1.2)))
                have n3_ := Aside0.mk (blk_grown (g := gb520) (o := .cells #[.slice none 0 0] 45 (0, 0)) (bk BK520) hg (Kd.R_ne HO524.out BK520.out (by decide)))
                have n4_ := Aside0.mk (Kd.R_after (ok := (fun k_ => (P0_0_ k_ ∨ w.heap.size ≤ k_) ∧ some k_ ≠ (.slice Ao32 l0_0.length co32 : Value).ownBlock ∧ k_ ≠ gb519)) (by (with_reducible repeat apply ru); exact Kd.R_mono HO530.out (fun _ hk => ⟨⟨hk.1.1.1.1, ⟨hk.1.1.2, hk.2⟩⟩, hk.1.2⟩)) hg hat)
                have n5_ := Aside0.mk (hb)
                have n6_ := Aside0.mk (Kept.of_grown (S := (fun k_ => P0_0_ k_)) hg (by repeat (first | (with_reducible first | exact HK.out | apply Kept.alloc | apply Kept.drewN | apply Kept.drew | refine Kept.setCell ?_ (.inr GW518.out) _ | refine Kept.setCell ?_ (.inr GW519.out) _ | refine Kept.setCell ?_ (.inr GW520.out) _) | exact HK.out)) (fun k_ e_ => (HO524.out.1 k_ e_).1.1.1.1))
                have n7_ := Aside0.mk (ho)
                clear HO0_0
                clear BK518
                clear BK519
                clear BK520
                clear HO530
                clear HB
                clear HK
                clear HO524
                have HO0_0 := n0_
                have BK518 := n1_
                have BK519 := n2_
                have BK520 := n3_
                have HO530 := n4_
                have HB := n5_
                have HK := n6_
                have HO527 := n7_
                clear n0_ n1_ n2_ n3_ n4_ n5_ n6_ n7_
                clear ho hb hg hat
                refine hK.out _ _ ⟨(blk_cell BK518.out 0).trans rfl, (blk_cell BK519.out 0).trans rfl, (blk_cell BK519.out 1).trans rfl⟩ (fun hHeld => ?_)
                clear hK K
                refine norm_ (a' := ?_) ?_ ?_
                rotate_left
                · show Act.put _ (some 22) _ = _
                  simp only [Act.put, List.setIfInBounds_toArray, List.set_cons_zero, List.set_cons_succ, i64_w, i32_w]
                  rfl
                exact norm_ (by simp only [putAll, Act.put, List.setIfInBounds_toArray, List.set_cons_zero, List.set_cons_succ]) (hCont (v523, v526, v529) _ ⟨hHeld, (by (with_reducible repeat apply ru); exact Kd.R_mono HO0_0.out (fun _ hk => ⟨hk.1.1, ⟨hk.2, ⟨hk.1.2.1, hk.1.2.2⟩⟩⟩)), (rs HO527), (by (with_reducible repeat apply ru); exact Kd.R_mono HO530.out (fun _ hk => ⟨hk.1.1, ⟨hk.1.2.1, ⟨hk.2, hk.1.2.2⟩⟩⟩)), (bk BK518), (bk BK519), (bk BK520), (by repeat (first | (with_reducible first | exact HK.out | apply Kept.alloc | apply Kept.drewN | apply Kept.drew | refine Kept.setCell ?_ (.inr GW518.out) _ | refine Kept.setCell ?_ (.inr GW519.out) _ | refine Kept.setCell ?_ (.inr GW520.out) _) | exact HK.out)), (bl HB)⟩)
            · skip
              refine Kd.R_lit_step k29 _ 29 ?hg (N := 24) ?hd (xs := ([(⟨a1_0, a1_1⟩ : S29)] : List (S29))) (inner := [.int .i64 a1_0, .int .i64 a1_1]) (ok := fun _ => True) (okp := fun _ => True) ?hr ?hp (fun _ hk => hk) trivial (Below.refl _ _) (Nat.le_refl _) (by simp) ?_; (case hd => rfl); (case hg => rfl); (case hr => first | (go_simp; done) | (go_simp; rfl)); (case hp => exact (Reps.c2 (show Kd.M k29 _ _ _ (⟨a1_0, a1_1⟩ : S29) [.int .i64 a1_0, .int .i64 a1_1] from (k29_mkM _ _ _ (⟨a1_0, a1_1⟩ : S29) )) (Reps.none _ _)))
              intro v529 w44 ho45 hb hg_ hnew_
              clear hg_ hnew_
              (first | rw [← Ny528.out] at ho45 | (simp only [Int.reduceToNat] at ho45; rw [← Ny528.out] at ho45))
              have n0_ := Aside0.mk (Kd.R_elder' (rs HO0_0) (Kd.R_base ho45) hb)
              have n1_ := Aside0.mk (Kd.R_lower (Kd.R_newB (Kd.R_new' (Kd.R_newM (M := fun k_ => (P0_0_ k_ ∨ w.heap.size ≤ k_)) ho45 (by first | exact HK.out.1 | exact (show Kept w _ (fun k_ => P0_0_ k_) from by repeat (first | (with_reducible first | exact HK.out | apply Kept.alloc | apply Kept.drewN | apply Kept.drew | refine Kept.setCell ?_ (.inr GW518.out) _ | refine Kept.setCell ?_ (.inr GW519.out) _ | refine Kept.setCell ?_ (.inr GW520.out) _) | exact HK.out)).1) (fun k_ h_ => .inr h_)) (Kd.R_lt (rs HO0_0))) (g := gb519) (o := .cells #[.int .i64 a1_0, .int .i64 a1_1] 29 (0, 0)) (bk BK519)) (below_size (bl HB)))
              have n2_ := bkB BK518 hb
              have n3_ := bkB BK519 hb
              have n4_ := bkB BK520 hb
              have n5_ := Aside0.mk (Kept.below (S := (fun k_ => P0_0_ k_)) (by repeat (first | (with_reducible first | exact HK.out | apply Kept.alloc | apply Kept.drewN | apply Kept.drew | refine Kept.setCell ?_ (.inr GW518.out) _ | refine Kept.setCell ?_ (.inr GW519.out) _ | refine Kept.setCell ?_ (.inr GW520.out) _) | exact HK.out)) hb)
              have n6_ := Aside0.mk (below_step (bl HB) hb)
              clear HO0_0
              clear BK518
              clear BK519
              clear BK520
              clear HK
              clear HB
              have HO0_0 := n0_
              have HO530 := n1_
              have BK518 := n2_
              have BK519 := n3_
              have BK520 := n4_
              have HK := n5_
              have HB := n6_
              clear n0_ n1_ n2_ n3_ n4_ n5_ n6_
              clear hb ho45
              refine hK.out _ _ ⟨(blk_cell BK518.out 0).trans rfl, (blk_cell BK519.out 0).trans rfl, (blk_cell BK519.out 1).trans rfl⟩ (fun hHeld => ?_)
              clear hK K
              refine norm_ (a' := ?_) ?_ ?_
              rotate_left
              · show Act.put _ (some 24) _ = _
                simp only [Act.put, List.setIfInBounds_toArray, List.set_cons_zero, List.set_cons_succ, i64_w, i32_w]
                rfl
              refine one_ (i := 0) (N := some 19) #[true, true, true, false, true, true, false, false, false] rfl rfl (one_of HT_.out (by kernel_rfl)) (by decide) (fun K hK => ?_)
              refine Kd.R_lit_step k29 _ 29 ?hg (N := 19) ?hd (xs := ([] : List (S29))) (inner := []) (ok := fun _ => True) (okp := fun _ => True) ?hr ?hp (fun _ hk => hk) trivial (Below.refl _ _) (Nat.le_refl _) (by simp) ?_; (case hd => rfl); (case hg => rfl); (case hr => first | (go_simp; done) | (go_simp; rfl)); (case hp => exact (Reps.none _ _))
              intro v523 w46 ho47 hb hg_ hnew_
              clear hg_ hnew_
              (first | rw [← Ny522.out] at ho47 | (simp only [Int.reduceToNat] at ho47; rw [← Ny522.out] at ho47))
              have n0_ := Aside0.mk (Kd.R_elder' (rs HO0_0) (Kd.R_base ho47) hb)
              have n1_ := Aside0.mk (Kd.R_elder' (rs HO530) (Kd.R_base ho47) hb)
              have n2_ := Aside0.mk (Kd.R_lower (Kd.R_newB (Kd.R_new' (Kd.R_new' (Kd.R_newM (M := fun k_ => (P0_0_ k_ ∨ w.heap.size ≤ k_)) ho47 (by first | exact HK.out.1 | exact (show Kept w _ (fun k_ => P0_0_ k_) from by repeat (first | (with_reducible first | exact HK.out | apply Kept.alloc | apply Kept.drewN | apply Kept.drew | refine Kept.setCell ?_ (.inr GW518.out) _ | refine Kept.setCell ?_ (.inr GW519.out) _ | refine Kept.setCell ?_ (.inr GW520.out) _) | exact HK.out)).1) (fun k_ h_ => .inr h_)) (Kd.R_lt (rs HO0_0))) (Kd.R_lt (rs HO530))) (g := gb519) (o := .cells #[.int .i64 a1_0, .int .i64 a1_1] 29 (0, 0)) (bk BK519)) (below_size (bl HB)))
              have n3_ := bkB BK518 hb
              have n4_ := bkB BK519 hb
              have n5_ := bkB BK520 hb
              have n6_ := Aside0.mk (Kept.below (S := (fun k_ => P0_0_ k_)) (by repeat (first | (with_reducible first | exact HK.out | apply Kept.alloc | apply Kept.drewN | apply Kept.drew | refine Kept.setCell ?_ (.inr GW518.out) _ | refine Kept.setCell ?_ (.inr GW519.out) _ | refine Kept.setCell ?_ (.inr GW520.out) _) | exact HK.out)) hb)
              have n7_ := Aside0.mk (below_step (bl HB) hb)
              clear HO0_0
              clear HO530
              clear BK518
              clear BK519
              clear BK520
              clear HK
              clear HB
              have HO0_0 := n0_
              have HO530 := n1_
              have HO524 := n2_
              have BK518 := n3_
              have BK519 := n4_
              have BK520 := n5_
              have HK := n6_
              have HB := n7_
              clear n0_ n1_ n2_ n3_ n4_ n5_ n6_ n7_
              clear hb ho47
              refine hK.out _ _ ⟨(blk_cell BK518.out 0).trans rfl, (blk_cell BK519.out 0).trans rfl, (blk_cell BK519.out 1).trans rfl⟩ (fun hHeld => ?_)
              clear hK K
              refine norm_ (a' := ?_) ?_ ?_
              rotate_left
              · show Act.put _ (some 19) _ = _
                simp only [Act.put, List.setIfInBounds_toArray, List.set_cons_zero, List.set_cons_succ, i64_w, i32_w]
                rfl
              refine one_ (i := 3) (N := some 22) #[true, true, true, true, true, true, false, false, false] rfl rfl (one_of HT_.out (by kernel_rfl)) (by decide) (fun K hK => ?_)
              refine Kd.R_append_rows_step k29 (w0 := w0) w0.heap.size (by rfl) (.tmp 19) (.tmp 21) 43 29 (.agg #[(.int .i64 0), (.int .i64 0)]) 16 rfl Try.underlying43 info29 rfl (by decide) (by omega) v523 y522 l0_0 _ _ _ (fun k_ => (P0_0_ k_ ∨ w.heap.size ≤ k_) ∧ some k_ ≠ (.slice Ao32 l0_0.length co32 : Value).ownBlock ∧ some k_ ≠ (v529 : Value).ownBlock ∧ k_ ≠ gb519) (fun _ => False) rfl rfl ?aO ?aR (fun _ _ h => h) (fun _ h => h.elim) ?aF ?aB ?aS ?aL ?_
              (case aR => repeat (first | exact (Kd.R_reads' HO0_0.out).2.2 | (with_reducible refine Kd.C_alloc ?_ _) | (with_reducible refine Kd.C_drewN ?_ _) | (with_reducible refine Kd.C_drew ?_)))
              (case aB => exact (bl HB))
              (case aF => exact (fun k_ hk => ⟨(.inr (Nat.le_trans (by first | exact HK.out.1 | exact (show Kept w _ (fun k_ => P0_0_ k_) from by repeat (first | (with_reducible first | exact HK.out | apply Kept.alloc | apply Kept.drewN | apply Kept.drew | refine Kept.setCell ?_ (.inr GW518.out) _ | refine Kept.setCell ?_ (.inr GW519.out) _ | refine Kept.setCell ?_ (.inr GW520.out) _) | exact HK.out)).1) hk)), Kd.fresh' (Kd.R_lt (rs HO0_0)) k_ hk, Kd.fresh' (Kd.R_lt (rs HO530)) k_ hk, Kd.freshB (g := gb519) (o := .cells #[.int .i64 a1_0, .int .i64 a1_1] 29 (0, 0)) (bk BK519) k_ hk⟩))
              (case aO => exact (by (with_reducible repeat apply ru); exact Kd.R_mono HO524.out (fun _ hk => ⟨hk.1.1.1.1, ⟨hk.1.1.2, ⟨hk.1.2, hk.2⟩⟩⟩)))
              (case aS => exact (below_size (bl HB)))
              (case aL => have := LMc30.out; omega)
              intro v526 w48 ho hb hg hat
              rw [← Ny525.out] at ho
              have n0_ := Aside0.mk (Kd.R_after (ok := (fun k_ => (P0_0_ k_ ∨ w.heap.size ≤ k_) ∧ some k_ ≠ (v529 : Value).ownBlock ∧ k_ ≠ gb519)) (by (with_reducible repeat apply ru); exact Kd.R_mono HO0_0.out (fun _ hk => ⟨⟨hk.1.1.1, ⟨hk.1.2, hk.1.1.2⟩⟩, hk.2⟩)) hg hat)
              have n1_ := Aside0.mk (blk_grown (g := gb518) (o := .cells #[.slice Ao32 l0_0.length co32] 45 (0, 0)) (bk BK518) hg (Kd.R_ne HO524.out BK518.out (by decide)))
              have n2_ := Aside0.mk (blk_grown (g := gb519) (o := .cells #[.int .i64 a1_0, .int .i64 a1_1] 29 (0, 0)) (bk BK519) hg (Kd.R_away HO524.out (fun _ hk => hk.2)))
              have n3_ := Aside0.mk (blk_grown (g := gb520) (o := .cells #[.slice none 0 0] 45 (0, 0)) (bk BK520) hg (Kd.R_ne HO524.out BK520.out (by decide)))
              have n4_ := Aside0.mk (Kd.R_after (ok := (fun k_ => (P0_0_ k_ ∨ w.heap.size ≤ k_) ∧ some k_ ≠ (.slice Ao32 l0_0.length co32 : Value).ownBlock ∧ k_ ≠ gb519)) (by (with_reducible repeat apply ru); exact Kd.R_mono HO530.out (fun _ hk => ⟨⟨hk.1.1.1.1, ⟨hk.1.1.2, hk.1.2⟩⟩, hk.2⟩)) hg hat)
              have n5_ := Aside0.mk (hb)
              have n6_ := Aside0.mk (Kept.of_grown (S := (fun k_ => P0_0_ k_)) hg (by repeat (first | (with_reducible first | exact HK.out | apply Kept.alloc | apply Kept.drewN | apply Kept.drew | refine Kept.setCell ?_ (.inr GW518.out) _ | refine Kept.setCell ?_ (.inr GW519.out) _ | refine Kept.setCell ?_ (.inr GW520.out) _) | exact HK.out)) (fun k_ e_ => (HO524.out.1 k_ e_).1.1.1.1))
              have n7_ := Aside0.mk (ho)
              clear HO0_0
              clear BK518
              clear BK519
              clear BK520
              clear HO530
              clear HB
              clear HK
              clear HO524
              have HO0_0 := n0_
              have BK518 := n1_
              have BK519 := n2_
              have BK520 := n3_
              have HO530 := n4_
              have HB := n5_
              have HK := n6_
              have HO527 := n7_
              clear n0_ n1_ n2_ n3_ n4_ n5_ n6_ n7_
              clear ho hb hg hat
              refine hK.out _ _ ⟨(blk_cell BK518.out 0).trans rfl, (blk_cell BK519.out 0).trans rfl, (blk_cell BK519.out 1).trans rfl⟩ (fun hHeld => ?_)
              clear hK K
              refine norm_ (a' := ?_) ?_ ?_
              rotate_left
              · show Act.put _ (some 22) _ = _
                simp only [Act.put, List.setIfInBounds_toArray, List.set_cons_zero, List.set_cons_succ, i64_w, i32_w]
                rfl
              exact norm_ (by simp only [putAll, Act.put, List.setIfInBounds_toArray, List.set_cons_zero, List.set_cons_succ]) (hCont (v523, v526, v529) _ ⟨hHeld, (by (with_reducible repeat apply ru); exact Kd.R_mono HO0_0.out (fun _ hk => ⟨hk.1.1, ⟨hk.2, ⟨hk.1.2.1, hk.1.2.2⟩⟩⟩)), (rs HO527), (by (with_reducible repeat apply ru); exact Kd.R_mono HO530.out (fun _ hk => ⟨hk.1.1, ⟨hk.1.2.1, ⟨hk.2, hk.1.2.2⟩⟩⟩)), (bk BK518), (bk BK519), (bk BK520), (by repeat (first | (with_reducible first | exact HK.out | apply Kept.alloc | apply Kept.drewN | apply Kept.drew | refine Kept.setCell ?_ (.inr GW518.out) _ | refine Kept.setCell ?_ (.inr GW519.out) _ | refine Kept.setCell ?_ (.inr GW520.out) _) | exact HK.out)), (bl HB)⟩)
          rintro ⟨v523, v526, v529⟩ w49 ⟨hS_, h0_, h1_, h2_, h3_, h4_, h5_, h6_, h7_⟩
          have n0_ : Aside0 (Kd.R k29 29 w49 w0.heap.size (fun k_ => (P0_0_ k_ ∨ w.heap.size ≤ k_) ∧ some k_ ≠ (v526 : Value).ownBlock ∧ some k_ ≠ (v529 : Value).ownBlock ∧ k_ ≠ gb519) (.slice Ao32 l0_0.length co32) l0_0) := ⟨h0_⟩
          have n1_ : Aside0 (Kd.R k29 29 w49 w0.heap.size (fun k_ => (P0_0_ k_ ∨ w.heap.size ≤ k_) ∧ some k_ ≠ (.slice Ao32 l0_0.length co32 : Value).ownBlock ∧ some k_ ≠ (v529 : Value).ownBlock ∧ k_ ≠ gb519) v526 y525) := ⟨h1_⟩
          have n2_ : Aside0 (Kd.R k29 29 w49 w0.heap.size (fun k_ => (P0_0_ k_ ∨ w.heap.size ≤ k_) ∧ some k_ ≠ (.slice Ao32 l0_0.length co32 : Value).ownBlock ∧ some k_ ≠ (v526 : Value).ownBlock ∧ k_ ≠ gb519) v529 y528) := ⟨h2_⟩
          have n3_ : Aside0 (w49.heap[gb518]? = some (.cells #[.slice Ao32 l0_0.length co32] 45 (0, 0))) := ⟨h3_⟩
          have n4_ : Aside0 (w49.heap[gb519]? = some (.cells #[.int .i64 a1_0, .int .i64 a1_1] 29 (0, 0))) := ⟨h4_⟩
          have n5_ : Aside0 (w49.heap[gb520]? = some (.cells #[.slice none 0 0] 45 (0, 0))) := ⟨h5_⟩
          have n6_ : Aside0 (Kept w w49 (fun k_ => P0_0_ k_)) := ⟨h6_⟩
          have n7_ : Aside0 (Below w0.heap.size w0 w49) := ⟨h7_⟩
          clear HO0_0
          clear BK518
          clear BK519
          clear BK520
          clear HK
          clear HB
          clear h0_ h1_ h2_ h3_ h4_ h5_ h6_ h7_
          have HO0_0 := n0_
          have HO527 := n1_
          have HO530 := n2_
          have BK518 := n3_
          have BK519 := n4_
          have BK520 := n5_
          have HK := n6_
          have HB := n7_
          clear n0_ n1_ n2_ n3_ n4_ n5_ n6_ n7_
          have hHeld : w49.cell? ⟨gb518, 0, none⟩ = some (.slice Ao32 l0_0.length co32) ∧ w49.cell? ⟨gb519, 0, none⟩ = some (.int .i64 a1_0) ∧ w49.cell? ⟨gb519, 1, none⟩ = some (.int .i64 a1_1) := hS_
          obtain ⟨Ao51, co51, eo51⟩ := Kd.R_slice HO530.out
          (first | subst eo51 | (injection eo51 with f1_ f2_ f3_; have f4_ := f1_.symm; have f5_ := f3_.symm; clear f1_ f2_ f3_; subst f4_; subst f5_))
          refine norm_ (a' := ?_) ?_ ?_
          rotate_left
          · simp only [putAll, Act.put, List.setIfInBounds_toArray, List.set_cons_zero, List.set_cons_succ]
            rfl
          refine one_ (i := 6) (N := some 25) #[true, true, true, true, true, true, true, false, false] rfl rfl (one_of HT_.out (by kernel_rfl)) (by decide) (fun K hK => ?_)
          refine Kd.R_append_rows_step k29 (w0 := w0) w0.heap.size (by rfl) (.tmp 22) (.tmp 24) 43 29 (.agg #[(.int .i64 0), (.int .i64 0)]) 16 rfl Try.underlying43 info29 rfl (by decide) (by omega) v526 y525 y528 _ _ _ (fun k_ => (P0_0_ k_ ∨ w.heap.size ≤ k_) ∧ some k_ ≠ (.slice Ao32 l0_0.length co32 : Value).ownBlock ∧ some k_ ≠ (.slice Ao51 y528.length co51 : Value).ownBlock ∧ k_ ≠ gb519) (fun _ => False) rfl rfl ?aO ?aR (fun _ _ h => h) (fun _ h => h.elim) ?aF ?aB ?aS ?aL ?_
          (case aR => repeat (first | exact (Kd.R_reads' HO530.out).2.2 | (with_reducible refine Kd.C_alloc ?_ _) | (with_reducible refine Kd.C_drewN ?_ _) | (with_reducible refine Kd.C_drew ?_)))
          (case aB => exact (bl HB))
          (case aF => exact (fun k_ hk => ⟨(.inr (Nat.le_trans (by first | exact HK.out.1 | exact (show Kept w _ (fun k_ => P0_0_ k_) from by repeat (first | (with_reducible first | exact HK.out | apply Kept.alloc | apply Kept.drewN | apply Kept.drew | refine Kept.setCell ?_ (.inr GW518.out) _ | refine Kept.setCell ?_ (.inr GW519.out) _ | refine Kept.setCell ?_ (.inr GW520.out) _) | exact HK.out)).1) hk)), Kd.fresh' (Kd.R_lt (rs HO0_0)) k_ hk, Kd.fresh' (Kd.R_lt (rs HO530)) k_ hk, Kd.freshB (g := gb519) (o := .cells #[.int .i64 a1_0, .int .i64 a1_1] 29 (0, 0)) (bk BK519) k_ hk⟩))
          (case aO => exact (rs HO527))
          (case aS => exact (below_size (bl HB)))
          (case aL => have := LMc31.out; omega)
          intro v532 w50 ho hb hg hat
          rw [← Ny531.out] at ho
          have n0_ := Aside0.mk (Kd.R_after (ok := (fun k_ => (P0_0_ k_ ∨ w.heap.size ≤ k_) ∧ some k_ ≠ (.slice Ao51 y528.length co51 : Value).ownBlock ∧ k_ ≠ gb519)) (by (with_reducible repeat apply ru); exact Kd.R_mono HO0_0.out (fun _ hk => ⟨⟨hk.1, ⟨hk.2.2.1, hk.2.2.2⟩⟩, hk.2.1⟩)) hg hat)
          have n1_ := Aside0.mk (blk_grown (g := gb518) (o := .cells #[.slice Ao32 l0_0.length co32] 45 (0, 0)) (bk BK518) hg (Kd.R_ne HO527.out BK518.out (by decide)))
          have n2_ := Aside0.mk (blk_grown (g := gb519) (o := .cells #[.int .i64 a1_0, .int .i64 a1_1] 29 (0, 0)) (bk BK519) hg (Kd.R_away HO527.out (fun _ hk => hk.2.2.2)))
          have n3_ := Aside0.mk (blk_grown (g := gb520) (o := .cells #[.slice none 0 0] 45 (0, 0)) (bk BK520) hg (Kd.R_ne HO527.out BK520.out (by decide)))
          have n4_ := Aside0.mk (Kd.R_after (ok := (fun k_ => (P0_0_ k_ ∨ w.heap.size ≤ k_) ∧ some k_ ≠ (.slice Ao32 l0_0.length co32 : Value).ownBlock ∧ k_ ≠ gb519)) (by (with_reducible repeat apply ru); exact Kd.R_mono HO530.out (fun _ hk => ⟨⟨hk.1, ⟨hk.2.1, hk.2.2.2⟩⟩, hk.2.2.1⟩)) hg hat)
          have n5_ := Aside0.mk (hb)
          have n6_ := Aside0.mk (Kept.of_grown (S := (fun k_ => P0_0_ k_)) hg (by repeat (first | (with_reducible first | exact HK.out | apply Kept.alloc | apply Kept.drewN | apply Kept.drew | refine Kept.setCell ?_ (.inr GW518.out) _ | refine Kept.setCell ?_ (.inr GW519.out) _ | refine Kept.setCell ?_ (.inr GW520.out) _) | exact HK.out)) (fun k_ e_ => (HO527.out.1 k_ e_).1))
          have n7_ := Aside0.mk (ho)
          clear HO0_0
          clear BK518
          clear BK519
          clear BK520
          clear HO530
          clear HB
          clear HK
          clear HO527
          have HO0_0 := n0_
          have BK518 := n1_
          have BK519 := n2_
          have BK520 := n3_
          have HO530 := n4_
          have HB := n5_
          have HK := n6_
          have HO533 := n7_
          clear n0_ n1_ n2_ n3_ n4_ n5_ n6_ n7_
          clear ho hb hg hat
          obtain ⟨Ao52, co52, eo52⟩ := Kd.R_slice HO533.out
          (first | subst eo52 | (injection eo52 with f1_ f2_ f3_; have f4_ := f1_.symm; have f5_ := f3_.symm; clear f1_ f2_ f3_; subst f4_; subst f5_))
          refine hK.out _ _ ⟨(blk_cell BK518.out 0).trans rfl, (blk_cell BK519.out 0).trans rfl, (blk_cell BK519.out 1).trans rfl⟩ (fun hHeld => ?_)
          clear hK K
          refine norm_ (a' := ?_) ?_ ?_
          rotate_left
          · show Act.put _ (some 25) _ = _
            simp only [Act.put, List.setIfInBounds_toArray, List.set_cons_zero, List.set_cons_succ, i64_w, i32_w]
            rfl
          refine pure_ (i := 7) (N := some 26) (v := ?_) (a' := ?_) #[true, true, true, true, true, true, true, true, false] rfl rfl (any_of HT_.out (by kernel_rfl)) (fun _ _ _ h => h) (Or.inl ⟨by rfl, ?_⟩) ?_ ?_
          rotate_left
          · intro w'
            go_simp
            with_reducible rfl
          rotate_left
          · simp only [Act.put, List.setIfInBounds_toArray, List.set_cons_zero, List.set_cons_succ, i64_w, i32_w]
            rfl
          refine last_ (i := 8) (N := none) #[true, true, true, true, true, true, true, true, true] rfl rfl (one_of HT_.out (by kernel_rfl)) (by decide) (fun K hK => ?_)
          have hs53 : w50.cell? ⟨gb518, 0, none⟩ = some (.slice Ao32 l0_0.length co32) := (blk_cell BK518.out 0).trans rfl
          have hfs53 := blk_frozen BK518.out 0
          have hns53_1 := NB519_518.out
          have hns53_2 := NB520_518.out
          have hms53_1 := NB518_519.out
          have hms53_2 := NB518_520.out
          refine skip_ (w1 := ?_) (by rfl) rfl ?_ ?_
          rotate_left
          · go_simp
            rfl
          refine hK.out _ _ ?_
          clear hK K
          refine done_ (done_of HT_.out (by kernel_rfl)) ?_
          try go_wp2
          have n0_ : Aside0 (Kd.R k29 29 (w50.setCell ⟨gb518, 0, none⟩ (.slice Ao52 y531.length co52)) w0.heap.size (fun k_ => (P0_0_ k_ ∨ w.heap.size ≤ k_) ∧ some k_ ≠ (.slice Ao51 y528.length co51 : Value).ownBlock ∧ some k_ ≠ (.slice Ao52 y531.length co52 : Value).ownBlock ∧ k_ ≠ gb519) (.slice Ao32 l0_0.length co32) l0_0) := ⟨by (with_reducible repeat apply ru); exact Kd.R_mono (Kd.R_far (p := ⟨gb518, 0, none⟩) (Kd.R_types HO0_0.out BK518.out (by decide)) (fun _ hk => hk.2) (.slice Ao52 y531.length co52)) (fun _ hk => ⟨hk.1.1.1, ⟨hk.1.1.2.1, ⟨hk.1.2, hk.1.1.2.2⟩⟩⟩)⟩
          have n1_ : Aside0 (Kd.R k29 29 (w50.setCell ⟨gb518, 0, none⟩ (.slice Ao52 y531.length co52)) w0.heap.size (fun k_ => (P0_0_ k_ ∨ w.heap.size ≤ k_) ∧ some k_ ≠ (.slice Ao32 l0_0.length co32 : Value).ownBlock ∧ some k_ ≠ (.slice Ao52 y531.length co52 : Value).ownBlock ∧ k_ ≠ gb519) (.slice Ao51 y528.length co51) y528) := ⟨by (with_reducible repeat apply ru); exact Kd.R_mono (Kd.R_far (p := ⟨gb518, 0, none⟩) (Kd.R_types HO530.out BK518.out (by decide)) (fun _ hk => hk.2) (.slice Ao52 y531.length co52)) (fun _ hk => ⟨hk.1.1.1, ⟨hk.1.1.2.1, ⟨hk.1.2, hk.1.1.2.2⟩⟩⟩)⟩
          have n2_ : Aside0 (Kd.R k29 29 (w50.setCell ⟨gb518, 0, none⟩ (.slice Ao52 y531.length co52)) w0.heap.size (fun k_ => (P0_0_ k_ ∨ w.heap.size ≤ k_) ∧ some k_ ≠ (.slice Ao32 l0_0.length co32 : Value).ownBlock ∧ some k_ ≠ (.slice Ao51 y528.length co51 : Value).ownBlock ∧ k_ ≠ gb519) (.slice Ao52 y531.length co52) y531) := ⟨by (with_reducible repeat apply ru); exact Kd.R_mono (Kd.R_far (p := ⟨gb518, 0, none⟩) (Kd.R_types HO533.out BK518.out (by decide)) (fun _ hk => hk.2) (.slice Ao52 y531.length co52)) (fun _ hk => ⟨hk.1.1, ⟨hk.1.2.1, ⟨hk.1.2.2.1, hk.1.2.2.2⟩⟩⟩)⟩
          have n3_ : Aside0 ((w50.setCell ⟨gb518, 0, none⟩ (.slice Ao52 y531.length co52)).heap[gb518]? = some (.cells #[.slice Ao52 y531.length co52] 45 (0, 0))) := ⟨by (with_reducible repeat refine bu ?_); refine blk_put (cs := #[.slice Ao32 l0_0.length co32]) ?_ 0 _ rfl; (with_reducible repeat refine bu ?_); exact BK518.out⟩
          have n4_ : Aside0 ((w50.setCell ⟨gb518, 0, none⟩ (.slice Ao52 y531.length co52)).heap[gb519]? = some (.cells #[.int .i64 a1_0, .int .i64 a1_1] 29 (0, 0))) := ⟨by (with_reducible repeat refine bu ?_); refine blk_far ?_ NB519_518.out _; (with_reducible repeat refine bu ?_); exact BK519.out⟩
          have n5_ : Aside0 ((w50.setCell ⟨gb518, 0, none⟩ (.slice Ao52 y531.length co52)).heap[gb520]? = some (.cells #[.slice none 0 0] 45 (0, 0))) := ⟨by (with_reducible repeat refine bu ?_); refine blk_far ?_ NB520_518.out _; (with_reducible repeat refine bu ?_); exact BK520.out⟩
          have n6_ : Aside0 (Kept w (w50.setCell ⟨gb518, 0, none⟩ (.slice Ao52 y531.length co52)) (fun k_ => P0_0_ k_)) := ⟨by repeat (first | (with_reducible first | exact HK.out | apply Kept.alloc | apply Kept.drewN | apply Kept.drew | refine Kept.setCell ?_ (.inr GW518.out) _ | refine Kept.setCell ?_ (.inr GW519.out) _ | refine Kept.setCell ?_ (.inr GW520.out) _) | exact HK.out)⟩
          have n7_ : Aside0 (Below w0.heap.size w0 (w50.setCell ⟨gb518, 0, none⟩ (.slice Ao52 y531.length co52))) := ⟨by repeat (first | (with_reducible first | exact HB.out | apply below_alloc | apply pw_below_drewN | apply below_drew1 | refine below_set ?_ GE518.out | refine below_set ?_ GE519.out | refine below_set ?_ GE520.out) | exact HB.out)⟩
          (try clear HO0_0)
          (try clear HO530)
          (try clear HO533)
          (try clear BK518)
          (try clear BK519)
          (try clear BK520)
          (try clear HK)
          (try clear HB)
          generalize (w50.setCell ⟨gb518, 0, none⟩ (.slice Ao52 y531.length co52)) = w54 at n0_ n1_ n2_ n3_ n4_ n5_ n6_ n7_ ⊢
          have HO0_0 := n0_
          have HO530 := n1_
          have HO533 := n2_
          have BK518 := n3_
          have BK519 := n4_
          have BK520 := n5_
          have HK := n6_
          have HB := n7_
          clear n0_ n1_ n2_ n3_ n4_ n5_ n6_ n7_
          have n0_ := Aside0.mk (Kd.R_drew HO0_0.out)
          have n1_ := Aside0.mk (Kd.R_drew HO530.out)
          have n2_ := Aside0.mk (Kd.R_drew HO533.out)
          have n3_ := Aside0.mk (blk_drew BK518.out)
          have n4_ := Aside0.mk (blk_drew BK519.out)
          have n5_ := Aside0.mk (blk_drew BK520.out)
          have n6_ := Aside0.mk (Kept.drew HK.out)
          have n7_ := Aside0.mk (below_drew1 HB.out)
          clear HO0_0
          clear HO530
          clear HO533
          clear BK518
          clear BK519
          clear BK520
          clear HK
          clear HB
          have HO0_0 := n0_
          have HO530 := n1_
          have HO533 := n2_
          have BK518 := n3_
          have BK519 := n4_
          have BK520 := n5_
          have HK := n6_
          have HB := n7_
          clear n0_ n1_ n2_ n3_ n4_ n5_ n6_ n7_
          refine start_ (n := 8) (S := fun w' => w'.cell? ⟨gb518, 0, none⟩ = some (.slice Ao52 y531.length co52)) (ds := []) #[false, false, false, false, false, false, false, false] (by kernel_rfl) rfl rfl ((blk_cell BK518.out 0).trans rfl) (fun hHeld => ?_); refine with_tabW spec_l3Put.tab7 spec_l3Put.bits7 (fun HT_ HW_ => ?_)
          generalize w54.drew = w55 at HO0_0 HO530 HO533 BK518 BK519 BK520 HK HB hHeld ⊢
          refine pure_ (i := 1) (N := some 28) (v := ?_) (a' := ?_) #[false, true, false, false, false, false, false, false] rfl rfl (any_of HT_.out (by kernel_rfl)) (fun _ _ _ h => h) (Or.inl ⟨by rfl, ?_⟩) ?_ ?_
          rotate_left
          · intro w'
            go_simp
            with_reducible rfl
          rotate_left
          · simp only [Act.put, List.setIfInBounds_toArray, List.set_cons_zero, List.set_cons_succ, i64_w, i32_w]
            rfl
          refine take_ (i := 0) (N := some 27) (v := ?_) (a' := ?_) #[true, true, false, false, false, false, false, false] rfl rfl (take_ofW HT_.out HW_.out (by kernel_rfl)) (fun _ _ _ h => h) (Or.inl ⟨by rfl, ?_⟩) hHeld ?_ ?_
          rotate_left
          · intro w' s0
            go_simp
            with_reducible rfl
          rotate_left
          · simp only [Act.put, List.setIfInBounds_toArray, List.set_cons_zero, List.set_cons_succ, i64_w, i32_w]
            rfl
          refine take_ (i := 2) (N := some 29) (v := ?_) (a' := ?_) #[true, true, true, false, false, false, false, false] rfl rfl (take_ofW HT_.out HW_.out (by kernel_rfl)) (fun _ _ _ h => h) (Or.inl ⟨by rfl, ?_⟩) hHeld ?_ ?_
          rotate_left
          · intro w' s0
            go_simp
            with_reducible rfl
          rotate_left
          · simp only [Act.put, List.setIfInBounds_toArray, List.set_cons_zero, List.set_cons_succ, i64_w, i32_w]
            rfl
          refine pure_ (i := 3) (N := some 30) (v := ?_) (a' := ?_) #[true, true, true, true, false, false, false, false] rfl rfl (any_of HT_.out (by kernel_rfl)) (fun _ _ _ h => h) (Or.inl ⟨by rfl, ?_⟩) ?_ ?_
          rotate_left
          · intro w'
            go_simp
            with_reducible rfl
          rotate_left
          · simp only [Act.put, List.setIfInBounds_toArray, List.set_cons_zero, List.set_cons_succ, i64_w, i32_w]
            rfl
          refine pure_ (i := 4) (N := some 31) (v := ?_) (a' := ?_) #[true, true, true, true, true, false, false, false] rfl rfl (any_of HT_.out (by kernel_rfl)) (fun _ _ _ h => h) (Or.inl ⟨by rfl, ?_⟩) ?_ ?_
          rotate_left
          · intro w'
            go_simp
            with_reducible rfl
          rotate_left
          · simp only [Act.put, List.setIfInBounds_toArray, List.set_cons_zero, List.set_cons_succ, i64_w, i32_w]
            rfl
          refine pure_ (i := 5) (N := some 32) (v := ?_) (a' := ?_) #[true, true, true, true, true, true, false, false] rfl rfl (any_of HT_.out (by kernel_rfl)) (fun _ _ _ h => h) (Or.inl ⟨by rfl, ?_⟩) ?_ ?_
          rotate_left
          · intro w'
            go_simp
            with_reducible rfl
          rotate_left
          · simp only [Act.put, List.setIfInBounds_toArray, List.set_cons_zero, List.set_cons_succ, i64_w, i32_w]
            rfl
          refine one_ (i := 6) (N := none) #[true, true, true, true, true, true, true, false] rfl rfl (one_of HT_.out (by kernel_rfl)) (by decide) (fun K hK => ?_)
          have hs56 : w55.cell? ⟨gb520, 0, none⟩ = some (.slice none 0 0) := (blk_cell BK520.out 0).trans rfl
          have hfs56 := blk_frozen BK520.out 0
          have hns56_0 := NB518_520.out
          have hns56_1 := NB519_520.out
          have hms56_0 := NB520_518.out
          have hms56_1 := NB520_519.out
          refine skip_ (w1 := ?_) (by rfl) rfl ?_ ?_
          rotate_left
          · go_simp
            rfl
          refine hK.out _ _ (((cell_far (p := ⟨gb520, _, none⟩) NB518_520.out _).trans (hHeld))) (fun hHeld => ?_)
          clear hK K
          refine pure_ (i := 7) (N := some 5) (v := ?_) (a' := ?_) #[true, true, true, true, true, true, true, true] rfl rfl (any_of HT_.out (by kernel_rfl)) (fun _ _ _ h => h) (Or.inl ⟨by rfl, ?_⟩) ?_ ?_
          rotate_left
          · intro w'
            go_simp
            with_reducible rfl
          rotate_left
          · simp only [Act.put, List.setIfInBounds_toArray, List.set_cons_zero, List.set_cons_succ, i64_w, i32_w]
            rfl
          refine done_ (done_of HT_.out (by kernel_rfl)) ?_
          try go_wp2
          refine bodyPost_ret (results_ct rfl _ _ gb520 45 #[.slice Ao52 y531.length co52] (0, 0) _ rfl (by (with_reducible repeat refine bu ?_); refine blk_put (cs := #[.slice none 0 0]) ?_ 0 _ rfl; (with_reducible repeat refine bu ?_); exact BK520.out) Try.underlying45 rfl (by kernel_rfl)) rfl ?_
          exact ⟨_, by first | rfl | (simp [errW_none, errW_some] <;> rfl) | (simp [*, errW_none, errW_some] <;> rfl), by (with_reducible repeat apply ru); exact Kd.R_mono (Kd.R_far (p := ⟨gb520, 0, none⟩) (Kd.R_types HO533.out BK520.out (by decide)) (fun _ hk => hk.2) (.slice Ao52 y531.length co52)) (fun _ hk => hk.1.1), by repeat (first | (with_reducible first | exact HB.out | apply below_alloc | apply pw_below_drewN | apply below_drew1 | refine below_set ?_ GE518.out | refine below_set ?_ GE519.out | refine below_set ?_ GE520.out) | exact HB.out), by repeat (first | (with_reducible first | exact HK.out | apply Kept.alloc | apply Kept.drewN | apply Kept.drew | refine Kept.setCell ?_ (.inr GW518.out) _ | refine Kept.setCell ?_ (.inr GW519.out) _ | refine Kept.setCell ?_ (.inr GW520.out) _) | exact HK.out)⟩
        · rw [if_neg c31] at H
          exact absurd H (by simp)
      · rw [if_neg c30] at H
        exact absurd H (by simp)

end Go.Proofs.Ytiocgkggegahhaa.P

-- written by hw.py for this claim
namespace Go.Proofs.Ytiocgkggegahhaa.P
open Go.RowKit Go.Proofs.YtiocgkggegahhaaUFnExactMapPut.PrintWords Go.Proofs.YtiocgkggegahhaaUFnExactMapPut.PrintLast Go.Proofs.YtiocgkggegahhaaUFnExactMapPut.PrintMore
attribute [local go_sem] max2_int min2_int max_two min_two max_three min_three max_four min_four
set_option linter.unusedVariables false
set_option linter.unusedSimpArgs false

/-! ### spec_l3Copy: function 70 -/
def spec_l3Copy.f (l0_0 : List (S29)) : Option ((List (S29))) := (some (([] : List (S29)) : List (S29))).bind fun y536 => (if y536.length + l0_0.length < 8796093022208 then (some (y536 ++ l0_0)) else (none))
set_option maxHeartbeats 8000000 in
set_option maxRecDepth 100000 in
theorem spec_l3Copy.calls (A0_0 : Option Addr) (c0_0 : Nat) (l0_0 : List (S29)) (r : List (S29)) (w : World) (hr0_0 : Kd.C k29 w A0_0 l0_0.length l0_0) (hc0_0 : l0_0.length ≤ c0_0) (h : spec_l3Copy.f l0_0 = some r) :
    Calls Try.prog 70 #[.agg #[.slice A0_0 l0_0.length c0_0]] w fun e w' => ∃ v0_ : Value, e = .returned (.agg #[v0_]) ∧ Kd.R k29 29 w' w.heap.size (fun _ => True) v0_ r ∧ Below w.heap.size w w' := by
  have hu45 := Try.underlying45
  have HR0_0 := Aside0.mk hr0_0
  have HC0_0 := Aside0.mk hc0_0
  clear hr0_0 hc0_0
  have HB := Aside0.mk (Below.refl w.heap.size w)
  have H : ((some (([] : List (S29)) : List (S29))).bind fun y536 => (if y536.length + l0_0.length < 8796093022208 then (some (y536 ++ l0_0)) else (none))) = some r := h
  clear h
  obtain ⟨y536, hy536⟩ : ∃ y_ : List (S29), y_ = (([] : List (S29))) := ⟨_, rfl⟩
  replace H : (if y536.length + l0_0.length < 8796093022208 then (some (y536 ++ l0_0)) else (none)) = some r := by first | (rw [hy536]; with_reducible exact H) | (have H2_ := (Option.bind_some _ _).symm.trans H; rw [hy536]; with_reducible exact H2_) | (have H2_ := (Option.bind_some _ _).symm.trans H; with_reducible exact H2_) | with_reducible exact H | (rw [hy536]; exact H) | exact H
  have Ny536 := Aside0.mk hy536
  clear hy536
  by_cases c2 : y536.length + l0_0.length < 8796093022208
  · rw [if_pos c2] at H
    have LMc2 := Aside0.mk c2
    clear c2
    obtain ⟨y539, hy539⟩ : ∃ y_ : List (S29), y_ = (y536 ++ l0_0) := ⟨_, rfl⟩
    replace H : (some y539) = some r := by first | (rw [hy539]; with_reducible exact H) | (have H2_ := (Option.bind_some _ _).symm.trans H; rw [hy539]; with_reducible exact H2_) | (have H2_ := (Option.bind_some _ _).symm.trans H; with_reducible exact H2_) | with_reducible exact H | (rw [hy539]; exact H) | exact H
    have Ny539 := Aside0.mk hy539
    clear hy539
    obtain rfl := Option.some.inj H
    go_enter Try.func70, Try.ntmps70
    go_wp2_with (first | ((with_reducible refine gate_dst (N := 1) rfl ?_); refine box_event ?hg (N := 1) ?hd (cs := #[.slice A0_0 l0_0.length c0_0]) (t := 45) ?hr ?_; (case hd => rfl); (case hg => rfl); (case hr => first | (go_simp; done) | (go_simp; rfl)); intro gb534 hg w3 hbox hb; have n0_ := Aside0.mk (below_step (bl HB) hb); have n1_ := Aside0.mk (hbox); have n2_ := Aside0.mk ((by rw [hg]; exact (below_size (bl HB)) : w.heap.size ≤ gb534)); have n3_ := Aside0.mk ((by rw [hg]; exact (below_size (bl HB)) : w.heap.size ≤ gb534)); clear HB; have HB := n0_; have BK534 := n1_; have GW534 := n2_; have GE534 := n3_; clear n0_ n1_ n2_ n3_; clear hb hbox hg) | ((with_reducible refine gate_dst (N := 2) rfl ?_); refine box_event ?hg (N := 2) ?hd (cs := #[.slice none 0 0]) (t := 45) ?hr ?_; (case hd => rfl); (case hg => rfl); (case hr => first | (go_simp; done) | (go_simp; rfl)); intro gb535 hg w4 hbox hb; have n0_ := bkB BK534 hb; have n1_ := Aside0.mk (below_step (bl HB) hb); have n2_ := Aside0.mk (hbox); have n3_ := Aside0.mk ((by rw [hg]; exact (below_size (bl HB)) : w.heap.size ≤ gb535)); have n4_ := Aside0.mk ((by rw [hg]; exact (below_size (bl HB)) : w.heap.size ≤ gb535)); have n5_ := Aside0.mk ((by rw [hg]; exact Nat.ne_of_lt (bkL BK534) : gb534 ≠ gb535)); have n6_ := Aside0.mk ((by rw [hg]; exact Nat.ne_of_gt (bkL BK534) : gb535 ≠ gb534)); clear BK534; clear HB; have BK534 := n0_; have HB := n1_; have BK535 := n2_; have GW535 := n3_; have GE535 := n4_; have NB534_535 := n5_; have NB535_534 := n6_; clear n0_ n1_ n2_ n3_ n4_ n5_ n6_; clear hb hbox hg) | ((with_reducible refine gate_dst (N := 3) rfl ?_); refine Kd.R_lit k29 _ 29 ?hg (N := 3) ?hd (xs := ([] : List (S29))) (inner := []) (ok := fun _ => True) (okp := fun _ => True) ?hr ?hp (fun _ hk => hk) trivial (Below.refl _ _) (Nat.le_refl _) (by simp) ?_; (case hd => rfl); (case hg => rfl); (case hr => first | (go_simp; done) | (go_simp; rfl)); (case hp => exact (Reps.none _ _)); intro v537 w5 ho6 hb hg_ hnew_; clear hg_ hnew_; (first | rw [← Ny536.out] at ho6 | (simp only [Int.reduceToNat] at ho6; rw [← Ny536.out] at ho6)); have n0_ := Aside0.mk (Kd.R_lower ho6 (below_size (bl HB))); have n1_ := bkB BK534 hb; have n2_ := bkB BK535 hb; have n3_ := Aside0.mk (below_step (bl HB) hb); clear BK534; clear BK535; clear HB; have HO538 := n0_; have BK534 := n1_; have BK535 := n2_; have HB := n3_; clear n0_ n1_ n2_ n3_; clear hb ho6; have hnb7 := NB534_535.out; have hnc7 := NB535_534.out; have hcz8_0 : w5.cell? ⟨gb534, 0, none⟩ = some (.slice A0_0 l0_0.length c0_0) := (blk_cell BK534.out 0).trans rfl; have hfz8_0 := blk_frozen BK534.out 0) | ((with_reducible refine gate_builtin (b := .append) (xs := #[.tmp 3, .tmp 5]) rfl ?_); at_builtin; refine Kd.R_append_rows k29 (w0 := w) w.heap.size rfl (.tmp 3) (.tmp 5) 43 29 (.agg #[(.int .i64 0), (.int .i64 0)]) 16 rfl Try.underlying43 info29 rfl (by decide) (by omega) v537 y536 l0_0 _ _ _ (fun _ => True) (fun _ => False) rfl rfl ?aO ?aR (fun _ _ h => h) (fun _ h => h.elim) ?aF ?aB ?aS ?aL ?_; (case aR => repeat (first | exact (Kd.C_below HR0_0.out HB.out) | (with_reducible refine Kd.C_alloc ?_ _) | (with_reducible refine Kd.C_drewN ?_ _) | (with_reducible refine Kd.C_drew ?_))); (case aB => exact (bl HB)); (case aF => exact (fun _ _ => trivial)); (case aO => exact (rs HO538)); (case aS => exact (below_size (bl HB))); (case aL => have := LMc2.out; omega); intro v540 w9 ho hb hg hat; rw [← Ny539.out] at ho; have n0_ := Aside0.mk (blk_grown (g := gb534) (o := .cells #[.slice A0_0 l0_0.length c0_0] 45 (0, 0)) (bk BK534) hg (Kd.R_ne HO538.out BK534.out (by decide))); have n1_ := Aside0.mk (blk_grown (g := gb535) (o := .cells #[.slice none 0 0] 45 (0, 0)) (bk BK535) hg (Kd.R_ne HO538.out BK535.out (by decide))); have n2_ := Aside0.mk (hb); have n3_ := Aside0.mk (ho); clear BK534; clear BK535; clear HB; clear HO538; have BK534 := n0_; have BK535 := n1_; have HB := n2_; have HO541 := n3_; clear n0_ n1_ n2_ n3_; clear ho hb hg hat; obtain ⟨Ao10, co10, eo10⟩ := Kd.R_slice HO541.out; subst eo10; have hcz11_0 : w9.cell? ⟨gb535, 0, none⟩ = some (.slice none 0 0) := (blk_cell BK535.out 0).trans rfl; have hfz11_0 := blk_frozen BK535.out 0))
    refine bodyPost_ret (results_cell_row rfl _ _ gb535 45 #[.slice Ao10 y539.length co10] (0, 0) _ rfl (by (with_reducible repeat refine bu ?_); refine blk_put (cs := #[.slice none 0 0]) ?_ 0 _ rfl; (with_reducible repeat refine bu ?_); exact BK535.out) Try.underlying45 rfl (by kernel_rfl)) rfl ?_
    exact ⟨_, by first | rfl | (simp [errW_none, errW_some] <;> rfl) | (simp [*, errW_none, errW_some] <;> rfl), by (with_reducible repeat apply ru); exact Kd.R_mono (Kd.R_far (p := ⟨gb535, 0, none⟩) (Kd.R_types HO541.out BK535.out (by decide)) (fun _ hk => hk.2) (.slice Ao10 y539.length co10)) (fun _ hk => trivial), by repeat (first | (with_reducible first | exact HB.out | apply below_alloc | apply pw_below_drewN | apply below_drew1 | refine below_set ?_ GE534.out | refine below_set ?_ GE535.out) | exact HB.out)⟩
  · rw [if_neg c2] at H
    exact absurd H (by simp)

end Go.Proofs.Ytiocgkggegahhaa.P

-- written by hw.py for this claim
namespace Go.Proofs.Ytiocgkggegahhaa.P
open Go.RowKit Go.Proofs.YtiocgkggegahhaaUFnExactMapPut.PrintWords Go.Proofs.YtiocgkggegahhaaUFnExactMapPut.PrintLast Go.Proofs.YtiocgkggegahhaaUFnExactMapPut.PrintMore
attribute [local go_sem] max2_int min2_int max_two min_two max_three min_three max_four min_four
set_option linter.unusedVariables false
set_option linter.unusedSimpArgs false

/-! ### spec_MapPut: function 29 -/
def spec_MapPut.j0 : Nat → Bool → List (S29) → Int → Int → Option ((List (S29)) × Int)
  | 0, _, _, _, _ => none
  | k + 1, x13, x543000, x544000, x544001 => if x13 = true then (some (([] : List (S29)), 0)) else ((spec_l3Copy.f x543000).bind fun t547 => ((spec_l3Put.f k t547 x544000 x544001).bind fun bt550 => (some (bt550.1, bt550.2))))
def spec_MapPut.f (k : Nat) (l0_0 : List (S29)) (a1_0 : Int) (a1_1 : Int) : Option ((List (S29)) × Int) := (spec_MapOk.f k l0_0).bind fun t545 => (if t545 = true then ((spec_EndInside.f a1_0 a1_1).bind fun t546 => (spec_MapPut.j0 k (!t546) l0_0 a1_0 a1_1)) else (spec_MapPut.j0 k true l0_0 a1_0 a1_1))
theorem spec_MapPut.mono_l : ∀ k, (∀ y0 y1 y2 y3, LeO (spec_MapPut.j0 k y0 y1 y2 y3) (spec_MapPut.j0 (k + 1) y0 y1 y2 y3))
  | 0 => fun _ _ _ _ r h => by simp [spec_MapPut.j0] at h
  | k + 1 => by
    have ih0 := spec_MapPut.mono_l k
    · intro y0 y1 y2 y3
      unfold spec_MapPut.j0
      repeat' first
      | (with_reducible exact ih0 _ _ _ _)
      | (with_reducible exact spec_MapOk.mono _ _)
      | (with_reducible exact spec_l3Put.mono _ _ _ _)
      | (with_reducible exact LeO.refl _)
      | (with_reducible exact LeO.none _)
      | (with_reducible refine LeO.ite ?_ ?_)
      | (with_reducible refine LeO.bind ?_ (fun _ => ?_))
      | exact ih0 _ _ _ _
      | exact spec_MapOk.mono _ _
      | exact spec_l3Put.mono _ _ _ _
      | exact LeO.none _
      | refine LeO.ite ?_ ?_
      | refine LeO.bind ?_ (fun _ => ?_)
theorem spec_MapPut.mono : ∀ a0 a1 a2 k, LeO (spec_MapPut.f k a0 a1 a2) (spec_MapPut.f (k + 1) a0 a1 a2) := by
  intro a0 a1 a2 k
  have ih0 := spec_MapPut.mono_l k
  unfold spec_MapPut.f
  repeat' first
      | (with_reducible exact ih0 _ _ _ _)
      | (with_reducible exact spec_MapOk.mono _ _)
      | (with_reducible exact spec_l3Put.mono _ _ _ _)
      | (with_reducible exact LeO.refl _)
      | (with_reducible exact LeO.none _)
      | (with_reducible refine LeO.ite ?_ ?_)
      | (with_reducible refine LeO.bind ?_ (fun _ => ?_))
      | exact ih0 _ _ _ _
      | exact spec_MapOk.mono _ _
      | exact spec_l3Put.mono _ _ _ _
      | exact LeO.none _
      | refine LeO.ite ?_ ?_
      | refine LeO.bind ?_ (fun _ => ?_)
def spec_MapPut.T3 : Bool × List (List Nat × List Nat) := (true, [([], []), ([0], [0]), ([], []), ([1, 2, 1], [1, 2]), ([3], [3]), ([3], [3]), ([4, 3, 0, 1, 2, 3, 4, 5], [4]), ([5, 6, 0, 1, 2, 3, 4, 5, 6], [5])])
def spec_MapPut.B3 : List Nat := [0, 1, 0, 7, 15, 15, 63, 127]
theorem spec_MapPut.tab3 : rtab .any (opsOf Try.f29 3) = spec_MapPut.T3 := by kernel_rfl
theorem spec_MapPut.bits3 : waitsOk spec_MapPut.T3.2 spec_MapPut.B3 = true := by kernel_rfl
set_option maxHeartbeats 8000000 in
set_option maxRecDepth 100000 in
theorem spec_MapPut.calls (k : Nat) (A0_0 : Option Addr) (c0_0 : Nat) (l0_0 : List (S29)) (a1_0 : Int) (a1_1 : Int) (r1 : List (S29)) (r2 : Int) (w : World) (hr0_0 : Kd.C k29 w A0_0 l0_0.length l0_0) (hc0_0 : l0_0.length ≤ c0_0) (h : spec_MapPut.f k l0_0 a1_0 a1_1 = some (r1, r2)) :
    Calls Try.prog 29 #[.agg #[.slice A0_0 l0_0.length c0_0], .agg #[.int .i64 a1_0, .int .i64 a1_1]] w fun e w' => ∃ v0_ : Value, e = .returned (.tuple #[.agg #[v0_], .int .i64 r2]) ∧ Kd.R k29 29 w' w.heap.size (fun _ => True) v0_ r1 ∧ Below w.heap.size w w' := by
  have hu45 := Try.underlying45
  have hu29 := Try.underlying29
  have HR0_0 := Aside0.mk hr0_0
  have HC0_0 := Aside0.mk hc0_0
  clear hr0_0 hc0_0
  have HB := Aside0.mk (Below.refl w.heap.size w)
  have H : ((spec_MapOk.f k l0_0).bind fun t545 => (if t545 = true then ((spec_EndInside.f a1_0 a1_1).bind fun t546 => (spec_MapPut.j0 k (!t546) l0_0 a1_0 a1_1)) else (spec_MapPut.j0 k true l0_0 a1_0 a1_1))) = some (r1, r2) := h
  clear h
  have HC3 := Aside0.mk H
  clear H
  go_enter Try.func29, Try.ntmps29
  go_upto_region 1 with (first | ((with_reducible refine gate_dst (N := 2) rfl ?_); refine box_event ?hg (N := 2) ?hd (cs := #[.slice A0_0 l0_0.length c0_0]) (t := 45) ?hr ?_; (case hd => rfl); (case hg => rfl); (case hr => first | (go_simp; done) | (go_simp; rfl)); intro gb542 hg w4 hbox hb; have n0_ := Aside0.mk (below_step (bl HB) hb); have n1_ := Aside0.mk (hbox); have n2_ := Aside0.mk ((by rw [hg]; exact (below_size (bl HB)) : w.heap.size ≤ gb542)); have n3_ := Aside0.mk ((by rw [hg]; exact (below_size (bl HB)) : w.heap.size ≤ gb542)); clear HB; have HB := n0_; have BK542 := n1_; have GW542 := n2_; have GE542 := n3_; clear n0_ n1_ n2_ n3_; clear hb hbox hg) | ((with_reducible refine gate_dst (N := 3) rfl ?_); refine box_event ?hg (N := 3) ?hd (cs := #[.int .i64 a1_0, .int .i64 a1_1]) (t := 29) ?hr ?_; (case hd => rfl); (case hg => rfl); (case hr => first | (go_simp; done) | (go_simp; rfl)); intro gb543 hg w5 hbox hb; have n0_ := bkB BK542 hb; have n1_ := Aside0.mk (below_step (bl HB) hb); have n2_ := Aside0.mk (hbox); have n3_ := Aside0.mk ((by rw [hg]; exact (below_size (bl HB)) : w.heap.size ≤ gb543)); have n4_ := Aside0.mk ((by rw [hg]; exact (below_size (bl HB)) : w.heap.size ≤ gb543)); have n5_ := Aside0.mk ((by rw [hg]; exact Nat.ne_of_lt (bkL BK542) : gb542 ≠ gb543)); have n6_ := Aside0.mk ((by rw [hg]; exact Nat.ne_of_gt (bkL BK542) : gb543 ≠ gb542)); clear BK542; clear HB; have BK542 := n0_; have HB := n1_; have BK543 := n2_; have GW543 := n3_; have GE543 := n4_; have NB542_543 := n5_; have NB543_542 := n6_; clear n0_ n1_ n2_ n3_ n4_ n5_ n6_; clear hb hbox hg) | ((with_reducible refine gate_dst (N := 4) rfl ?_); refine box_event ?hg (N := 4) ?hd (cs := #[.slice none 0 0]) (t := 45) ?hr ?_; (case hd => rfl); (case hg => rfl); (case hr => first | (go_simp; done) | (go_simp; rfl)); intro gb544 hg w6 hbox hb; have n0_ := bkB BK542 hb; have n1_ := bkB BK543 hb; have n2_ := Aside0.mk (below_step (bl HB) hb); have n3_ := Aside0.mk (hbox); have n4_ := Aside0.mk ((by rw [hg]; exact (below_size (bl HB)) : w.heap.size ≤ gb544)); have n5_ := Aside0.mk ((by rw [hg]; exact (below_size (bl HB)) : w.heap.size ≤ gb544)); have n6_ := Aside0.mk ((by rw [hg]; exact Nat.ne_of_lt (bkL BK542) : gb542 ≠ gb544)); have n7_ := Aside0.mk ((by rw [hg]; exact Nat.ne_of_gt (bkL BK542) : gb544 ≠ gb542)); have n8_ := Aside0.mk ((by rw [hg]; exact Nat.ne_of_lt (bkL BK543) : gb543 ≠ gb544)); have n9_ := Aside0.mk ((by rw [hg]; exact Nat.ne_of_gt (bkL BK543) : gb544 ≠ gb543)); clear BK542; clear BK543; clear HB; have BK542 := n0_; have BK543 := n1_; have HB := n2_; have BK544 := n3_; have GW544 := n4_; have GE544 := n5_; have NB542_544 := n6_; have NB544_542 := n7_; have NB543_544 := n8_; have NB544_543 := n9_; clear n0_ n1_ n2_ n3_ n4_ n5_ n6_ n7_ n8_ n9_; clear hb hbox hg))
  (try simp only [Act.put, List.setIfInBounds_toArray, List.set_cons_zero, List.set_cons_succ])
  go_cut [13] (fun v13 wc => ∃ (kq : Nat) (x13_2 : Bool), v13 = .bool x13_2 ∧ Aside0 (spec_MapPut.j0 kq x13_2 l0_0 a1_0 a1_1 = some (r1, r2)) ∧ Aside0 (kq ≤ k) ∧ Aside0 (wc.heap[gb542]? = some (.cells #[(.slice A0_0 l0_0.length c0_0)] 45 (0, 0))) ∧ Aside0 (wc.heap[gb543]? = some (.cells #[.int .i64 a1_0, .int .i64 a1_1] 29 (0, 0))) ∧ Aside0 (wc.heap[gb544]? = some (.cells #[(.slice none 0 0)] 45 (0, 0))) ∧ Aside0 (Below w.heap.size w wc))
  case first =>
    have H := HC3.out
    clear HC3
    replace H := Option.bind_eq_some_iff.mp H
    obtain ⟨t545, A70, H⟩ := H
    replace H : (if t545 = true then ((spec_EndInside.f a1_0 a1_1).bind fun t546 => (spec_MapPut.j0 k (!t546) l0_0 a1_0 a1_1)) else (spec_MapPut.j0 k true l0_0 a1_0 a1_1)) = some (r1, r2) := H
    have A7 := Aside0.mk A70
    clear A70
    by_cases c8 : t545 = true
    · subst c8
      have H1 : ((spec_EndInside.f a1_0 a1_1).bind fun t546 => (spec_MapPut.j0 k (!t546) l0_0 a1_0 a1_1)) = some (r1, r2) := by rw [if_pos rfl] at H; exact H
      clear H
      have H := H1
      clear H1
      replace H := Option.bind_eq_some_iff.mp H
      obtain ⟨t546, A90, H⟩ := H
      replace H : (spec_MapPut.j0 k (!t546) l0_0 a1_0 a1_1) = some (r1, r2) := H
      have A9 := Aside0.mk A90
      clear A90
      have H' := Aside0.mk H
      clear H
      have hnb10 := NB542_543.out
      have hnc10 := NB543_542.out
      have hnb11 := NB542_544.out
      have hnc11 := NB544_542.out
      have hcz12_0 : w6.cell? ⟨gb542, 0, none⟩ = some (.slice A0_0 l0_0.length c0_0) := (blk_cell BK542.out 0).trans rfl
      have hfz12_0 := blk_frozen BK542.out 0
      go_wp2_with (first | ((with_reducible refine gate_callee (f := 25) rfl ?_); refine goesL_ (some 7) rfl rfl Try.func25 (by kernel_rfl) rfl #[.agg #[.slice A0_0 l0_0.length c0_0]] rfl (by (try simp only [List.map_toArray, List.map_cons, List.map_nil]); first | done | rfl | (simp only [List.length_drop, List.length_take]; rfl)) ?_; (with_reducible refine (spec_MapOk.calls k _ _ l0_0 true _ ?side1 ?side2 A7.out).mono ?_); (case side1 => repeat (first | exact (Kd.C_below HR0_0.out HB.out) | (with_reducible refine Kd.C_alloc ?_ _) | (with_reducible refine Kd.C_drewN ?_ _) | (with_reducible refine Kd.C_drew ?_))); (case side2 => exact HC0_0.out); rintro e w13 ⟨rfl, hb⟩; refine ⟨_, rfl, ?_⟩; have n0_ := bkB BK542 hb; have n1_ := bkB BK543 hb; have n2_ := bkB BK544 hb; have n3_ := Aside0.mk (below_step (bl HB) hb); clear BK542; clear BK543; clear BK544; clear HB; have BK542 := n0_; have BK543 := n1_; have BK544 := n2_; have HB := n3_; clear n0_ n1_ n2_ n3_; (try clear hb); (try clear hb2); (try clear hk); (try clear hi); have hnb14 := NB543_544.out; have hnc14 := NB544_543.out; have hcz15_0 : w13.cell? ⟨gb543, 0, none⟩ = some (.int .i64 a1_0) := (blk_cell BK543.out 0).trans rfl; have hcz15_1 : w13.cell? ⟨gb543, 1, none⟩ = some (.int .i64 a1_1) := (blk_cell BK543.out 1).trans rfl; have hfz15_0 := blk_frozen BK543.out 0; have hfz15_1 := blk_frozen BK543.out 1) | (go_at_call 22; (with_reducible refine (spec_EndInside.calls a1_0 a1_1 t546 _ A9.out).mono ?_); rintro e w16 ⟨rfl, hb⟩; have n0_ := bkB BK542 hb; have n1_ := bkB BK543 hb; have n2_ := bkB BK544 hb; have n3_ := Aside0.mk (below_step (bl HB) hb); clear BK542; clear BK543; clear BK544; clear HB; have BK542 := n0_; have BK543 := n1_; have BK544 := n2_; have HB := n3_; clear n0_ n1_ n2_ n3_; (try clear hb); (try clear hb2); (try clear hk); (try clear hi)))
      go_meet
      case rel => exact ⟨_, (!t546), (by first | rfl | (simp; done) | (simp [*]; done)), H', ⟨by first | omega | exact Nat.le_refl _⟩, ⟨by (with_reducible repeat refine bu ?_); exact BK542.out⟩, ⟨by (with_reducible repeat refine bu ?_); exact BK543.out⟩, ⟨by (with_reducible repeat refine bu ?_); exact BK544.out⟩, ⟨by repeat (first | (with_reducible first | exact HB.out | apply below_alloc | apply pw_below_drewN | apply below_drew1 | refine below_set ?_ GE542.out | refine below_set ?_ GE543.out | refine below_set ?_ GE544.out) | exact HB.out)⟩⟩
    · replace c8 := Bool.eq_false_iff.mpr c8
      subst c8
      have H1 : (spec_MapPut.j0 k true l0_0 a1_0 a1_1) = some (r1, r2) := by rw [if_neg (show ¬ (false = true) by decide)] at H; exact H
      clear H
      have H := H1
      clear H1
      have H' := Aside0.mk H
      clear H
      have hnb17 := NB542_543.out
      have hnc17 := NB543_542.out
      have hnb18 := NB542_544.out
      have hnc18 := NB544_542.out
      have hcz19_0 : w6.cell? ⟨gb542, 0, none⟩ = some (.slice A0_0 l0_0.length c0_0) := (blk_cell BK542.out 0).trans rfl
      have hfz19_0 := blk_frozen BK542.out 0
      go_wp2_with (first | ((with_reducible refine gate_callee (f := 25) rfl ?_); refine goesL_ (some 7) rfl rfl Try.func25 (by kernel_rfl) rfl #[.agg #[.slice A0_0 l0_0.length c0_0]] rfl (by (try simp only [List.map_toArray, List.map_cons, List.map_nil]); first | done | rfl | (simp only [List.length_drop, List.length_take]; rfl)) ?_; (with_reducible refine (spec_MapOk.calls k _ _ l0_0 false _ ?side1 ?side2 A7.out).mono ?_); (case side1 => repeat (first | exact (Kd.C_below HR0_0.out HB.out) | (with_reducible refine Kd.C_alloc ?_ _) | (with_reducible refine Kd.C_drewN ?_ _) | (with_reducible refine Kd.C_drew ?_))); (case side2 => exact HC0_0.out); rintro e w20 ⟨rfl, hb⟩; refine ⟨_, rfl, ?_⟩; have n0_ := bkB BK542 hb; have n1_ := bkB BK543 hb; have n2_ := bkB BK544 hb; have n3_ := Aside0.mk (below_step (bl HB) hb); clear BK542; clear BK543; clear BK544; clear HB; have BK542 := n0_; have BK543 := n1_; have BK544 := n2_; have HB := n3_; clear n0_ n1_ n2_ n3_; (try clear hb); (try clear hb2); (try clear hk); (try clear hi)))
      go_meet
      case rel => exact ⟨_, (true), (by first | rfl | (simp; done) | (simp [*]; done)), H', ⟨by first | omega | exact Nat.le_refl _⟩, ⟨by (with_reducible repeat refine bu ?_); exact BK542.out⟩, ⟨by (with_reducible repeat refine bu ?_); exact BK543.out⟩, ⟨by (with_reducible repeat refine bu ?_); exact BK544.out⟩, ⟨by repeat (first | (with_reducible first | exact HB.out | apply below_alloc | apply pw_below_drewN | apply below_drew1 | refine below_set ?_ GE542.out | refine below_set ?_ GE543.out | refine below_set ?_ GE544.out) | exact HB.out)⟩⟩
  case rest =>
    clear HC3
    try clear c1
    try clear c2
    try clear p2
    try clear c8
    try clear c10
    try clear c11
    try clear c14
    try clear c17
    try clear c18
    try clear hcz12_0
    try clear hcz15_0
    try clear hcz15_1
    try clear hcz19_0
    try clear hfz12_0
    try clear hfz15_0
    try clear hfz15_1
    try clear hfz19_0
    obtain ⟨kq, x13_2, rfl, HA, HJ2, BK542, BK543, BK544, HB⟩ := hcut
    cases kq with
    | zero => exact absurd HA.out (by simp [spec_MapPut.j0])
    | succ kj2 =>
      have H := HA.out
      clear HA
      simp only [spec_MapPut.j0] at H
      by_cases c21 : x13_2 = true
      · subst c21
        have H1 : (some (([] : List (S29)), 0)) = some (r1, r2) := by rw [if_pos rfl] at H; exact H
        clear H
        have H := H1
        clear H1
        simp only [Option.some.injEq, Prod.mk.injEq] at H
        obtain ⟨rfl, rfl⟩ := H
        have hnb22 := NB544_542.out
        have hnc22 := NB542_544.out
        have hnb23 := NB544_543.out
        have hnc23 := NB543_544.out
        have hcz24_0 : wc.cell? ⟨gb544, 0, none⟩ = some (.slice none 0 0) := (blk_cell BK544.out 0).trans rfl
        have hfz24_0 := blk_frozen BK544.out 0
        go_wp2
        refine bodyPost_ret (results_ct rfl _ _ gb544 45 #[.slice none 0 0] (0, 0) _ rfl (by (with_reducible repeat refine bu ?_); refine blk_put (cs := #[.slice none 0 0]) ?_ 0 _ rfl; (with_reducible repeat refine bu ?_); exact BK544.out) Try.underlying45 rfl (by kernel_rfl)) rfl ?_
        exact ⟨_, by first | rfl | (simp [errW_none, errW_some] <;> rfl) | (simp [*, errW_none, errW_some] <;> rfl), by first | exact Kd.R_nil _ _ _ _ _ | exact Kd.N_nil _ _ _ _ _ | exact Kd.V_nil _ _ _ _ _ | exact Kd.Q_nil _ _ _ _ _ | exact Kd.S_nil _ _ _ _ _, by repeat (first | (with_reducible first | exact HB.out | apply below_alloc | apply pw_below_drewN | apply below_drew1 | refine below_set ?_ GE542.out | refine below_set ?_ GE543.out | refine below_set ?_ GE544.out) | exact HB.out)⟩
      · replace c21 := Bool.eq_false_iff.mpr c21
        subst c21
        have H1 : ((spec_l3Copy.f l0_0).bind fun t547 => ((spec_l3Put.f kj2 t547 a1_0 a1_1).bind fun bt550 => (some (bt550.1, bt550.2)))) = some (r1, r2) := by rw [if_neg (show ¬ (false = true) by decide)] at H; exact H
        clear H
        have H := H1
        clear H1
        replace H := Option.bind_eq_some_iff.mp H
        obtain ⟨t547, A250, H⟩ := H
        replace H : ((spec_l3Put.f kj2 t547 a1_0 a1_1).bind fun bt550 => (some (bt550.1, bt550.2))) = some (r1, r2) := H
        have A25 := Aside0.mk A250
        clear A250
        replace H := Option.bind_eq_some_iff.mp H
        obtain ⟨⟨t550, t553⟩, A260, H⟩ := H
        replace H : (some (t550, t553)) = some (r1, r2) := H
        have A26 := Aside0.mk A260
        clear A260
        simp only [Option.some.injEq, Prod.mk.injEq] at H
        obtain ⟨rfl, rfl⟩ := H
        try go_wp2
        have n0_ := Aside0.mk (blk_drew BK542.out)
        have n1_ := Aside0.mk (blk_drew BK543.out)
        have n2_ := Aside0.mk (blk_drew BK544.out)
        have n3_ := Aside0.mk (below_drew1 HB.out)
        clear BK542
        clear BK543
        clear BK544
        clear HB
        have BK542 := n0_
        have BK543 := n1_
        have BK544 := n2_
        have HB := n3_
        clear n0_ n1_ n2_ n3_
        refine start_ (n := 8) (S := fun w' => w'.cell? ⟨gb542, 0, none⟩ = some (.slice A0_0 l0_0.length c0_0) ∧ w'.cell? ⟨gb543, 0, none⟩ = some (.int .i64 a1_0) ∧ w'.cell? ⟨gb543, 1, none⟩ = some (.int .i64 a1_1)) (ds := []) #[false, false, false, false, false, false, false, false] (by kernel_rfl) rfl rfl ⟨(blk_cell BK542.out 0).trans rfl, (blk_cell BK543.out 0).trans rfl, (blk_cell BK543.out 1).trans rfl⟩ (fun hHeld => ?_); refine with_tabW spec_MapPut.tab3 spec_MapPut.bits3 (fun HT_ HW_ => ?_)
        generalize wc.drew = w27 at BK542 BK543 BK544 HB hHeld ⊢
        refine take_ (i := 0) (N := some 15) (v := ?_) (a' := ?_) #[true, false, false, false, false, false, false, false] rfl rfl (take_ofW HT_.out HW_.out (by kernel_rfl)) (fun _ _ _ h => h) (Or.inl ⟨by rfl, ?_⟩) hHeld ?_ ?_
        rotate_left
        · rintro w' ⟨s0, s1, s2⟩
          go_simp
          with_reducible rfl
        rotate_left
        · simp only [Act.put, List.setIfInBounds_toArray, List.set_cons_zero, List.set_cons_succ, i64_w, i32_w]
          rfl
        refine take_ (i := 2) (N := some 17) (v := ?_) (a' := ?_) #[true, false, true, false, false, false, false, false] rfl rfl (take_ofW HT_.out HW_.out (by kernel_rfl)) (fun _ _ _ h => h) (Or.inl ⟨by rfl, ?_⟩) hHeld ?_ ?_
        rotate_left
        · rintro w' ⟨s0, s1, s2⟩
          go_simp
          with_reducible rfl
        rotate_left
        · simp only [Act.put, List.setIfInBounds_toArray, List.set_cons_zero, List.set_cons_succ, i64_w, i32_w]
          rfl
        refine one_ (i := 1) (N := some 16) #[true, true, true, false, false, false, false, false] rfl rfl (one_of HT_.out (by kernel_rfl)) (by decide) (fun K hK => ?_)
        refine goes_ Try.func70 (by kernel_rfl) rfl #[.agg #[.slice A0_0 l0_0.length c0_0]] (by rfl) rfl rfl (by (try simp only [List.map_toArray, List.map_cons, List.map_nil]); first | done | rfl | (simp only [List.length_drop, List.length_take]; rfl)) ?_
        with_reducible refine (spec_l3Copy.calls _ _ l0_0 t547 _ ?side1 ?side2 A25.out).mono ?_
        (case side1 => repeat (first | exact (Kd.C_below HR0_0.out HB.out) | (with_reducible refine Kd.C_alloc ?_ _) | (with_reducible refine Kd.C_drewN ?_ _) | (with_reducible refine Kd.C_drew ?_)))
        (case side2 => exact HC0_0.out)
        rintro e w28 ⟨v548, rfl, ho0, hb⟩
        refine ⟨_, rfl, ?_⟩
        have n0_ := Aside0.mk (Kd.R_lower (Kd.R_newB ho0 (g := gb543) (o := .cells #[.int .i64 a1_0, .int .i64 a1_1] 29 (0, 0)) (bk BK543)) (below_size (bl HB)))
        have n1_ := bkB BK542 hb
        have n2_ := bkB BK543 hb
        have n3_ := bkB BK544 hb
        have n4_ := Aside0.mk (below_step (bl HB) hb)
        clear BK542
        clear BK543
        clear BK544
        clear HB
        have HO549 := n0_
        have BK542 := n1_
        have BK543 := n2_
        have BK544 := n3_
        have HB := n4_
        clear n0_ n1_ n2_ n3_ n4_
        (try clear hb)
        (try clear hb2)
        (try clear hk)
        (try clear hi)
        (try clear ho0)
        obtain ⟨Ao29, co29, eo29⟩ := Kd.R_slice HO549.out
        (first | subst eo29 | (injection eo29 with f1_ f2_ f3_; have f4_ := f1_.symm; have f5_ := f3_.symm; clear f1_ f2_ f3_; subst f4_; subst f5_))
        refine hK.out _ _ ⟨(blk_cell BK542.out 0).trans rfl, (blk_cell BK543.out 0).trans rfl, (blk_cell BK543.out 1).trans rfl⟩ (fun hHeld => ?_)
        clear hK K
        refine norm_ (a' := ?_) ?_ ?_
        rotate_left
        · show Act.put _ (some 16) _ = _
          simp only [Act.put, List.setIfInBounds_toArray, List.set_cons_zero, List.set_cons_succ, i64_w, i32_w]
          rfl
        refine one_ (i := 3) (N := some 18) #[true, true, true, true, false, false, false, false] rfl rfl (one_of HT_.out (by kernel_rfl)) (by decide) (fun K hK => ?_)
        refine goes_ Try.func69 (by kernel_rfl) rfl #[.agg #[.slice Ao29 t547.length co29], .agg #[.int .i64 a1_0, .int .i64 a1_1]] (by rfl) rfl rfl (by (try simp only [List.map_toArray, List.map_cons, List.map_nil]); first | done | rfl | (simp only [List.length_drop, List.length_take]; rfl)) ?_
        with_reducible refine (spec_l3Put.calls kj2 (fun k_ => some k_ = (.slice Ao29 t547.length co29 : Value).ownBlock) (.slice Ao29 t547.length co29) t547 a1_0 a1_1 t550 t553 w _ ?side1 ?side2 A26.out).mono ?_
        (case side1 => repeat (first | (with_reducible first | exact HB.out | apply below_alloc | apply pw_below_drewN | apply below_drew1 | refine below_set ?_ GE542.out | refine below_set ?_ GE543.out | refine below_set ?_ GE544.out) | exact HB.out))
        (case side2 => exact Kd.R_tight rfl HO549.out)
        rintro e w30 ⟨v551, rfl, ho0, hb, hkp⟩
        refine ⟨_, rfl, ?_⟩
        have n0_ := Aside0.mk (blk_kept (bk BK542) hkp (fun hs_ => (fun e_ => (Kd.R_ne HO549.out BK542.out (by decide)) e_) hs_))
        have n1_ := Aside0.mk (blk_kept (bk BK543) hkp (fun hs_ => (fun e_ => (Kd.R_away HO549.out (fun _ hk => hk.2)) e_) hs_))
        have n2_ := Aside0.mk (blk_kept (bk BK544) hkp (fun hs_ => (fun e_ => (Kd.R_ne HO549.out BK544.out (by decide)) e_) hs_))
        have n3_ := Aside0.mk (Kd.R_mono (ok' := fun k_ => k_ ≠ gb543) ho0 (fun k_ hk_ => Or.elim hk_ (fun hs_ => fun e_ => (Kd.R_away HO549.out (fun _ hk => hk.2)) (by rw [← e_]; exact hs_)) (fun hn_ => (Kd.freshB (g := gb543) (o := .cells #[.int .i64 a1_0, .int .i64 a1_1] 29 (0, 0)) (bk BK543) k_ hn_))))
        have n4_ := Aside0.mk (hb)
        clear BK542
        clear BK543
        clear BK544
        clear HB
        clear HO549
        have BK542 := n0_
        have BK543 := n1_
        have BK544 := n2_
        have HO552 := n3_
        have HB := n4_
        clear n0_ n1_ n2_ n3_ n4_
        (try clear hb)
        (try clear hkp)
        (try clear ho0)
        obtain ⟨Ao31, co31, eo31⟩ := Kd.R_slice HO552.out
        (first | subst eo31 | (injection eo31 with f1_ f2_ f3_; have f4_ := f1_.symm; have f5_ := f3_.symm; clear f1_ f2_ f3_; subst f4_; subst f5_))
        refine hK.out _ _ ⟨(blk_cell BK542.out 0).trans rfl, (blk_cell BK543.out 0).trans rfl, (blk_cell BK543.out 1).trans rfl⟩ (fun hHeld => ?_)
        clear hK K
        refine norm_ (a' := ?_) ?_ ?_
        rotate_left
        · show Act.put _ (some 18) _ = _
          simp only [Act.put, List.setIfInBounds_toArray, List.set_cons_zero, List.set_cons_succ, i64_w, i32_w]
          rfl
        refine pure_ (i := 4) (N := some 19) (v := ?_) (a' := ?_) #[true, true, true, true, true, false, false, false] rfl rfl (any_of HT_.out (by kernel_rfl)) (fun _ _ _ h => h) (Or.inl ⟨by rfl, ?_⟩) ?_ ?_
        rotate_left
        · intro w'
          go_simp
          with_reducible rfl
        rotate_left
        · simp only [Act.put, List.setIfInBounds_toArray, List.set_cons_zero, List.set_cons_succ, i64_w, i32_w]
          rfl
        refine pure_ (i := 5) (N := some 20) (v := ?_) (a' := ?_) #[true, true, true, true, true, true, false, false] rfl rfl (any_of HT_.out (by kernel_rfl)) (fun _ _ _ h => h) (Or.inl ⟨by rfl, ?_⟩) ?_ ?_
        rotate_left
        · intro w'
          go_simp
          with_reducible rfl
        rotate_left
        · simp only [Act.put, List.setIfInBounds_toArray, List.set_cons_zero, List.set_cons_succ, i64_w, i32_w]
          rfl
        refine one_ (i := 6) (N := none) #[true, true, true, true, true, true, true, false] rfl rfl (one_of HT_.out (by kernel_rfl)) (by decide) (fun K hK => ?_)
        have hs32 : w30.cell? ⟨gb544, 0, none⟩ = some (.slice none 0 0) := (blk_cell BK544.out 0).trans rfl
        have hfs32 := blk_frozen BK544.out 0
        have hns32_0 := NB542_544.out
        have hns32_1 := NB543_544.out
        have hms32_0 := NB544_542.out
        have hms32_1 := NB544_543.out
        refine skip_ (w1 := ?_) (by rfl) rfl ?_ ?_
        rotate_left
        · go_simp
          rfl
        refine hK.out _ _ ⟨((cell_far (p := ⟨gb544, _, none⟩) NB542_544.out _).trans (hHeld.1)), ((cell_far (p := ⟨gb544, _, none⟩) NB543_544.out _).trans (hHeld.2.1)), ((cell_far (p := ⟨gb544, _, none⟩) NB543_544.out _).trans (hHeld.2.2))⟩ (fun hHeld => ?_)
        clear hK K
        refine pure_ (i := 7) (N := some 5) (v := ?_) (a' := ?_) #[true, true, true, true, true, true, true, true] rfl rfl (any_of HT_.out (by kernel_rfl)) (fun _ _ _ h => h) (Or.inl ⟨by rfl, ?_⟩) ?_ ?_
        rotate_left
        · intro w'
          go_simp
          with_reducible rfl
        rotate_left
        · simp only [Act.put, List.setIfInBounds_toArray, List.set_cons_zero, List.set_cons_succ, i64_w, i32_w]
          rfl
        refine done_ (done_of HT_.out (by kernel_rfl)) ?_
        try go_wp2
        refine bodyPost_ret (results_ct rfl _ _ gb544 45 #[.slice Ao31 t550.length co31] (0, 0) _ rfl (by (with_reducible repeat refine bu ?_); refine blk_put (cs := #[.slice none 0 0]) ?_ 0 _ rfl; (with_reducible repeat refine bu ?_); exact BK544.out) Try.underlying45 rfl (by kernel_rfl)) rfl ?_
        exact ⟨_, by first | rfl | (simp [errW_none, errW_some] <;> rfl) | (simp [*, errW_none, errW_some] <;> rfl), by (with_reducible repeat apply ru); exact Kd.R_mono (Kd.R_far (p := ⟨gb544, 0, none⟩) (Kd.R_types HO552.out BK544.out (by decide)) (fun _ hk => hk.2) (.slice Ao31 t550.length co31)) (fun _ hk => trivial), by repeat (first | (with_reducible first | exact HB.out | apply below_alloc | apply pw_below_drewN | apply below_drew1 | refine below_set ?_ GE542.out | refine below_set ?_ GE543.out | refine below_set ?_ GE544.out) | exact HB.out)⟩

end Go.Proofs.Ytiocgkggegahhaa.P
