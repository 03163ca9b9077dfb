import Derived.Test.YtiocgkggegahhaaGLawFnExactMapPutx5
-- written by hw.py for this claim
namespace Go.Proofs.Ytiocgkggegahhaa.P
open Go.RowKit Go.Proofs.YtiocgkggegahhaaUFnExactMapPut.PrintWords Go.Proofs.YtiocgkggegahhaaUFnExactMapPut.PrintLast Go.Proofs.YtiocgkggegahhaaUFnExactMapPut.PrintMore
attribute [local go_sem] max2_int min2_int max_two min_two max_three min_three max_four min_four
set_option linter.unusedVariables false
set_option linter.unusedSimpArgs false

/-! ### impl_MapTab_put: function 66 -/
def impl_MapTab_put.f (l0_0 : List (S29)) (a1_0 : Int) (a1_1 : Int) : Option ((List (S29)) × Int) := (impl_MapTab_copied.f l0_0).bind fun t635 => ((impl_MapPort.f l0_0 a1_0 a1_1).bind fun t639 => (if t639 = 0 then (if (l0_0.length : Int) ≥ 6 then (some (t635, t639)) else (if t635.length < 8796093022208 then ((impl_EndPoint_93.f (t635 ++ [(⟨a1_0, a1_1⟩ : S29)])).bind fun bt643 => (some (bt643.1, wrap64 (500 + (l0_0.length : Int))))) else (none))) else (some (t635, t639))))
set_option maxHeartbeats 8000000 in
set_option maxRecDepth 100000 in
theorem impl_MapTab_put.calls (A0_0 : Option Addr) (c0_0 : Nat) (l0_0 : List (S29)) (a1_0 : Int) (a1_1 : Int) (r1 : List (S29)) (r2 : Int) (w : World) (hr0_0 : Kd.C k29 w A0_0 l0_0.length l0_0) (hc0_0 : l0_0.length ≤ c0_0) (h : impl_MapTab_put.f l0_0 a1_0 a1_1 = some (r1, r2)) :
    Calls Try.prog 66 #[.agg #[.slice A0_0 l0_0.length c0_0], .agg #[.int .i64 a1_0, .int .i64 a1_1]] w fun e w' => ∃ v0_ : Value, e = .returned (.tuple #[.agg #[v0_], .int .i64 r2]) ∧ Kd.R k29 29 w' w.heap.size (fun _ => True) v0_ r1 ∧ Below w.heap.size w w' := by
  have hu45 := Try.underlying45
  have hu29 := Try.underlying29
  have HR0_0 := Aside0.mk hr0_0
  have HC0_0 := Aside0.mk hc0_0
  clear hr0_0 hc0_0
  have HB := Aside0.mk (Below.refl w.heap.size w)
  have H : ((impl_MapTab_copied.f l0_0).bind fun t635 => ((impl_MapPort.f l0_0 a1_0 a1_1).bind fun t639 => (if t639 = 0 then (if (l0_0.length : Int) ≥ 6 then (some (t635, t639)) else (if t635.length < 8796093022208 then ((impl_EndPoint_93.f (t635 ++ [(⟨a1_0, a1_1⟩ : S29)])).bind fun bt643 => (some (bt643.1, wrap64 (500 + (l0_0.length : Int))))) else (none))) else (some (t635, t639))))) = some (r1, r2) := h
  clear h
  replace H := Option.bind_eq_some_iff.mp H
  obtain ⟨t635, A30, H⟩ := H
  replace H : ((impl_MapPort.f l0_0 a1_0 a1_1).bind fun t639 => (if t639 = 0 then (if (l0_0.length : Int) ≥ 6 then (some (t635, t639)) else (if t635.length < 8796093022208 then ((impl_EndPoint_93.f (t635 ++ [(⟨a1_0, a1_1⟩ : S29)])).bind fun bt643 => (some (bt643.1, wrap64 (500 + (l0_0.length : Int))))) else (none))) else (some (t635, t639)))) = some (r1, r2) := H
  have A3 := Aside0.mk A30
  clear A30
  replace H := Option.bind_eq_some_iff.mp H
  obtain ⟨t639, A40, H⟩ := H
  replace H : (if t639 = 0 then (if (l0_0.length : Int) ≥ 6 then (some (t635, t639)) else (if t635.length < 8796093022208 then ((impl_EndPoint_93.f (t635 ++ [(⟨a1_0, a1_1⟩ : S29)])).bind fun bt643 => (some (bt643.1, wrap64 (500 + (l0_0.length : Int))))) else (none))) else (some (t635, t639))) = some (r1, r2) := H
  have A4 := Aside0.mk A40
  clear A40
  by_cases c5 : t639 = 0
  · rw [if_pos c5] at H
    have c5b0 : (t639 == 0) = true := beq_iff_eq.mpr c5
    have c5b1 : (t639 != 0) = false := bne_eq_false_iff_eq.mpr c5
    clear c5
    by_cases c6 : (l0_0.length : Int) ≥ 6
    · rw [if_pos c6] at H
      have c6b0 : decide (6 ≤ (l0_0.length : Int)) = true := decide_eq_true c6
      have c6b1 : decide (6 ≤ l0_0.length) = true := decide_eq_true (by omega)
      clear c6
      simp only [Option.some.injEq, Prod.mk.injEq] at H
      obtain ⟨rfl, rfl⟩ := H
      go_enter Try.func66, Try.ntmps66
      go_wp2_with (first | ((with_reducible refine gate_dst (N := 2) rfl ?_); refine box_event ?hg (N := 2) ?hd (cs := #[.slice A0_0 l0_0.length c0_0]) (t := 45) ?hr ?_; (case hd => rfl); (case hg => rfl); (case hr => first | (go_simp; done) | (go_simp; rfl)); intro gb632 hg w7 hbox hb; have n0_ := Aside0.mk (below_step (bl HB) hb); have n1_ := Aside0.mk (hbox); have n2_ := Aside0.mk ((by rw [hg]; exact (below_size (bl HB)) : w.heap.size ≤ gb632)); have n3_ := Aside0.mk ((by rw [hg]; exact (below_size (bl HB)) : w.heap.size ≤ gb632)); clear HB; have HB := n0_; have BK632 := n1_; have GW632 := n2_; have GE632 := n3_; clear n0_ n1_ n2_ n3_; clear hb hbox hg) | ((with_reducible refine gate_dst (N := 3) rfl ?_); refine box_event ?hg (N := 3) ?hd (cs := #[.int .i64 a1_0, .int .i64 a1_1]) (t := 29) ?hr ?_; (case hd => rfl); (case hg => rfl); (case hr => first | (go_simp; done) | (go_simp; rfl)); intro gb633 hg w8 hbox hb; have n0_ := bkB BK632 hb; have n1_ := Aside0.mk (below_step (bl HB) hb); have n2_ := Aside0.mk (hbox); have n3_ := Aside0.mk ((by rw [hg]; exact (below_size (bl HB)) : w.heap.size ≤ gb633)); have n4_ := Aside0.mk ((by rw [hg]; exact (below_size (bl HB)) : w.heap.size ≤ gb633)); have n5_ := Aside0.mk ((by rw [hg]; exact Nat.ne_of_lt (bkL BK632) : gb632 ≠ gb633)); have n6_ := Aside0.mk ((by rw [hg]; exact Nat.ne_of_gt (bkL BK632) : gb633 ≠ gb632)); clear BK632; clear HB; have BK632 := n0_; have HB := n1_; have BK633 := n2_; have GW633 := n3_; have GE633 := n4_; have NB632_633 := n5_; have NB633_632 := n6_; clear n0_ n1_ n2_ n3_ n4_ n5_ n6_; clear hb hbox hg) | ((with_reducible refine gate_dst (N := 4) rfl ?_); refine box_event ?hg (N := 4) ?hd (cs := #[.slice none 0 0]) (t := 45) ?hr ?_; (case hd => rfl); (case hg => rfl); (case hr => first | (go_simp; done) | (go_simp; rfl)); intro gb634 hg w9 hbox hb; have n0_ := bkB BK632 hb; have n1_ := bkB BK633 hb; have n2_ := Aside0.mk (below_step (bl HB) hb); have n3_ := Aside0.mk (hbox); have n4_ := Aside0.mk ((by rw [hg]; exact (below_size (bl HB)) : w.heap.size ≤ gb634)); have n5_ := Aside0.mk ((by rw [hg]; exact (below_size (bl HB)) : w.heap.size ≤ gb634)); have n6_ := Aside0.mk ((by rw [hg]; exact Nat.ne_of_lt (bkL BK632) : gb632 ≠ gb634)); have n7_ := Aside0.mk ((by rw [hg]; exact Nat.ne_of_gt (bkL BK632) : gb634 ≠ gb632)); have n8_ := Aside0.mk ((by rw [hg]; exact Nat.ne_of_lt (bkL BK633) : gb633 ≠ gb634)); have n9_ := Aside0.mk ((by rw [hg]; exact Nat.ne_of_gt (bkL BK633) : gb634 ≠ gb633)); clear BK632; clear BK633; clear HB; have BK632 := n0_; have BK633 := n1_; have HB := n2_; have BK634 := n3_; have GW634 := n4_; have GE634 := n5_; have NB632_634 := n6_; have NB634_632 := n7_; have NB633_634 := n8_; have NB634_633 := n9_; clear n0_ n1_ n2_ n3_ n4_ n5_ n6_ n7_ n8_ n9_; clear hb hbox hg; have hnb10 := NB632_633.out; have hnc10 := NB633_632.out; have hnb11 := NB632_634.out; have hnc11 := NB634_632.out; have hcz12_0 : w9.cell? ⟨gb632, 0, none⟩ = some (.slice A0_0 l0_0.length c0_0) := (blk_cell BK632.out 0).trans rfl; have hfz12_0 := blk_frozen BK632.out 0) | ((with_reducible refine gate_callee (f := 92) rfl ?_); refine goesL_ (some 9) rfl rfl Try.func92 (by kernel_rfl) rfl #[.agg #[.slice A0_0 l0_0.length c0_0]] rfl (by (try simp only [List.map_toArray, List.map_cons, List.map_nil]); first | done | rfl | (simp only [List.length_drop, List.length_take]; rfl)) ?_; (with_reducible refine (impl_MapTab_copied.calls _ _ l0_0 t635 _ ?side1 ?side2 A3.out).mono ?_); (case side1 => repeat (first | exact (Kd.C_below HR0_0.out HB.out) | (with_reducible refine Kd.C_alloc ?_ _) | (with_reducible refine Kd.C_drewN ?_ _) | (with_reducible refine Kd.C_drew ?_))); (case side2 => exact HC0_0.out); rintro e w13 ⟨v636, rfl, ho0, hb⟩; refine ⟨_, rfl, ?_⟩; have n0_ := Aside0.mk (Kd.R_lower (Kd.R_newB ho0 (g := gb633) (o := .cells #[.int .i64 a1_0, .int .i64 a1_1] 29 (0, 0)) (bk BK633)) (below_size (bl HB))); have n1_ := bkB BK632 hb; have n2_ := bkB BK633 hb; have n3_ := bkB BK634 hb; have n4_ := Aside0.mk (below_step (bl HB) hb); clear BK632; clear BK633; clear BK634; clear HB; have HO637 := n0_; have BK632 := n1_; have BK633 := n2_; have BK634 := n3_; have HB := n4_; clear n0_ n1_ n2_ n3_ n4_; (try clear hb); (try clear hb2); (try clear hk); (try clear hi); (try clear ho0)) | ((with_reducible refine gate_dst (N := 6) rfl ?_); refine box_event ?hg (N := 6) ?hd (cs := #[.slice none 0 0]) (t := 45) ?hr ?_; (case hd => rfl); (case hg => rfl); (case hr => first | (go_simp; done) | (go_simp; rfl)); intro gb638 hg w14 hbox hb; have n0_ := Aside0.mk (Kd.R_below (rs HO637) hb); have n1_ := bkB BK632 hb; have n2_ := bkB BK633 hb; have n3_ := bkB BK634 hb; have n4_ := Aside0.mk (below_step (bl HB) hb); have n5_ := Aside0.mk (hbox); have n6_ := Aside0.mk ((by rw [hg]; exact (below_size (bl HB)) : w.heap.size ≤ gb638)); have n7_ := Aside0.mk ((by rw [hg]; exact (below_size (bl HB)) : w.heap.size ≤ gb638)); have n8_ := Aside0.mk ((by rw [hg]; exact Nat.ne_of_lt (bkL BK632) : gb632 ≠ gb638)); have n9_ := Aside0.mk ((by rw [hg]; exact Nat.ne_of_gt (bkL BK632) : gb638 ≠ gb632)); have n10_ := Aside0.mk ((by rw [hg]; exact Nat.ne_of_lt (bkL BK633) : gb633 ≠ gb638)); have n11_ := Aside0.mk ((by rw [hg]; exact Nat.ne_of_gt (bkL BK633) : gb638 ≠ gb633)); have n12_ := Aside0.mk ((by rw [hg]; exact Nat.ne_of_lt (bkL BK634) : gb634 ≠ gb638)); have n13_ := Aside0.mk ((by rw [hg]; exact Nat.ne_of_gt (bkL BK634) : gb638 ≠ gb634)); clear HO637; clear BK632; clear BK633; clear BK634; clear HB; have HO637 := n0_; have BK632 := n1_; have BK633 := n2_; have BK634 := n3_; have HB := n4_; have BK638 := n5_; have GW638 := n6_; have GE638 := n7_; have NB632_638 := n8_; have NB638_632 := n9_; have NB633_638 := n10_; have NB638_633 := n11_; have NB634_638 := n12_; have NB638_634 := n13_; clear n0_ n1_ n2_ n3_ n4_ n5_ n6_ n7_ n8_ n9_ n10_ n11_ n12_ n13_; clear hb hbox hg; obtain ⟨Ao15, co15, eo15⟩ := Kd.R_slice HO637.out; subst eo15; have hnb16 := NB638_632.out; have hnc16 := NB632_638.out; have hnb17 := NB638_633.out; have hnc17 := NB633_638.out; have hnb18 := NB638_634.out; have hnc18 := NB634_638.out; have hcz19_0 : w14.cell? ⟨gb638, 0, none⟩ = some (.slice none 0 0) := (blk_cell BK638.out 0).trans rfl; have hfz19_0 := blk_frozen BK638.out 0; have hcz20_0 : w14.cell? ⟨gb632, 0, none⟩ = some (.slice A0_0 l0_0.length c0_0) := (blk_cell BK632.out 0).trans rfl; have hfz20_0 := blk_frozen BK632.out 0; have hnb21 := NB633_634.out; have hnc21 := NB634_633.out; have hcz22_0 : w14.cell? ⟨gb633, 0, none⟩ = some (.int .i64 a1_0) := (blk_cell BK633.out 0).trans rfl; have hcz22_1 : w14.cell? ⟨gb633, 1, none⟩ = some (.int .i64 a1_1) := (blk_cell BK633.out 1).trans rfl; have hfz22_0 := blk_frozen BK633.out 0; have hfz22_1 := blk_frozen BK633.out 1) | ((with_reducible refine gate_callee (f := 27) rfl ?_); refine goesL_ (some 12) rfl rfl Try.func27 (by kernel_rfl) rfl #[.agg #[.slice A0_0 l0_0.length c0_0], .agg #[.int .i64 a1_0, .int .i64 a1_1]] rfl (by (try simp only [List.map_toArray, List.map_cons, List.map_nil]); first | done | rfl | (simp only [List.length_drop, List.length_take]; rfl)) ?_; (with_reducible refine (impl_MapPort.calls _ _ l0_0 a1_0 a1_1 t639 _ ?side1 ?side2 A4.out).mono ?_); (case side1 => exact Kd.C_below HR0_0.out (bl HB)); (case side2 => exact HC0_0.out); rintro e w23 ⟨rfl, hb⟩; refine ⟨_, rfl, ?_⟩; have n0_ := Aside0.mk (Kd.R_below (by (with_reducible repeat apply ru); exact (Kd.R_mono (Kd.R_far (p := ⟨gb638, 0, none⟩) (Kd.R_types HO637.out BK638.out (by decide)) (fun _ hk => hk.2) (.slice Ao15 t635.length co15)) (fun _ h_ => h_.1))) hb); have n1_ := Aside0.mk (blk_below (g := gb632) (o := .cells #[.slice A0_0 l0_0.length c0_0] 45 (0, 0)) (by (with_reducible repeat refine bu ?_); refine blk_far ?_ NB632_638.out _; (with_reducible repeat refine bu ?_); exact BK632.out) hb); have n2_ := Aside0.mk (blk_below (g := gb633) (o := .cells #[.int .i64 a1_0, .int .i64 a1_1] 29 (0, 0)) (by (with_reducible repeat refine bu ?_); refine blk_far ?_ NB633_638.out _; (with_reducible repeat refine bu ?_); exact BK633.out) hb); have n3_ := Aside0.mk (blk_below (g := gb634) (o := .cells #[.slice none 0 0] 45 (0, 0)) (by (with_reducible repeat refine bu ?_); refine blk_far ?_ NB634_638.out _; (with_reducible repeat refine bu ?_); exact BK634.out) hb); have n4_ := Aside0.mk (blk_below (g := gb638) (o := .cells #[.slice Ao15 t635.length co15] 45 (0, 0)) (by (with_reducible repeat refine bu ?_); refine blk_put (cs := #[.slice none 0 0]) ?_ 0 _ rfl; (with_reducible repeat refine bu ?_); exact BK638.out) hb); have n5_ := Aside0.mk (below_step (bl HB) hb); clear HO637; clear BK632; clear BK633; clear BK634; clear BK638; clear HB; have HO637 := n0_; have BK632 := n1_; have BK633 := n2_; have BK634 := n3_; have BK638 := n4_; have HB := n5_; clear n0_ n1_ n2_ n3_ n4_ n5_; (try clear hb); (try clear hb2); (try clear hk); (try clear hi); have hcz24_0 : w23.cell? ⟨gb632, 0, none⟩ = some (.slice A0_0 l0_0.length c0_0) := (blk_cell BK632.out 0).trans rfl; have hfz24_0 := blk_frozen BK632.out 0; have hcz25_0 : w23.cell? ⟨gb638, 0, none⟩ = some (.slice Ao15 t635.length co15) := (blk_cell BK638.out 0).trans rfl; have hfz25_0 := blk_frozen BK638.out 0; have hcz26_0 : w23.cell? ⟨gb634, 0, none⟩ = some (.slice none 0 0) := (blk_cell BK634.out 0).trans rfl; have hfz26_0 := blk_frozen BK634.out 0))
      refine bodyPost_ret (results_ct rfl _ _ gb634 45 #[.slice Ao15 t635.length co15] (0, 0) _ rfl (by (with_reducible repeat refine bu ?_); refine blk_put (cs := #[.slice none 0 0]) ?_ 0 _ rfl; (with_reducible repeat refine bu ?_); exact BK634.out) Try.underlying45 rfl (by kernel_rfl)) rfl ?_
      exact ⟨_, by first | rfl | (simp [errW_none, errW_some] <;> rfl) | (simp [*, errW_none, errW_some] <;> rfl), by (with_reducible repeat apply ru); exact Kd.R_mono (Kd.R_far (p := ⟨gb634, 0, none⟩) (Kd.R_types HO637.out BK634.out (by decide)) (fun _ hk => hk.2) (.slice Ao15 t635.length co15)) (fun _ hk => trivial), by repeat (first | (with_reducible first | exact HB.out | apply below_alloc | apply pw_below_drewN | apply below_drew1 | refine below_set ?_ GE632.out | refine below_set ?_ GE633.out | refine below_set ?_ GE634.out | refine below_set ?_ GE638.out) | exact HB.out)⟩
    · rw [if_neg c6] at H
      have c6b0 : decide (6 ≤ (l0_0.length : Int)) = false := decide_eq_false c6
      have c6b1 : decide (6 ≤ l0_0.length) = false := decide_eq_false (by omega)
      clear c6
      by_cases c27 : t635.length < 8796093022208
      · rw [if_pos c27] at H
        have LMc27 := Aside0.mk c27
        clear c27
        obtain ⟨y640, hy640⟩ : ∃ y_ : List (S29), y_ = (t635 ++ [(⟨a1_0, a1_1⟩ : S29)]) := ⟨_, rfl⟩
        replace H : ((impl_EndPoint_93.f y640).bind fun bt643 => (some (bt643.1, wrap64 (500 + (l0_0.length : Int))))) = some (r1, r2) := by first | (rw [hy640]; with_reducible exact H) | (have H2_ := (Option.bind_some _ _).symm.trans H; rw [hy640]; with_reducible exact H2_) | (have H2_ := (Option.bind_some _ _).symm.trans H; with_reducible exact H2_) | with_reducible exact H | (rw [hy640]; exact H) | exact H
        have Ny640 := Aside0.mk hy640
        clear hy640
        replace H := Option.bind_eq_some_iff.mp H
        obtain ⟨⟨t643, t646⟩, A280, H⟩ := H
        replace H : (some (t643, wrap64 (500 + (l0_0.length : Int)))) = some (r1, r2) := H
        have A28 := Aside0.mk A280
        clear A280
        simp only [Option.some.injEq, Prod.mk.injEq] at H
        obtain ⟨rfl, rfl⟩ := H
        go_enter Try.func66, Try.ntmps66
        try go_wp2_with (first | ((with_reducible refine gate_dst (N := 2) rfl ?_); refine box_event ?hg (N := 2) ?hd (cs := #[.slice A0_0 l0_0.length c0_0]) (t := 45) ?hr ?_; (case hd => rfl); (case hg => rfl); (case hr => first | (go_simp; done) | (go_simp; rfl)); intro gb632 hg w29 hbox hb; have n0_ := Aside0.mk (below_step (bl HB) hb); have n1_ := Aside0.mk (hbox); have n2_ := Aside0.mk ((by rw [hg]; exact (below_size (bl HB)) : w.heap.size ≤ gb632)); have n3_ := Aside0.mk ((by rw [hg]; exact (below_size (bl HB)) : w.heap.size ≤ gb632)); clear HB; have HB := n0_; have BK632 := n1_; have GW632 := n2_; have GE632 := n3_; clear n0_ n1_ n2_ n3_; clear hb hbox hg) | ((with_reducible refine gate_dst (N := 3) rfl ?_); refine box_event ?hg (N := 3) ?hd (cs := #[.int .i64 a1_0, .int .i64 a1_1]) (t := 29) ?hr ?_; (case hd => rfl); (case hg => rfl); (case hr => first | (go_simp; done) | (go_simp; rfl)); intro gb633 hg w30 hbox hb; have n0_ := bkB BK632 hb; have n1_ := Aside0.mk (below_step (bl HB) hb); have n2_ := Aside0.mk (hbox); have n3_ := Aside0.mk ((by rw [hg]; exact (below_size (bl HB)) : w.heap.size ≤ gb633)); have n4_ := Aside0.mk ((by rw [hg]; exact (below_size (bl HB)) : w.heap.size ≤ gb633)); have n5_ := Aside0.mk ((by rw [hg]; exact Nat.ne_of_lt (bkL BK632) : gb632 ≠ gb633)); have n6_ := Aside0.mk ((by rw [hg]; exact Nat.ne_of_gt (bkL BK632) : gb633 ≠ gb632)); clear BK632; clear HB; have BK632 := n0_; have HB := n1_; have BK633 := n2_; have GW633 := n3_; have GE633 := n4_; have NB632_633 := n5_; have NB633_632 := n6_; clear n0_ n1_ n2_ n3_ n4_ n5_ n6_; clear hb hbox hg) | ((with_reducible refine gate_dst (N := 4) rfl ?_); refine box_event ?hg (N := 4) ?hd (cs := #[.slice none 0 0]) (t := 45) ?hr ?_; (case hd => rfl); (case hg => rfl); (case hr => first | (go_simp; done) | (go_simp; rfl)); intro gb634 hg w31 hbox hb; have n0_ := bkB BK632 hb; have n1_ := bkB BK633 hb; have n2_ := Aside0.mk (below_step (bl HB) hb); have n3_ := Aside0.mk (hbox); have n4_ := Aside0.mk ((by rw [hg]; exact (below_size (bl HB)) : w.heap.size ≤ gb634)); have n5_ := Aside0.mk ((by rw [hg]; exact (below_size (bl HB)) : w.heap.size ≤ gb634)); have n6_ := Aside0.mk ((by rw [hg]; exact Nat.ne_of_lt (bkL BK632) : gb632 ≠ gb634)); have n7_ := Aside0.mk ((by rw [hg]; exact Nat.ne_of_gt (bkL BK632) : gb634 ≠ gb632)); have n8_ := Aside0.mk ((by rw [hg]; exact Nat.ne_of_lt (bkL BK633) : gb633 ≠ gb634)); have n9_ := Aside0.mk ((by rw [hg]; exact Nat.ne_of_gt (bkL BK633) : gb634 ≠ gb633)); clear BK632; clear BK633; clear HB; have BK632 := n0_; have BK633 := n1_; have HB := n2_; have BK634 := n3_; have GW634 := n4_; have GE634 := n5_; have NB632_634 := n6_; have NB634_632 := n7_; have NB633_634 := n8_; have NB634_633 := n9_; clear n0_ n1_ n2_ n3_ n4_ n5_ n6_ n7_ n8_ n9_; clear hb hbox hg; have hnb32 := NB632_633.out; have hnc32 := NB633_632.out; have hnb33 := NB632_634.out; have hnc33 := NB634_632.out; have hcz34_0 : w31.cell? ⟨gb632, 0, none⟩ = some (.slice A0_0 l0_0.length c0_0) := (blk_cell BK632.out 0).trans rfl; have hfz34_0 := blk_frozen BK632.out 0) | ((with_reducible refine gate_callee (f := 92) rfl ?_); refine goesL_ (some 9) rfl rfl Try.func92 (by kernel_rfl) rfl #[.agg #[.slice A0_0 l0_0.length c0_0]] rfl (by (try simp only [List.map_toArray, List.map_cons, List.map_nil]); first | done | rfl | (simp only [List.length_drop, List.length_take]; rfl)) ?_; (with_reducible refine (impl_MapTab_copied.calls _ _ l0_0 t635 _ ?side1 ?side2 A3.out).mono ?_); (case side1 => repeat (first | exact (Kd.C_below HR0_0.out HB.out) | (with_reducible refine Kd.C_alloc ?_ _) | (with_reducible refine Kd.C_drewN ?_ _) | (with_reducible refine Kd.C_drew ?_))); (case side2 => exact HC0_0.out); rintro e w35 ⟨v636, rfl, ho0, hb⟩; refine ⟨_, rfl, ?_⟩; have n0_ := Aside0.mk (Kd.R_lower (Kd.R_newB ho0 (g := gb633) (o := .cells #[.int .i64 a1_0, .int .i64 a1_1] 29 (0, 0)) (bk BK633)) (below_size (bl HB))); have n1_ := bkB BK632 hb; have n2_ := bkB BK633 hb; have n3_ := bkB BK634 hb; have n4_ := Aside0.mk (below_step (bl HB) hb); clear BK632; clear BK633; clear BK634; clear HB; have HO637 := n0_; have BK632 := n1_; have BK633 := n2_; have BK634 := n3_; have HB := n4_; clear n0_ n1_ n2_ n3_ n4_; (try clear hb); (try clear hb2); (try clear hk); (try clear hi); (try clear ho0)) | ((with_reducible refine gate_dst (N := 6) rfl ?_); refine box_event ?hg (N := 6) ?hd (cs := #[.slice none 0 0]) (t := 45) ?hr ?_; (case hd => rfl); (case hg => rfl); (case hr => first | (go_simp; done) | (go_simp; rfl)); intro gb638 hg w36 hbox hb; have n0_ := Aside0.mk (Kd.R_below (rs HO637) hb); have n1_ := bkB BK632 hb; have n2_ := bkB BK633 hb; have n3_ := bkB BK634 hb; have n4_ := Aside0.mk (below_step (bl HB) hb); have n5_ := Aside0.mk (hbox); have n6_ := Aside0.mk ((by rw [hg]; exact (below_size (bl HB)) : w.heap.size ≤ gb638)); have n7_ := Aside0.mk ((by rw [hg]; exact (below_size (bl HB)) : w.heap.size ≤ gb638)); have n8_ := Aside0.mk ((by rw [hg]; exact Nat.ne_of_lt (bkL BK632) : gb632 ≠ gb638)); have n9_ := Aside0.mk ((by rw [hg]; exact Nat.ne_of_gt (bkL BK632) : gb638 ≠ gb632)); have n10_ := Aside0.mk ((by rw [hg]; exact Nat.ne_of_lt (bkL BK633) : gb633 ≠ gb638)); have n11_ := Aside0.mk ((by rw [hg]; exact Nat.ne_of_gt (bkL BK633) : gb638 ≠ gb633)); have n12_ := Aside0.mk ((by rw [hg]; exact Nat.ne_of_lt (bkL BK634) : gb634 ≠ gb638)); have n13_ := Aside0.mk ((by rw [hg]; exact Nat.ne_of_gt (bkL BK634) : gb638 ≠ gb634)); clear HO637; clear BK632; clear BK633; clear BK634; clear HB; have HO637 := n0_; have BK632 := n1_; have BK633 := n2_; have BK634 := n3_; have HB := n4_; have BK638 := n5_; have GW638 := n6_; have GE638 := n7_; have NB632_638 := n8_; have NB638_632 := n9_; have NB633_638 := n10_; have NB638_633 := n11_; have NB634_638 := n12_; have NB638_634 := n13_; clear n0_ n1_ n2_ n3_ n4_ n5_ n6_ n7_ n8_ n9_ n10_ n11_ n12_ n13_; clear hb hbox hg; obtain ⟨Ao37, co37, eo37⟩ := Kd.R_slice HO637.out; subst eo37; have hnb38 := NB638_632.out; have hnc38 := NB632_638.out; have hnb39 := NB638_633.out; have hnc39 := NB633_638.out; have hnb40 := NB638_634.out; have hnc40 := NB634_638.out; have hcz41_0 : w36.cell? ⟨gb638, 0, none⟩ = some (.slice none 0 0) := (blk_cell BK638.out 0).trans rfl; have hfz41_0 := blk_frozen BK638.out 0; have hcz42_0 : w36.cell? ⟨gb632, 0, none⟩ = some (.slice A0_0 l0_0.length c0_0) := (blk_cell BK632.out 0).trans rfl; have hfz42_0 := blk_frozen BK632.out 0; have hnb43 := NB633_634.out; have hnc43 := NB634_633.out; have hcz44_0 : w36.cell? ⟨gb633, 0, none⟩ = some (.int .i64 a1_0) := (blk_cell BK633.out 0).trans rfl; have hcz44_1 : w36.cell? ⟨gb633, 1, none⟩ = some (.int .i64 a1_1) := (blk_cell BK633.out 1).trans rfl; have hfz44_0 := blk_frozen BK633.out 0; have hfz44_1 := blk_frozen BK633.out 1) | ((with_reducible refine gate_callee (f := 27) rfl ?_); refine goesL_ (some 12) rfl rfl Try.func27 (by kernel_rfl) rfl #[.agg #[.slice A0_0 l0_0.length c0_0], .agg #[.int .i64 a1_0, .int .i64 a1_1]] rfl (by (try simp only [List.map_toArray, List.map_cons, List.map_nil]); first | done | rfl | (simp only [List.length_drop, List.length_take]; rfl)) ?_; (with_reducible refine (impl_MapPort.calls _ _ l0_0 a1_0 a1_1 t639 _ ?side1 ?side2 A4.out).mono ?_); (case side1 => exact Kd.C_below HR0_0.out (bl HB)); (case side2 => exact HC0_0.out); rintro e w45 ⟨rfl, hb⟩; refine ⟨_, rfl, ?_⟩; have n0_ := Aside0.mk (Kd.R_below (by (with_reducible repeat apply ru); exact (Kd.R_mono (Kd.R_far (p := ⟨gb638, 0, none⟩) (Kd.R_types HO637.out BK638.out (by decide)) (fun _ hk => hk.2) (.slice Ao37 t635.length co37)) (fun _ h_ => h_.1))) hb); have n1_ := Aside0.mk (blk_below (g := gb632) (o := .cells #[.slice A0_0 l0_0.length c0_0] 45 (0, 0)) (by (with_reducible repeat refine bu ?_); refine blk_far ?_ NB632_638.out _; (with_reducible repeat refine bu ?_); exact BK632.out) hb); have n2_ := Aside0.mk (blk_below (g := gb633) (o := .cells #[.int .i64 a1_0, .int .i64 a1_1] 29 (0, 0)) (by (with_reducible repeat refine bu ?_); refine blk_far ?_ NB633_638.out _; (with_reducible repeat refine bu ?_); exact BK633.out) hb); have n3_ := Aside0.mk (blk_below (g := gb634) (o := .cells #[.slice none 0 0] 45 (0, 0)) (by (with_reducible repeat refine bu ?_); refine blk_far ?_ NB634_638.out _; (with_reducible repeat refine bu ?_); exact BK634.out) hb); have n4_ := Aside0.mk (blk_below (g := gb638) (o := .cells #[.slice Ao37 t635.length co37] 45 (0, 0)) (by (with_reducible repeat refine bu ?_); refine blk_put (cs := #[.slice none 0 0]) ?_ 0 _ rfl; (with_reducible repeat refine bu ?_); exact BK638.out) hb); have n5_ := Aside0.mk (below_step (bl HB) hb); clear HO637; clear BK632; clear BK633; clear BK634; clear BK638; clear HB; have HO637 := n0_; have BK632 := n1_; have BK633 := n2_; have BK634 := n3_; have BK638 := n4_; have HB := n5_; clear n0_ n1_ n2_ n3_ n4_ n5_; (try clear hb); (try clear hb2); (try clear hk); (try clear hi); have hcz46_0 : w45.cell? ⟨gb632, 0, none⟩ = some (.slice A0_0 l0_0.length c0_0) := (blk_cell BK632.out 0).trans rfl; have hfz46_0 := blk_frozen BK632.out 0; have hcz47_0 : w45.cell? ⟨gb638, 0, none⟩ = some (.slice Ao37 t635.length co37) := (blk_cell BK638.out 0).trans rfl; have hfz47_0 := blk_frozen BK638.out 0; have hcz48_0 : w45.cell? ⟨gb633, 0, none⟩ = some (.int .i64 a1_0) := (blk_cell BK633.out 0).trans rfl; have hcz48_1 : w45.cell? ⟨gb633, 1, none⟩ = some (.int .i64 a1_1) := (blk_cell BK633.out 1).trans rfl; have hfz48_0 := blk_frozen BK633.out 0; have hfz48_1 := blk_frozen BK633.out 1) | ((with_reducible refine gate_builtin (b := .append) (xs := #[.tmp 24, .tmp 26]) rfl ?_); at_builtin; refine Kd.R_append k29 (w0 := w) w.heap.size rfl (.tmp 24) (.tmp 26) 43 29 (.agg #[(.int .i64 0), (.int .i64 0)]) 16 rfl Try.underlying43 info29 rfl (by decide) (by omega) (.slice Ao37 t635.length co37) t635 (⟨a1_0, a1_1⟩ : S29) [.int .i64 a1_0, .int .i64 a1_1] (fun k_ => k_ ≠ gb633) (fun _ => False) rfl rfl ?aP (fun _ hk => hk.elim) ?aF ?aO ?aB ?aS ?aL ?_; (case aP => exact k29_mkM _ _ _ (⟨a1_0, a1_1⟩ : S29)); (case aB => exact (bl HB)); (case aF => exact (fun k_ hk => Kd.freshB (g := gb633) (o := .cells #[.int .i64 a1_0, .int .i64 a1_1] 29 (0, 0)) (bk BK633) k_ hk)); (case aO => exact (by (with_reducible repeat apply ru); exact Kd.R_mono HO637.out (fun _ hk => hk.2))); (case aS => exact (below_size (bl HB))); (case aL => have := LMc27.out; omega); intro v641 w49 ho hb hg hat; rw [← Ny640.out] at ho; have n0_ := Aside0.mk (blk_grown (g := gb632) (o := .cells #[.slice A0_0 l0_0.length c0_0] 45 (0, 0)) (bk BK632) hg (Kd.R_ne HO637.out BK632.out (by decide))); have n1_ := Aside0.mk (blk_grown (g := gb633) (o := .cells #[.int .i64 a1_0, .int .i64 a1_1] 29 (0, 0)) (bk BK633) hg (Kd.R_away HO637.out (fun _ hk => hk.2))); have n2_ := Aside0.mk (blk_grown (g := gb634) (o := .cells #[.slice none 0 0] 45 (0, 0)) (bk BK634) hg (Kd.R_ne HO637.out BK634.out (by decide))); have n3_ := Aside0.mk (blk_grown (g := gb638) (o := .cells #[.slice Ao37 t635.length co37] 45 (0, 0)) (bk BK638) hg (Kd.R_ne HO637.out BK638.out (by decide))); have n4_ := Aside0.mk (hb); have n5_ := Aside0.mk (ho); clear BK632; clear BK633; clear BK634; clear BK638; clear HB; clear HO637; have BK632 := n0_; have BK633 := n1_; have BK634 := n2_; have BK638 := n3_; have HB := n4_; have HO642 := n5_; clear n0_ n1_ n2_ n3_ n4_ n5_; clear ho hb hg hat; obtain ⟨Ao50, co50, eo50⟩ := Kd.R_slice HO642.out; subst eo50) | ((with_reducible refine gate_callee (f := 93) rfl ?_); refine goesL_ (some 28) rfl rfl Try.func93 (by kernel_rfl) rfl #[.slice Ao50 y640.length co50] rfl (by (try simp only [List.map_toArray, List.map_cons, List.map_nil]); first | done | rfl | (simp only [List.length_drop, List.length_take]; rfl)) ?_; (with_reducible refine (clip_end Ao50 y640.length co50 (Kd.R_reads' HO642.out).2.1 _).mono ?_); rintro e w51 ⟨v644, rfl, hv_, hw_⟩; refine ⟨_, rfl, ?_⟩; have n0_ := bkW BK632 hw_; have n1_ := bkW BK633 hw_; have n2_ := bkW BK634 hw_; have n3_ := bkW BK638 hw_; have n4_ := clipNil HO642 w51 A28.out; have n5_ := clipR (ok' := fun k_ => some k_ ≠ (.slice none 0 0 : Value).ownBlock ∧ k_ ≠ gb633) HO642 hv_ hw_ A28.out (fun k_ hk_ => by first | exact ⟨by simp [Value.ownBlock], hk_⟩ | (simp [Value.ownBlock]; done) | exact hk_); have n6_ := blW HB hw_; clear hv_ hw_; clear BK632; clear BK633; clear BK634; clear BK638; clear HO642; clear HB; have BK632 := n0_; have BK633 := n1_; have BK634 := n2_; have BK638 := n3_; have HO642 := n4_; have HO645 := n5_; have HB := n6_; clear n0_ n1_ n2_ n3_ n4_ n5_ n6_; (try clear hb); (try clear hkp); (try clear ho0); (try clear hy0); obtain ⟨Ao52, co52, eo52⟩ := Kd.R_slice HO645.out; subst eo52; have hcz53_0 : w51.cell? ⟨gb638, 0, none⟩ = some (.slice Ao37 t635.length co37) := (blk_cell BK638.out 0).trans rfl; have hfz53_0 := blk_frozen BK638.out 0))
        have n0_ : Aside0 (Kd.R k29 29 (w51.setCell ⟨gb638, 0, none⟩ (.slice Ao52 t643.length co52)) w.heap.size (fun k_ => k_ ≠ gb633) (.slice none 0 0) t646) := ⟨by (with_reducible repeat apply ru); exact Kd.R_mono (Kd.R_far (p := ⟨gb638, 0, none⟩) (Kd.R_types HO642.out BK638.out (by decide)) (fun _ hk => hk.2) (.slice Ao52 t643.length co52)) (fun _ hk => hk.1)⟩
        have n1_ : Aside0 (Kd.R k29 29 (w51.setCell ⟨gb638, 0, none⟩ (.slice Ao52 t643.length co52)) w.heap.size (fun k_ => some k_ ≠ (.slice none 0 0 : Value).ownBlock ∧ k_ ≠ gb633) (.slice Ao52 t643.length co52) t643) := ⟨by (with_reducible repeat apply ru); exact Kd.R_mono (Kd.R_far (p := ⟨gb638, 0, none⟩) (Kd.R_types HO645.out BK638.out (by decide)) (fun _ hk => hk.2) (.slice Ao52 t643.length co52)) (fun _ hk => ⟨hk.1.1, hk.1.2⟩)⟩
        have n2_ : Aside0 ((w51.setCell ⟨gb638, 0, none⟩ (.slice Ao52 t643.length co52)).heap[gb632]? = some (.cells #[.slice A0_0 l0_0.length c0_0] 45 (0, 0))) := ⟨by (with_reducible repeat refine bu ?_); refine blk_far ?_ NB632_638.out _; (with_reducible repeat refine bu ?_); exact BK632.out⟩
        have n3_ : Aside0 ((w51.setCell ⟨gb638, 0, none⟩ (.slice Ao52 t643.length co52)).heap[gb633]? = some (.cells #[.int .i64 a1_0, .int .i64 a1_1] 29 (0, 0))) := ⟨by (with_reducible repeat refine bu ?_); refine blk_far ?_ NB633_638.out _; (with_reducible repeat refine bu ?_); exact BK633.out⟩
        have n4_ : Aside0 ((w51.setCell ⟨gb638, 0, none⟩ (.slice Ao52 t643.length co52)).heap[gb634]? = some (.cells #[.slice none 0 0] 45 (0, 0))) := ⟨by (with_reducible repeat refine bu ?_); refine blk_far ?_ NB634_638.out _; (with_reducible repeat refine bu ?_); exact BK634.out⟩
        have n5_ : Aside0 ((w51.setCell ⟨gb638, 0, none⟩ (.slice Ao52 t643.length co52)).heap[gb638]? = some (.cells #[.slice Ao52 t643.length co52] 45 (0, 0))) := ⟨by (with_reducible repeat refine bu ?_); refine blk_put (cs := #[.slice Ao37 t635.length co37]) ?_ 0 _ rfl; (with_reducible repeat refine bu ?_); exact BK638.out⟩
        have n6_ : Aside0 (Below w.heap.size w (w51.setCell ⟨gb638, 0, none⟩ (.slice Ao52 t643.length co52))) := ⟨by repeat (first | (with_reducible first | exact HB.out | apply below_alloc | apply pw_below_drewN | apply below_drew1 | refine below_set ?_ GE632.out | refine below_set ?_ GE633.out | refine below_set ?_ GE634.out | refine below_set ?_ GE638.out) | exact HB.out)⟩
        (try clear HO642)
        (try clear HO645)
        (try clear BK632)
        (try clear BK633)
        (try clear BK634)
        (try clear BK638)
        (try clear HB)
        generalize (w51.setCell ⟨gb638, 0, none⟩ (.slice Ao52 t643.length co52)) = w54 at n0_ n1_ n2_ n3_ n4_ n5_ n6_ ⊢
        have HO642 := n0_
        have HO645 := n1_
        have BK632 := n2_
        have BK633 := n3_
        have BK634 := n4_
        have BK638 := n5_
        have HB := n6_
        clear n0_ n1_ n2_ n3_ n4_ n5_ n6_
        have n0_ := Aside0.mk (Kd.R_drew HO642.out)
        have n1_ := Aside0.mk (Kd.R_drew HO645.out)
        have n2_ := Aside0.mk (blk_drew BK632.out)
        have n3_ := Aside0.mk (blk_drew BK633.out)
        have n4_ := Aside0.mk (blk_drew BK634.out)
        have n5_ := Aside0.mk (blk_drew BK638.out)
        have n6_ := Aside0.mk (below_drew1 HB.out)
        clear HO642
        clear HO645
        clear BK632
        clear BK633
        clear BK634
        clear BK638
        clear HB
        have HO642 := n0_
        have HO645 := n1_
        have BK632 := n2_
        have BK633 := n3_
        have BK634 := n4_
        have BK638 := n5_
        have HB := n6_
        clear n0_ n1_ n2_ n3_ n4_ n5_ n6_
        refine start_ (n := 7) (S := fun w' => w'.cell? ⟨gb638, 0, none⟩ = some (.slice Ao52 t643.length co52) ∧ w'.cell? ⟨gb632, 0, none⟩ = some (.slice A0_0 l0_0.length c0_0)) (ds := []) #[false, false, false, false, false, false, false] (by kernel_rfl) rfl rfl ⟨(blk_cell BK638.out 0).trans rfl, (blk_cell BK632.out 0).trans rfl⟩ (fun hHeld => ?_)
        generalize w54.drew = w55 at HO642 HO645 BK632 BK633 BK634 BK638 HB hHeld ⊢
        refine pure_ (i := 1) (N := some 31) (v := ?_) (a' := ?_) #[false, true, false, false, false, false, false] rfl rfl (by kernel_rfl) (fun _ _ _ h => h) (Or.inl ⟨by rfl, ?_⟩) ?_ ?_
        rotate_left
        · intro w'
          go_simp
          with_reducible rfl
        rotate_left
        · simp only [Act.put, List.setIfInBounds_toArray, List.set_cons_zero, List.set_cons_succ, i64_w, i32_w]
          rfl
        refine take_ (i := 0) (N := some 30) (v := ?_) (a' := ?_) #[true, true, false, false, false, false, false] rfl rfl (by kernel_rfl) (fun _ _ _ h => h) (Or.inl ⟨by rfl, ?_⟩) hHeld ?_ ?_
        rotate_left
        · rintro w' ⟨s0, s1⟩
          go_simp
          with_reducible rfl
        rotate_left
        · simp only [Act.put, List.setIfInBounds_toArray, List.set_cons_zero, List.set_cons_succ, i64_w, i32_w]
          rfl
        refine take_ (i := 2) (N := some 32) (v := ?_) (a' := ?_) #[true, true, true, false, false, false, false] rfl rfl (by kernel_rfl) (fun _ _ _ h => h) (Or.inl ⟨by rfl, ?_⟩) hHeld ?_ ?_
        rotate_left
        · rintro w' ⟨s0, s1⟩
          go_simp
          with_reducible rfl
        rotate_left
        · simp only [Act.put, List.setIfInBounds_toArray, List.set_cons_zero, List.set_cons_succ, i64_w, i32_w]
          rfl
        refine pure_ (i := 3) (N := some 33) (v := ?_) (a' := ?_) #[true, true, true, true, false, false, false] rfl rfl (by kernel_rfl) (fun _ _ _ h => h) (Or.inl ⟨by rfl, ?_⟩) ?_ ?_
        rotate_left
        · intro w'
          go_simp
          with_reducible rfl
        rotate_left
        · simp only [Act.put, List.setIfInBounds_toArray, List.set_cons_zero, List.set_cons_succ, i64_w, i32_w]
          rfl
        refine pure_ (i := 4) (N := some 34) (v := ?_) (a' := ?_) #[true, true, true, true, true, false, false] rfl rfl (by kernel_rfl) (fun _ _ _ h => h) (Or.inl ⟨by rfl, ?_⟩) ?_ ?_
        rotate_left
        · intro w'
          go_simp
          with_reducible rfl
        rotate_left
        · simp only [Act.put, List.setIfInBounds_toArray, List.set_cons_zero, List.set_cons_succ, i64_w, i32_w]
          rfl
        refine one_ (i := 5) (N := none) #[true, true, true, true, true, true, false] rfl rfl (by kernel_rfl) (by decide) (fun K hK => ?_)
        have hs56 : w55.cell? ⟨gb634, 0, none⟩ = some (.slice none 0 0) := (blk_cell BK634.out 0).trans rfl
        have hfs56 := blk_frozen BK634.out 0
        have hns56_0 := NB632_634.out
        have hns56_1 := NB633_634.out
        have hns56_3 := NB638_634.out
        have hms56_0 := NB634_632.out
        have hms56_1 := NB634_633.out
        have hms56_3 := NB634_638.out
        refine skip_ (w1 := ?_) (by rfl) rfl ?_ ?_
        rotate_left
        · go_simp
          rfl
        refine hK.out _ _ ⟨((cell_far (p := ⟨gb634, _, none⟩) NB638_634.out _).trans (hHeld.1)), ((cell_far (p := ⟨gb634, _, none⟩) NB632_634.out _).trans (hHeld.2))⟩ (fun hHeld => ?_)
        clear hK K
        refine pure_ (i := 6) (N := some 5) (v := ?_) (a' := ?_) #[true, true, true, true, true, true, true] rfl rfl (by kernel_rfl) (fun _ _ _ h => h) (Or.inl ⟨by rfl, ?_⟩) ?_ ?_
        rotate_left
        · intro w'
          go_simp
          with_reducible rfl
        rotate_left
        · simp only [Act.put, List.setIfInBounds_toArray, List.set_cons_zero, List.set_cons_succ, i64_w, i32_w]
          rfl
        refine done_ (by kernel_rfl) ?_
        try go_wp2
        refine bodyPost_ret (results_ct rfl _ _ gb634 45 #[.slice Ao52 t643.length co52] (0, 0) _ rfl (by (with_reducible repeat refine bu ?_); refine blk_put (cs := #[.slice none 0 0]) ?_ 0 _ rfl; (with_reducible repeat refine bu ?_); exact BK634.out) Try.underlying45 rfl (by kernel_rfl)) rfl ?_
        exact ⟨_, by first | rfl | (simp [errW_none, errW_some] <;> rfl) | (simp [*, errW_none, errW_some] <;> rfl), by (with_reducible repeat apply ru); exact Kd.R_mono (Kd.R_far (p := ⟨gb634, 0, none⟩) (Kd.R_types HO645.out BK634.out (by decide)) (fun _ hk => hk.2) (.slice Ao52 t643.length co52)) (fun _ hk => trivial), by repeat (first | (with_reducible first | exact HB.out | apply below_alloc | apply pw_below_drewN | apply below_drew1 | refine below_set ?_ GE632.out | refine below_set ?_ GE633.out | refine below_set ?_ GE634.out | refine below_set ?_ GE638.out) | exact HB.out)⟩
      · rw [if_neg c27] at H
        exact absurd H (by simp)
  · rw [if_neg c5] at H
    have c5b0 : (t639 == 0) = false := beq_eq_false_iff_ne.mpr c5
    have c5b1 : (t639 != 0) = true := bne_iff_ne.mpr c5
    simp only [Option.some.injEq, Prod.mk.injEq] at H
    obtain ⟨rfl, rfl⟩ := H
    go_enter Try.func66, Try.ntmps66
    go_wp2_with (first | ((with_reducible refine gate_dst (N := 2) rfl ?_); refine box_event ?hg (N := 2) ?hd (cs := #[.slice A0_0 l0_0.length c0_0]) (t := 45) ?hr ?_; (case hd => rfl); (case hg => rfl); (case hr => first | (go_simp; done) | (go_simp; rfl)); intro gb632 hg w57 hbox hb; have n0_ := Aside0.mk (below_step (bl HB) hb); have n1_ := Aside0.mk (hbox); have n2_ := Aside0.mk ((by rw [hg]; exact (below_size (bl HB)) : w.heap.size ≤ gb632)); have n3_ := Aside0.mk ((by rw [hg]; exact (below_size (bl HB)) : w.heap.size ≤ gb632)); clear HB; have HB := n0_; have BK632 := n1_; have GW632 := n2_; have GE632 := n3_; clear n0_ n1_ n2_ n3_; clear hb hbox hg) | ((with_reducible refine gate_dst (N := 3) rfl ?_); refine box_event ?hg (N := 3) ?hd (cs := #[.int .i64 a1_0, .int .i64 a1_1]) (t := 29) ?hr ?_; (case hd => rfl); (case hg => rfl); (case hr => first | (go_simp; done) | (go_simp; rfl)); intro gb633 hg w58 hbox hb; have n0_ := bkB BK632 hb; have n1_ := Aside0.mk (below_step (bl HB) hb); have n2_ := Aside0.mk (hbox); have n3_ := Aside0.mk ((by rw [hg]; exact (below_size (bl HB)) : w.heap.size ≤ gb633)); have n4_ := Aside0.mk ((by rw [hg]; exact (below_size (bl HB)) : w.heap.size ≤ gb633)); have n5_ := Aside0.mk ((by rw [hg]; exact Nat.ne_of_lt (bkL BK632) : gb632 ≠ gb633)); have n6_ := Aside0.mk ((by rw [hg]; exact Nat.ne_of_gt (bkL BK632) : gb633 ≠ gb632)); clear BK632; clear HB; have BK632 := n0_; have HB := n1_; have BK633 := n2_; have GW633 := n3_; have GE633 := n4_; have NB632_633 := n5_; have NB633_632 := n6_; clear n0_ n1_ n2_ n3_ n4_ n5_ n6_; clear hb hbox hg) | ((with_reducible refine gate_dst (N := 4) rfl ?_); refine box_event ?hg (N := 4) ?hd (cs := #[.slice none 0 0]) (t := 45) ?hr ?_; (case hd => rfl); (case hg => rfl); (case hr => first | (go_simp; done) | (go_simp; rfl)); intro gb634 hg w59 hbox hb; have n0_ := bkB BK632 hb; have n1_ := bkB BK633 hb; have n2_ := Aside0.mk (below_step (bl HB) hb); have n3_ := Aside0.mk (hbox); have n4_ := Aside0.mk ((by rw [hg]; exact (below_size (bl HB)) : w.heap.size ≤ gb634)); have n5_ := Aside0.mk ((by rw [hg]; exact (below_size (bl HB)) : w.heap.size ≤ gb634)); have n6_ := Aside0.mk ((by rw [hg]; exact Nat.ne_of_lt (bkL BK632) : gb632 ≠ gb634)); have n7_ := Aside0.mk ((by rw [hg]; exact Nat.ne_of_gt (bkL BK632) : gb634 ≠ gb632)); have n8_ := Aside0.mk ((by rw [hg]; exact Nat.ne_of_lt (bkL BK633) : gb633 ≠ gb634)); have n9_ := Aside0.mk ((by rw [hg]; exact Nat.ne_of_gt (bkL BK633) : gb634 ≠ gb633)); clear BK632; clear BK633; clear HB; have BK632 := n0_; have BK633 := n1_; have HB := n2_; have BK634 := n3_; have GW634 := n4_; have GE634 := n5_; have NB632_634 := n6_; have NB634_632 := n7_; have NB633_634 := n8_; have NB634_633 := n9_; clear n0_ n1_ n2_ n3_ n4_ n5_ n6_ n7_ n8_ n9_; clear hb hbox hg; have hnb60 := NB632_633.out; have hnc60 := NB633_632.out; have hnb61 := NB632_634.out; have hnc61 := NB634_632.out; have hcz62_0 : w59.cell? ⟨gb632, 0, none⟩ = some (.slice A0_0 l0_0.length c0_0) := (blk_cell BK632.out 0).trans rfl; have hfz62_0 := blk_frozen BK632.out 0) | ((with_reducible refine gate_callee (f := 92) rfl ?_); refine goesL_ (some 9) rfl rfl Try.func92 (by kernel_rfl) rfl #[.agg #[.slice A0_0 l0_0.length c0_0]] rfl (by (try simp only [List.map_toArray, List.map_cons, List.map_nil]); first | done | rfl | (simp only [List.length_drop, List.length_take]; rfl)) ?_; (with_reducible refine (impl_MapTab_copied.calls _ _ l0_0 t635 _ ?side1 ?side2 A3.out).mono ?_); (case side1 => repeat (first | exact (Kd.C_below HR0_0.out HB.out) | (with_reducible refine Kd.C_alloc ?_ _) | (with_reducible refine Kd.C_drewN ?_ _) | (with_reducible refine Kd.C_drew ?_))); (case side2 => exact HC0_0.out); rintro e w63 ⟨v636, rfl, ho0, hb⟩; refine ⟨_, rfl, ?_⟩; have n0_ := Aside0.mk (Kd.R_lower (Kd.R_newB ho0 (g := gb633) (o := .cells #[.int .i64 a1_0, .int .i64 a1_1] 29 (0, 0)) (bk BK633)) (below_size (bl HB))); have n1_ := bkB BK632 hb; have n2_ := bkB BK633 hb; have n3_ := bkB BK634 hb; have n4_ := Aside0.mk (below_step (bl HB) hb); clear BK632; clear BK633; clear BK634; clear HB; have HO637 := n0_; have BK632 := n1_; have BK633 := n2_; have BK634 := n3_; have HB := n4_; clear n0_ n1_ n2_ n3_ n4_; (try clear hb); (try clear hb2); (try clear hk); (try clear hi); (try clear ho0)) | ((with_reducible refine gate_dst (N := 6) rfl ?_); refine box_event ?hg (N := 6) ?hd (cs := #[.slice none 0 0]) (t := 45) ?hr ?_; (case hd => rfl); (case hg => rfl); (case hr => first | (go_simp; done) | (go_simp; rfl)); intro gb638 hg w64 hbox hb; have n0_ := Aside0.mk (Kd.R_below (rs HO637) hb); have n1_ := bkB BK632 hb; have n2_ := bkB BK633 hb; have n3_ := bkB BK634 hb; have n4_ := Aside0.mk (below_step (bl HB) hb); have n5_ := Aside0.mk (hbox); have n6_ := Aside0.mk ((by rw [hg]; exact (below_size (bl HB)) : w.heap.size ≤ gb638)); have n7_ := Aside0.mk ((by rw [hg]; exact (below_size (bl HB)) : w.heap.size ≤ gb638)); have n8_ := Aside0.mk ((by rw [hg]; exact Nat.ne_of_lt (bkL BK632) : gb632 ≠ gb638)); have n9_ := Aside0.mk ((by rw [hg]; exact Nat.ne_of_gt (bkL BK632) : gb638 ≠ gb632)); have n10_ := Aside0.mk ((by rw [hg]; exact Nat.ne_of_lt (bkL BK633) : gb633 ≠ gb638)); have n11_ := Aside0.mk ((by rw [hg]; exact Nat.ne_of_gt (bkL BK633) : gb638 ≠ gb633)); have n12_ := Aside0.mk ((by rw [hg]; exact Nat.ne_of_lt (bkL BK634) : gb634 ≠ gb638)); have n13_ := Aside0.mk ((by rw [hg]; exact Nat.ne_of_gt (bkL BK634) : gb638 ≠ gb634)); clear HO637; clear BK632; clear BK633; clear BK634; clear HB; have HO637 := n0_; have BK632 := n1_; have BK633 := n2_; have BK634 := n3_; have HB := n4_; have BK638 := n5_; have GW638 := n6_; have GE638 := n7_; have NB632_638 := n8_; have NB638_632 := n9_; have NB633_638 := n10_; have NB638_633 := n11_; have NB634_638 := n12_; have NB638_634 := n13_; clear n0_ n1_ n2_ n3_ n4_ n5_ n6_ n7_ n8_ n9_ n10_ n11_ n12_ n13_; clear hb hbox hg; obtain ⟨Ao65, co65, eo65⟩ := Kd.R_slice HO637.out; subst eo65; have hnb66 := NB638_632.out; have hnc66 := NB632_638.out; have hnb67 := NB638_633.out; have hnc67 := NB633_638.out; have hnb68 := NB638_634.out; have hnc68 := NB634_638.out; have hcz69_0 : w64.cell? ⟨gb638, 0, none⟩ = some (.slice none 0 0) := (blk_cell BK638.out 0).trans rfl; have hfz69_0 := blk_frozen BK638.out 0; have hcz70_0 : w64.cell? ⟨gb632, 0, none⟩ = some (.slice A0_0 l0_0.length c0_0) := (blk_cell BK632.out 0).trans rfl; have hfz70_0 := blk_frozen BK632.out 0; have hnb71 := NB633_634.out; have hnc71 := NB634_633.out; have hcz72_0 : w64.cell? ⟨gb633, 0, none⟩ = some (.int .i64 a1_0) := (blk_cell BK633.out 0).trans rfl; have hcz72_1 : w64.cell? ⟨gb633, 1, none⟩ = some (.int .i64 a1_1) := (blk_cell BK633.out 1).trans rfl; have hfz72_0 := blk_frozen BK633.out 0; have hfz72_1 := blk_frozen BK633.out 1) | ((with_reducible refine gate_callee (f := 27) rfl ?_); refine goesL_ (some 12) rfl rfl Try.func27 (by kernel_rfl) rfl #[.agg #[.slice A0_0 l0_0.length c0_0], .agg #[.int .i64 a1_0, .int .i64 a1_1]] rfl (by (try simp only [List.map_toArray, List.map_cons, List.map_nil]); first | done | rfl | (simp only [List.length_drop, List.length_take]; rfl)) ?_; (with_reducible refine (impl_MapPort.calls _ _ l0_0 a1_0 a1_1 t639 _ ?side1 ?side2 A4.out).mono ?_); (case side1 => exact Kd.C_below HR0_0.out (bl HB)); (case side2 => exact HC0_0.out); rintro e w73 ⟨rfl, hb⟩; refine ⟨_, rfl, ?_⟩; have n0_ := Aside0.mk (Kd.R_below (by (with_reducible repeat apply ru); exact (Kd.R_mono (Kd.R_far (p := ⟨gb638, 0, none⟩) (Kd.R_types HO637.out BK638.out (by decide)) (fun _ hk => hk.2) (.slice Ao65 t635.length co65)) (fun _ h_ => h_.1))) hb); have n1_ := Aside0.mk (blk_below (g := gb632) (o := .cells #[.slice A0_0 l0_0.length c0_0] 45 (0, 0)) (by (with_reducible repeat refine bu ?_); refine blk_far ?_ NB632_638.out _; (with_reducible repeat refine bu ?_); exact BK632.out) hb); have n2_ := Aside0.mk (blk_below (g := gb633) (o := .cells #[.int .i64 a1_0, .int .i64 a1_1] 29 (0, 0)) (by (with_reducible repeat refine bu ?_); refine blk_far ?_ NB633_638.out _; (with_reducible repeat refine bu ?_); exact BK633.out) hb); have n3_ := Aside0.mk (blk_below (g := gb634) (o := .cells #[.slice none 0 0] 45 (0, 0)) (by (with_reducible repeat refine bu ?_); refine blk_far ?_ NB634_638.out _; (with_reducible repeat refine bu ?_); exact BK634.out) hb); have n4_ := Aside0.mk (blk_below (g := gb638) (o := .cells #[.slice Ao65 t635.length co65] 45 (0, 0)) (by (with_reducible repeat refine bu ?_); refine blk_put (cs := #[.slice none 0 0]) ?_ 0 _ rfl; (with_reducible repeat refine bu ?_); exact BK638.out) hb); have n5_ := Aside0.mk (below_step (bl HB) hb); clear HO637; clear BK632; clear BK633; clear BK634; clear BK638; clear HB; have HO637 := n0_; have BK632 := n1_; have BK633 := n2_; have BK634 := n3_; have BK638 := n4_; have HB := n5_; clear n0_ n1_ n2_ n3_ n4_ n5_; (try clear hb); (try clear hb2); (try clear hk); (try clear hi); have hcz74_0 : w73.cell? ⟨gb638, 0, none⟩ = some (.slice Ao65 t635.length co65) := (blk_cell BK638.out 0).trans rfl; have hfz74_0 := blk_frozen BK638.out 0; have hcz75_0 : w73.cell? ⟨gb634, 0, none⟩ = some (.slice none 0 0) := (blk_cell BK634.out 0).trans rfl; have hfz75_0 := blk_frozen BK634.out 0))
    refine bodyPost_ret (results_ct rfl _ _ gb634 45 #[.slice Ao65 t635.length co65] (0, 0) _ rfl (by (with_reducible repeat refine bu ?_); refine blk_put (cs := #[.slice none 0 0]) ?_ 0 _ rfl; (with_reducible repeat refine bu ?_); exact BK634.out) Try.underlying45 rfl (by kernel_rfl)) rfl ?_
    exact ⟨_, by first | rfl | (simp [errW_none, errW_some] <;> rfl) | (simp [*, errW_none, errW_some] <;> rfl), by (with_reducible repeat apply ru); exact Kd.R_mono (Kd.R_far (p := ⟨gb634, 0, none⟩) (Kd.R_types HO637.out BK634.out (by decide)) (fun _ hk => hk.2) (.slice Ao65 t635.length co65)) (fun _ hk => trivial), by repeat (first | (with_reducible first | exact HB.out | apply below_alloc | apply pw_below_drewN | apply below_drew1 | refine below_set ?_ GE632.out | refine below_set ?_ GE633.out | refine below_set ?_ GE634.out | refine below_set ?_ GE638.out) | exact HB.out)⟩

end Go.Proofs.Ytiocgkggegahhaa.P

-- written by hw.py for this claim
namespace Go.Proofs.Ytiocgkggegahhaa.P
open Go.RowKit Go.Proofs.YtiocgkggegahhaaUFnExactMapPut.PrintWords Go.Proofs.YtiocgkggegahhaaUFnExactMapPut.PrintLast Go.Proofs.YtiocgkggegahhaaUFnExactMapPut.PrintMore
attribute [local go_sem] max2_int min2_int max_two min_two max_three min_three max_four min_four
set_option linter.unusedVariables false
set_option linter.unusedSimpArgs false

/-! ### impl_MapPut: function 26 -/
def impl_MapPut.f (k : Nat) (l0_0 : List (S29)) (a1_0 : Int) (a1_1 : Int) : Option ((List (S29)) × Int) := (impl_MapOk.f k l0_0).bind fun t650 => (if t650 = true then ((impl_EndInside.f a1_0 a1_1).bind fun t651 => (if t651 = true then ((impl_MapTab_put.f l0_0 a1_0 a1_1).bind fun bt652 => (some (bt652.1, bt652.2))) else (some (([] : List (S29)), 0)))) else (some (([] : List (S29)), 0)))
theorem impl_MapPut.mono : ∀ a0 a1 a2 k, LeO (impl_MapPut.f k a0 a1 a2) (impl_MapPut.f (k + 1) a0 a1 a2) := by
  intro a0 a1 a2 k
  unfold impl_MapPut.f
  repeat' first
      | (with_reducible exact impl_MapOk.mono _ _)
      | (with_reducible exact LeO.refl _)
      | (with_reducible exact LeO.none _)
      | (with_reducible refine LeO.ite ?_ ?_)
      | (with_reducible refine LeO.bind ?_ (fun _ => ?_))
      | exact impl_MapOk.mono _ _
      | exact LeO.none _
      | refine LeO.ite ?_ ?_
      | refine LeO.bind ?_ (fun _ => ?_)
set_option maxHeartbeats 8000000 in
set_option maxRecDepth 100000 in
theorem impl_MapPut.calls (k : Nat) (A0_0 : Option Addr) (c0_0 : Nat) (l0_0 : List (S29)) (a1_0 : Int) (a1_1 : Int) (r1 : List (S29)) (r2 : Int) (w : World) (hr0_0 : Kd.C k29 w A0_0 l0_0.length l0_0) (hc0_0 : l0_0.length ≤ c0_0) (h : impl_MapPut.f k l0_0 a1_0 a1_1 = some (r1, r2)) :
    Calls Try.prog 26 #[.agg #[.slice A0_0 l0_0.length c0_0], .agg #[.int .i64 a1_0, .int .i64 a1_1]] w fun e w' => ∃ v0_ : Value, e = .returned (.tuple #[.agg #[v0_], .int .i64 r2]) ∧ Kd.R k29 29 w' w.heap.size (fun _ => True) v0_ r1 ∧ Below w.heap.size w w' := by
  have hu45 := Try.underlying45
  have hu29 := Try.underlying29
  have HR0_0 := Aside0.mk hr0_0
  have HC0_0 := Aside0.mk hc0_0
  clear hr0_0 hc0_0
  have HB := Aside0.mk (Below.refl w.heap.size w)
  have H : ((impl_MapOk.f k l0_0).bind fun t650 => (if t650 = true then ((impl_EndInside.f a1_0 a1_1).bind fun t651 => (if t651 = true then ((impl_MapTab_put.f l0_0 a1_0 a1_1).bind fun bt652 => (some (bt652.1, bt652.2))) else (some (([] : List (S29)), 0)))) else (some (([] : List (S29)), 0)))) = some (r1, r2) := h
  clear h
  replace H := Option.bind_eq_some_iff.mp H
  obtain ⟨t650, A30, H⟩ := H
  replace H : (if t650 = true then ((impl_EndInside.f a1_0 a1_1).bind fun t651 => (if t651 = true then ((impl_MapTab_put.f l0_0 a1_0 a1_1).bind fun bt652 => (some (bt652.1, bt652.2))) else (some (([] : List (S29)), 0)))) else (some (([] : List (S29)), 0))) = some (r1, r2) := H
  have A3 := Aside0.mk A30
  clear A30
  by_cases c4 : t650 = true
  · subst c4
    have H1 : ((impl_EndInside.f a1_0 a1_1).bind fun t651 => (if t651 = true then ((impl_MapTab_put.f l0_0 a1_0 a1_1).bind fun bt652 => (some (bt652.1, bt652.2))) else (some (([] : List (S29)), 0)))) = some (r1, r2) := by rw [if_pos rfl] at H; exact H
    clear H
    have H := H1
    clear H1
    replace H := Option.bind_eq_some_iff.mp H
    obtain ⟨t651, A50, H⟩ := H
    replace H : (if t651 = true then ((impl_MapTab_put.f l0_0 a1_0 a1_1).bind fun bt652 => (some (bt652.1, bt652.2))) else (some (([] : List (S29)), 0))) = some (r1, r2) := H
    have A5 := Aside0.mk A50
    clear A50
    by_cases c6 : t651 = true
    · subst c6
      have H1 : ((impl_MapTab_put.f l0_0 a1_0 a1_1).bind fun bt652 => (some (bt652.1, bt652.2))) = some (r1, r2) := by rw [if_pos rfl] at H; exact H
      clear H
      have H := H1
      clear H1
      replace H := Option.bind_eq_some_iff.mp H
      obtain ⟨⟨t652, t655⟩, A70, H⟩ := H
      replace H : (some (t652, t655)) = some (r1, r2) := H
      have A7 := Aside0.mk A70
      clear A70
      simp only [Option.some.injEq, Prod.mk.injEq] at H
      obtain ⟨rfl, rfl⟩ := H
      go_enter Try.func26, Try.ntmps26
      go_wp2_with (first | ((with_reducible refine gate_dst (N := 2) rfl ?_); refine box_event ?hg (N := 2) ?hd (cs := #[.slice A0_0 l0_0.length c0_0]) (t := 45) ?hr ?_; (case hd => rfl); (case hg => rfl); (case hr => first | (go_simp; done) | (go_simp; rfl)); intro gb647 hg w8 hbox hb; have n0_ := Aside0.mk (below_step (bl HB) hb); have n1_ := Aside0.mk (hbox); have n2_ := Aside0.mk ((by rw [hg]; exact (below_size (bl HB)) : w.heap.size ≤ gb647)); have n3_ := Aside0.mk ((by rw [hg]; exact (below_size (bl HB)) : w.heap.size ≤ gb647)); clear HB; have HB := n0_; have BK647 := n1_; have GW647 := n2_; have GE647 := n3_; clear n0_ n1_ n2_ n3_; clear hb hbox hg) | ((with_reducible refine gate_dst (N := 3) rfl ?_); refine box_event ?hg (N := 3) ?hd (cs := #[.int .i64 a1_0, .int .i64 a1_1]) (t := 29) ?hr ?_; (case hd => rfl); (case hg => rfl); (case hr => first | (go_simp; done) | (go_simp; rfl)); intro gb648 hg w9 hbox hb; have n0_ := bkB BK647 hb; have n1_ := Aside0.mk (below_step (bl HB) hb); have n2_ := Aside0.mk (hbox); have n3_ := Aside0.mk ((by rw [hg]; exact (below_size (bl HB)) : w.heap.size ≤ gb648)); have n4_ := Aside0.mk ((by rw [hg]; exact (below_size (bl HB)) : w.heap.size ≤ gb648)); have n5_ := Aside0.mk ((by rw [hg]; exact Nat.ne_of_lt (bkL BK647) : gb647 ≠ gb648)); have n6_ := Aside0.mk ((by rw [hg]; exact Nat.ne_of_gt (bkL BK647) : gb648 ≠ gb647)); clear BK647; clear HB; have BK647 := n0_; have HB := n1_; have BK648 := n2_; have GW648 := n3_; have GE648 := n4_; have NB647_648 := n5_; have NB648_647 := n6_; clear n0_ n1_ n2_ n3_ n4_ n5_ n6_; clear hb hbox hg) | ((with_reducible refine gate_dst (N := 4) rfl ?_); refine box_event ?hg (N := 4) ?hd (cs := #[.slice none 0 0]) (t := 45) ?hr ?_; (case hd => rfl); (case hg => rfl); (case hr => first | (go_simp; done) | (go_simp; rfl)); intro gb649 hg w10 hbox hb; have n0_ := bkB BK647 hb; have n1_ := bkB BK648 hb; have n2_ := Aside0.mk (below_step (bl HB) hb); have n3_ := Aside0.mk (hbox); have n4_ := Aside0.mk ((by rw [hg]; exact (below_size (bl HB)) : w.heap.size ≤ gb649)); have n5_ := Aside0.mk ((by rw [hg]; exact (below_size (bl HB)) : w.heap.size ≤ gb649)); have n6_ := Aside0.mk ((by rw [hg]; exact Nat.ne_of_lt (bkL BK647) : gb647 ≠ gb649)); have n7_ := Aside0.mk ((by rw [hg]; exact Nat.ne_of_gt (bkL BK647) : gb649 ≠ gb647)); have n8_ := Aside0.mk ((by rw [hg]; exact Nat.ne_of_lt (bkL BK648) : gb648 ≠ gb649)); have n9_ := Aside0.mk ((by rw [hg]; exact Nat.ne_of_gt (bkL BK648) : gb649 ≠ gb648)); clear BK647; clear BK648; clear HB; have BK647 := n0_; have BK648 := n1_; have HB := n2_; have BK649 := n3_; have GW649 := n4_; have GE649 := n5_; have NB647_649 := n6_; have NB649_647 := n7_; have NB648_649 := n8_; have NB649_648 := n9_; clear n0_ n1_ n2_ n3_ n4_ n5_ n6_ n7_ n8_ n9_; clear hb hbox hg; have hnb11 := NB647_648.out; have hnc11 := NB648_647.out; have hnb12 := NB647_649.out; have hnc12 := NB649_647.out; have hcz13_0 : w10.cell? ⟨gb647, 0, none⟩ = some (.slice A0_0 l0_0.length c0_0) := (blk_cell BK647.out 0).trans rfl; have hfz13_0 := blk_frozen BK647.out 0) | ((with_reducible refine gate_callee (f := 35) rfl ?_); refine goesL_ (some 7) rfl rfl Try.func35 (by kernel_rfl) rfl #[.agg #[.slice A0_0 l0_0.length c0_0]] rfl (by (try simp only [List.map_toArray, List.map_cons, List.map_nil]); first | done | rfl | (simp only [List.length_drop, List.length_take]; rfl)) ?_; (with_reducible refine (impl_MapOk.calls k _ _ l0_0 true _ ?side1 ?side2 A3.out).mono ?_); (case side1 => repeat (first | exact (Kd.C_below HR0_0.out HB.out) | (with_reducible refine Kd.C_alloc ?_ _) | (with_reducible refine Kd.C_drewN ?_ _) | (with_reducible refine Kd.C_drew ?_))); (case side2 => exact HC0_0.out); rintro e w14 ⟨rfl, hb⟩; refine ⟨_, rfl, ?_⟩; have n0_ := bkB BK647 hb; have n1_ := bkB BK648 hb; have n2_ := bkB BK649 hb; have n3_ := Aside0.mk (below_step (bl HB) hb); clear BK647; clear BK648; clear BK649; clear HB; have BK647 := n0_; have BK648 := n1_; have BK649 := n2_; have HB := n3_; clear n0_ n1_ n2_ n3_; (try clear hb); (try clear hb2); (try clear hk); (try clear hi); have hnb15 := NB648_649.out; have hnc15 := NB649_648.out; have hcz16_0 : w14.cell? ⟨gb648, 0, none⟩ = some (.int .i64 a1_0) := (blk_cell BK648.out 0).trans rfl; have hcz16_1 : w14.cell? ⟨gb648, 1, none⟩ = some (.int .i64 a1_1) := (blk_cell BK648.out 1).trans rfl; have hfz16_0 := blk_frozen BK648.out 0; have hfz16_1 := blk_frozen BK648.out 1) | (go_at_call 65; (with_reducible refine (impl_EndInside.calls a1_0 a1_1 true _ A5.out).mono ?_); rintro e w17 ⟨rfl, hb⟩; have n0_ := bkB BK647 hb; have n1_ := bkB BK648 hb; have n2_ := bkB BK649 hb; have n3_ := Aside0.mk (below_step (bl HB) hb); clear BK647; clear BK648; clear BK649; clear HB; have BK647 := n0_; have BK648 := n1_; have BK649 := n2_; have HB := n3_; clear n0_ n1_ n2_ n3_; (try clear hb); (try clear hb2); (try clear hk); (try clear hi); have hcz18_0 : w17.cell? ⟨gb647, 0, none⟩ = some (.slice A0_0 l0_0.length c0_0) := (blk_cell BK647.out 0).trans rfl; have hfz18_0 := blk_frozen BK647.out 0; have hcz19_0 : w17.cell? ⟨gb648, 0, none⟩ = some (.int .i64 a1_0) := (blk_cell BK648.out 0).trans rfl; have hcz19_1 : w17.cell? ⟨gb648, 1, none⟩ = some (.int .i64 a1_1) := (blk_cell BK648.out 1).trans rfl; have hfz19_0 := blk_frozen BK648.out 0; have hfz19_1 := blk_frozen BK648.out 1) | ((with_reducible refine gate_callee (f := 66) rfl ?_); refine goesL_ (some 17) rfl rfl Try.func66 (by kernel_rfl) rfl #[.agg #[.slice A0_0 l0_0.length c0_0], .agg #[.int .i64 a1_0, .int .i64 a1_1]] rfl (by (try simp only [List.map_toArray, List.map_cons, List.map_nil]); first | done | rfl | (simp only [List.length_drop, List.length_take]; rfl)) ?_; (with_reducible refine (impl_MapTab_put.calls _ _ l0_0 a1_0 a1_1 t652 t655 _ ?side1 ?side2 A7.out).mono ?_); (case side1 => repeat (first | exact (Kd.C_below HR0_0.out HB.out) | (with_reducible refine Kd.C_alloc ?_ _) | (with_reducible refine Kd.C_drewN ?_ _) | (with_reducible refine Kd.C_drew ?_))); (case side2 => exact HC0_0.out); rintro e w20 ⟨v653, rfl, ho0, hb⟩; refine ⟨_, rfl, ?_⟩; have n0_ := Aside0.mk (Kd.R_lower (Kd.R_newB ho0 (g := gb648) (o := .cells #[.int .i64 a1_0, .int .i64 a1_1] 29 (0, 0)) (bk BK648)) (below_size (bl HB))); have n1_ := bkB BK647 hb; have n2_ := bkB BK648 hb; have n3_ := bkB BK649 hb; have n4_ := Aside0.mk (below_step (bl HB) hb); clear BK647; clear BK648; clear BK649; clear HB; have HO654 := n0_; have BK647 := n1_; have BK648 := n2_; have BK649 := n3_; have HB := n4_; clear n0_ n1_ n2_ n3_ n4_; (try clear hb); (try clear hb2); (try clear hk); (try clear hi); (try clear ho0); obtain ⟨Ao21, co21, eo21⟩ := Kd.R_slice HO654.out; subst eo21; have hcz22_0 : w20.cell? ⟨gb649, 0, none⟩ = some (.slice none 0 0) := (blk_cell BK649.out 0).trans rfl; have hfz22_0 := blk_frozen BK649.out 0))
      refine bodyPost_ret (results_ct rfl _ _ gb649 45 #[.slice Ao21 t652.length co21] (0, 0) _ rfl (by (with_reducible repeat refine bu ?_); refine blk_put (cs := #[.slice none 0 0]) ?_ 0 _ rfl; (with_reducible repeat refine bu ?_); exact BK649.out) Try.underlying45 rfl (by kernel_rfl)) rfl ?_
      exact ⟨_, by first | rfl | (simp [errW_none, errW_some] <;> rfl) | (simp [*, errW_none, errW_some] <;> rfl), by (with_reducible repeat apply ru); exact Kd.R_mono (Kd.R_far (p := ⟨gb649, 0, none⟩) (Kd.R_types HO654.out BK649.out (by decide)) (fun _ hk => hk.2) (.slice Ao21 t652.length co21)) (fun _ hk => trivial), by repeat (first | (with_reducible first | exact HB.out | apply below_alloc | apply pw_below_drewN | apply below_drew1 | refine below_set ?_ GE647.out | refine below_set ?_ GE648.out | refine below_set ?_ GE649.out) | exact HB.out)⟩
    · replace c6 := Bool.eq_false_iff.mpr c6
      subst c6
      have H1 : (some (([] : List (S29)), 0)) = some (r1, r2) := by rw [if_neg (show ¬ (false = true) by decide)] at H; exact H
      clear H
      have H := H1
      clear H1
      simp only [Option.some.injEq, Prod.mk.injEq] at H
      obtain ⟨rfl, rfl⟩ := H
      go_enter Try.func26, Try.ntmps26
      go_wp2_with (first | ((with_reducible refine gate_dst (N := 2) rfl ?_); refine box_event ?hg (N := 2) ?hd (cs := #[.slice A0_0 l0_0.length c0_0]) (t := 45) ?hr ?_; (case hd => rfl); (case hg => rfl); (case hr => first | (go_simp; done) | (go_simp; rfl)); intro gb647 hg w23 hbox hb; have n0_ := Aside0.mk (below_step (bl HB) hb); have n1_ := Aside0.mk (hbox); have n2_ := Aside0.mk ((by rw [hg]; exact (below_size (bl HB)) : w.heap.size ≤ gb647)); have n3_ := Aside0.mk ((by rw [hg]; exact (below_size (bl HB)) : w.heap.size ≤ gb647)); clear HB; have HB := n0_; have BK647 := n1_; have GW647 := n2_; have GE647 := n3_; clear n0_ n1_ n2_ n3_; clear hb hbox hg) | ((with_reducible refine gate_dst (N := 3) rfl ?_); refine box_event ?hg (N := 3) ?hd (cs := #[.int .i64 a1_0, .int .i64 a1_1]) (t := 29) ?hr ?_; (case hd => rfl); (case hg => rfl); (case hr => first | (go_simp; done) | (go_simp; rfl)); intro gb648 hg w24 hbox hb; have n0_ := bkB BK647 hb; have n1_ := Aside0.mk (below_step (bl HB) hb); have n2_ := Aside0.mk (hbox); have n3_ := Aside0.mk ((by rw [hg]; exact (below_size (bl HB)) : w.heap.size ≤ gb648)); have n4_ := Aside0.mk ((by rw [hg]; exact (below_size (bl HB)) : w.heap.size ≤ gb648)); have n5_ := Aside0.mk ((by rw [hg]; exact Nat.ne_of_lt (bkL BK647) : gb647 ≠ gb648)); have n6_ := Aside0.mk ((by rw [hg]; exact Nat.ne_of_gt (bkL BK647) : gb648 ≠ gb647)); clear BK647; clear HB; have BK647 := n0_; have HB := n1_; have BK648 := n2_; have GW648 := n3_; have GE648 := n4_; have NB647_648 := n5_; have NB648_647 := n6_; clear n0_ n1_ n2_ n3_ n4_ n5_ n6_; clear hb hbox hg) | ((with_reducible refine gate_dst (N := 4) rfl ?_); refine box_event ?hg (N := 4) ?hd (cs := #[.slice none 0 0]) (t := 45) ?hr ?_; (case hd => rfl); (case hg => rfl); (case hr => first | (go_simp; done) | (go_simp; rfl)); intro gb649 hg w25 hbox hb; have n0_ := bkB BK647 hb; have n1_ := bkB BK648 hb; have n2_ := Aside0.mk (below_step (bl HB) hb); have n3_ := Aside0.mk (hbox); have n4_ := Aside0.mk ((by rw [hg]; exact (below_size (bl HB)) : w.heap.size ≤ gb649)); have n5_ := Aside0.mk ((by rw [hg]; exact (below_size (bl HB)) : w.heap.size ≤ gb649)); have n6_ := Aside0.mk ((by rw [hg]; exact Nat.ne_of_lt (bkL BK647) : gb647 ≠ gb649)); have n7_ := Aside0.mk ((by rw [hg]; exact Nat.ne_of_gt (bkL BK647) : gb649 ≠ gb647)); have n8_ := Aside0.mk ((by rw [hg]; exact Nat.ne_of_lt (bkL BK648) : gb648 ≠ gb649)); have n9_ := Aside0.mk ((by rw [hg]; exact Nat.ne_of_gt (bkL BK648) : gb649 ≠ gb648)); clear BK647; clear BK648; clear HB; have BK647 := n0_; have BK648 := n1_; have HB := n2_; have BK649 := n3_; have GW649 := n4_; have GE649 := n5_; have NB647_649 := n6_; have NB649_647 := n7_; have NB648_649 := n8_; have NB649_648 := n9_; clear n0_ n1_ n2_ n3_ n4_ n5_ n6_ n7_ n8_ n9_; clear hb hbox hg; have hnb26 := NB647_648.out; have hnc26 := NB648_647.out; have hnb27 := NB647_649.out; have hnc27 := NB649_647.out; have hcz28_0 : w25.cell? ⟨gb647, 0, none⟩ = some (.slice A0_0 l0_0.length c0_0) := (blk_cell BK647.out 0).trans rfl; have hfz28_0 := blk_frozen BK647.out 0) | ((with_reducible refine gate_callee (f := 35) rfl ?_); refine goesL_ (some 7) rfl rfl Try.func35 (by kernel_rfl) rfl #[.agg #[.slice A0_0 l0_0.length c0_0]] rfl (by (try simp only [List.map_toArray, List.map_cons, List.map_nil]); first | done | rfl | (simp only [List.length_drop, List.length_take]; rfl)) ?_; (with_reducible refine (impl_MapOk.calls k _ _ l0_0 true _ ?side1 ?side2 A3.out).mono ?_); (case side1 => repeat (first | exact (Kd.C_below HR0_0.out HB.out) | (with_reducible refine Kd.C_alloc ?_ _) | (with_reducible refine Kd.C_drewN ?_ _) | (with_reducible refine Kd.C_drew ?_))); (case side2 => exact HC0_0.out); rintro e w29 ⟨rfl, hb⟩; refine ⟨_, rfl, ?_⟩; have n0_ := bkB BK647 hb; have n1_ := bkB BK648 hb; have n2_ := bkB BK649 hb; have n3_ := Aside0.mk (below_step (bl HB) hb); clear BK647; clear BK648; clear BK649; clear HB; have BK647 := n0_; have BK648 := n1_; have BK649 := n2_; have HB := n3_; clear n0_ n1_ n2_ n3_; (try clear hb); (try clear hb2); (try clear hk); (try clear hi); have hnb30 := NB648_649.out; have hnc30 := NB649_648.out; have hcz31_0 : w29.cell? ⟨gb648, 0, none⟩ = some (.int .i64 a1_0) := (blk_cell BK648.out 0).trans rfl; have hcz31_1 : w29.cell? ⟨gb648, 1, none⟩ = some (.int .i64 a1_1) := (blk_cell BK648.out 1).trans rfl; have hfz31_0 := blk_frozen BK648.out 0; have hfz31_1 := blk_frozen BK648.out 1) | (go_at_call 65; (with_reducible refine (impl_EndInside.calls a1_0 a1_1 false _ A5.out).mono ?_); rintro e w32 ⟨rfl, hb⟩; have n0_ := bkB BK647 hb; have n1_ := bkB BK648 hb; have n2_ := bkB BK649 hb; have n3_ := Aside0.mk (below_step (bl HB) hb); clear BK647; clear BK648; clear BK649; clear HB; have BK647 := n0_; have BK648 := n1_; have BK649 := n2_; have HB := n3_; clear n0_ n1_ n2_ n3_; (try clear hb); (try clear hb2); (try clear hk); (try clear hi); have hcz33_0 : w32.cell? ⟨gb649, 0, none⟩ = some (.slice none 0 0) := (blk_cell BK649.out 0).trans rfl; have hfz33_0 := blk_frozen BK649.out 0))
      refine bodyPost_ret (results_ct rfl _ _ gb649 45 #[.slice none 0 0] (0, 0) _ rfl (by (with_reducible repeat refine bu ?_); refine blk_put (cs := #[.slice none 0 0]) ?_ 0 _ rfl; (with_reducible repeat refine bu ?_); exact BK649.out) Try.underlying45 rfl (by kernel_rfl)) rfl ?_
      exact ⟨_, by first | rfl | (simp [errW_none, errW_some] <;> rfl) | (simp [*, errW_none, errW_some] <;> rfl), by first | exact Kd.R_nil _ _ _ _ _ | exact Kd.N_nil _ _ _ _ _ | exact Kd.V_nil _ _ _ _ _ | exact Kd.Q_nil _ _ _ _ _ | exact Kd.S_nil _ _ _ _ _, by repeat (first | (with_reducible first | exact HB.out | apply below_alloc | apply pw_below_drewN | apply below_drew1 | refine below_set ?_ GE647.out | refine below_set ?_ GE648.out | refine below_set ?_ GE649.out) | exact HB.out)⟩
  · replace c4 := Bool.eq_false_iff.mpr c4
    subst c4
    have H1 : (some (([] : List (S29)), 0)) = some (r1, r2) := by rw [if_neg (show ¬ (false = true) by decide)] at H; exact H
    clear H
    have H := H1
    clear H1
    simp only [Option.some.injEq, Prod.mk.injEq] at H
    obtain ⟨rfl, rfl⟩ := H
    go_enter Try.func26, Try.ntmps26
    go_wp2_with (first | ((with_reducible refine gate_dst (N := 2) rfl ?_); refine box_event ?hg (N := 2) ?hd (cs := #[.slice A0_0 l0_0.length c0_0]) (t := 45) ?hr ?_; (case hd => rfl); (case hg => rfl); (case hr => first | (go_simp; done) | (go_simp; rfl)); intro gb647 hg w34 hbox hb; have n0_ := Aside0.mk (below_step (bl HB) hb); have n1_ := Aside0.mk (hbox); have n2_ := Aside0.mk ((by rw [hg]; exact (below_size (bl HB)) : w.heap.size ≤ gb647)); have n3_ := Aside0.mk ((by rw [hg]; exact (below_size (bl HB)) : w.heap.size ≤ gb647)); clear HB; have HB := n0_; have BK647 := n1_; have GW647 := n2_; have GE647 := n3_; clear n0_ n1_ n2_ n3_; clear hb hbox hg) | ((with_reducible refine gate_dst (N := 3) rfl ?_); refine box_event ?hg (N := 3) ?hd (cs := #[.int .i64 a1_0, .int .i64 a1_1]) (t := 29) ?hr ?_; (case hd => rfl); (case hg => rfl); (case hr => first | (go_simp; done) | (go_simp; rfl)); intro gb648 hg w35 hbox hb; have n0_ := bkB BK647 hb; have n1_ := Aside0.mk (below_step (bl HB) hb); have n2_ := Aside0.mk (hbox); have n3_ := Aside0.mk ((by rw [hg]; exact (below_size (bl HB)) : w.heap.size ≤ gb648)); have n4_ := Aside0.mk ((by rw [hg]; exact (below_size (bl HB)) : w.heap.size ≤ gb648)); have n5_ := Aside0.mk ((by rw [hg]; exact Nat.ne_of_lt (bkL BK647) : gb647 ≠ gb648)); have n6_ := Aside0.mk ((by rw [hg]; exact Nat.ne_of_gt (bkL BK647) : gb648 ≠ gb647)); clear BK647; clear HB; have BK647 := n0_; have HB := n1_; have BK648 := n2_; have GW648 := n3_; have GE648 := n4_; have NB647_648 := n5_; have NB648_647 := n6_; clear n0_ n1_ n2_ n3_ n4_ n5_ n6_; clear hb hbox hg) | ((with_reducible refine gate_dst (N := 4) rfl ?_); refine box_event ?hg (N := 4) ?hd (cs := #[.slice none 0 0]) (t := 45) ?hr ?_; (case hd => rfl); (case hg => rfl); (case hr => first | (go_simp; done) | (go_simp; rfl)); intro gb649 hg w36 hbox hb; have n0_ := bkB BK647 hb; have n1_ := bkB BK648 hb; have n2_ := Aside0.mk (below_step (bl HB) hb); have n3_ := Aside0.mk (hbox); have n4_ := Aside0.mk ((by rw [hg]; exact (below_size (bl HB)) : w.heap.size ≤ gb649)); have n5_ := Aside0.mk ((by rw [hg]; exact (below_size (bl HB)) : w.heap.size ≤ gb649)); have n6_ := Aside0.mk ((by rw [hg]; exact Nat.ne_of_lt (bkL BK647) : gb647 ≠ gb649)); have n7_ := Aside0.mk ((by rw [hg]; exact Nat.ne_of_gt (bkL BK647) : gb649 ≠ gb647)); have n8_ := Aside0.mk ((by rw [hg]; exact Nat.ne_of_lt (bkL BK648) : gb648 ≠ gb649)); have n9_ := Aside0.mk ((by rw [hg]; exact Nat.ne_of_gt (bkL BK648) : gb649 ≠ gb648)); clear BK647; clear BK648; clear HB; have BK647 := n0_; have BK648 := n1_; have HB := n2_; have BK649 := n3_; have GW649 := n4_; have GE649 := n5_; have NB647_649 := n6_; have NB649_647 := n7_; have NB648_649 := n8_; have NB649_648 := n9_; clear n0_ n1_ n2_ n3_ n4_ n5_ n6_ n7_ n8_ n9_; clear hb hbox hg; have hnb37 := NB647_648.out; have hnc37 := NB648_647.out; have hnb38 := NB647_649.out; have hnc38 := NB649_647.out; have hcz39_0 : w36.cell? ⟨gb647, 0, none⟩ = some (.slice A0_0 l0_0.length c0_0) := (blk_cell BK647.out 0).trans rfl; have hfz39_0 := blk_frozen BK647.out 0) | ((with_reducible refine gate_callee (f := 35) rfl ?_); refine goesL_ (some 7) rfl rfl Try.func35 (by kernel_rfl) rfl #[.agg #[.slice A0_0 l0_0.length c0_0]] rfl (by (try simp only [List.map_toArray, List.map_cons, List.map_nil]); first | done | rfl | (simp only [List.length_drop, List.length_take]; rfl)) ?_; (with_reducible refine (impl_MapOk.calls k _ _ l0_0 false _ ?side1 ?side2 A3.out).mono ?_); (case side1 => repeat (first | exact (Kd.C_below HR0_0.out HB.out) | (with_reducible refine Kd.C_alloc ?_ _) | (with_reducible refine Kd.C_drewN ?_ _) | (with_reducible refine Kd.C_drew ?_))); (case side2 => exact HC0_0.out); rintro e w40 ⟨rfl, hb⟩; refine ⟨_, rfl, ?_⟩; have n0_ := bkB BK647 hb; have n1_ := bkB BK648 hb; have n2_ := bkB BK649 hb; have n3_ := Aside0.mk (below_step (bl HB) hb); clear BK647; clear BK648; clear BK649; clear HB; have BK647 := n0_; have BK648 := n1_; have BK649 := n2_; have HB := n3_; clear n0_ n1_ n2_ n3_; (try clear hb); (try clear hb2); (try clear hk); (try clear hi); have hnb41 := NB649_648.out; have hnc41 := NB648_649.out; have hcz42_0 : w40.cell? ⟨gb649, 0, none⟩ = some (.slice none 0 0) := (blk_cell BK649.out 0).trans rfl; have hfz42_0 := blk_frozen BK649.out 0))
    refine bodyPost_ret (results_ct rfl _ _ gb649 45 #[.slice none 0 0] (0, 0) _ rfl (by (with_reducible repeat refine bu ?_); refine blk_put (cs := #[.slice none 0 0]) ?_ 0 _ rfl; (with_reducible repeat refine bu ?_); exact BK649.out) Try.underlying45 rfl (by kernel_rfl)) rfl ?_
    exact ⟨_, by first | rfl | (simp [errW_none, errW_some] <;> rfl) | (simp [*, errW_none, errW_some] <;> rfl), by first | exact Kd.R_nil _ _ _ _ _ | exact Kd.N_nil _ _ _ _ _ | exact Kd.V_nil _ _ _ _ _ | exact Kd.Q_nil _ _ _ _ _ | exact Kd.S_nil _ _ _ _ _, by repeat (first | (with_reducible first | exact HB.out | apply below_alloc | apply pw_below_drewN | apply below_drew1 | refine below_set ?_ GE647.out | refine below_set ?_ GE648.out | refine below_set ?_ GE649.out) | exact HB.out)⟩

end Go.Proofs.Ytiocgkggegahhaa.P

-- written by hw.py for this claim
namespace Go.Proofs.Ytiocgkggegahhaa.P
open Go.RowKit Go.Proofs.YtiocgkggegahhaaUFnExactMapPut.PrintWords Go.Proofs.YtiocgkggegahhaaUFnExactMapPut.PrintLast Go.Proofs.YtiocgkggegahhaaUFnExactMapPut.PrintMore
attribute [local go_sem] max2_int min2_int max_two min_two max_three min_three max_four min_four
set_option linter.unusedVariables false
set_option linter.unusedSimpArgs false

attribute [local go_sem high] eqA29
/-! ### laws_haEnds: function 34 -/
def laws_haEnds.l0 : Nat → List (S29) → List (S29) → Int → Option (Bool)
  | 0, _, _, _ => none
  | k + 1, x0, x1, x5 => if x5 < (x0.length : Int) then (if 0 ≤ x5 then (if x5 < (x1.length : Int) then (if (!(((rd_T29 x0 x5).f0) == ((rd_T29 x1 x5).f0)) || (!(((rd_T29 x0 x5).f1) == ((rd_T29 x1 x5).f1)))) = true then (some false) else (laws_haEnds.l0 k x0 x1 (wrap64 (x5 + 1)))) else (none)) else (none)) else (some true)
def laws_haEnds.f (k : Nat) (l0 : List (S29)) (l1 : List (S29)) : Option (Bool) := if (l0.length : Int) = (l1.length : Int) then (laws_haEnds.l0 k l0 l1 0) else (some false)
theorem laws_haEnds.mono_l : ∀ k, (∀ y0 y1 y2, LeO (laws_haEnds.l0 k y0 y1 y2) (laws_haEnds.l0 (k + 1) y0 y1 y2))
  | 0 => fun _ _ _ r h => by simp [laws_haEnds.l0] at h
  | k + 1 => by
    have ih0 := laws_haEnds.mono_l k
    · intro y0 y1 y2
      unfold laws_haEnds.l0
      repeat' first
      | (with_reducible exact ih0 _ _ _)
      | (with_reducible exact LeO.refl _)
      | (with_reducible exact LeO.none _)
      | (with_reducible refine LeO.ite ?_ ?_)
      | (with_reducible refine LeO.bind ?_ (fun _ => ?_))
      | exact ih0 _ _ _
      | exact LeO.none _
      | refine LeO.ite ?_ ?_
      | refine LeO.bind ?_ (fun _ => ?_)
theorem laws_haEnds.mono : ∀ a0 a1 k, LeO (laws_haEnds.f k a0 a1) (laws_haEnds.f (k + 1) a0 a1) := by
  intro a0 a1 k
  have ih0 := laws_haEnds.mono_l k
  unfold laws_haEnds.f
  repeat' first
      | (with_reducible exact ih0 _ _ _)
      | (with_reducible exact LeO.refl _)
      | (with_reducible exact LeO.none _)
      | (with_reducible refine LeO.ite ?_ ?_)
      | (with_reducible refine LeO.bind ?_ (fun _ => ?_))
      | exact ih0 _ _ _
      | exact LeO.none _
      | refine LeO.ite ?_ ?_
      | refine LeO.bind ?_ (fun _ => ?_)
set_option maxHeartbeats 8000000 in
set_option maxRecDepth 100000 in
theorem laws_haEnds.calls (k : Nat) (A0 : Option Addr) (c0 : Nat) (l0 : List (S29)) (A1 : Option Addr) (c1 : Nat) (l1 : List (S29)) (r : Bool) (w : World) (hr0 : Kd.C k29 w A0 l0.length l0) (hc0 : l0.length ≤ c0) (hr1 : Kd.C k29 w A1 l1.length l1) (hc1 : l1.length ≤ c1) (h : laws_haEnds.f k l0 l1 = some r) :
    Calls Try.prog 34 #[.slice A0 l0.length c0, .slice A1 l1.length c1] w fun e w' => e = .returned (.bool r) ∧ Drawn0 w w' := by
  have hu29 := Try.underlying29
  have HR0 := Aside0.mk hr0
  have HC0 := Aside0.mk hc0
  clear hr0 hc0
  have HR1 := Aside0.mk hr1
  have HC1 := Aside0.mk hc1
  clear hr1 hc1
  have H : (if (l0.length : Int) = (l1.length : Int) then (laws_haEnds.l0 k l0 l1 0) else (some false)) = some r := h
  clear h
  by_cases c3 : (l0.length : Int) = (l1.length : Int)
  · rw [if_pos c3] at H
    have c3b0 : ((l0.length : Int) == (l1.length : Int)) = true := beq_iff_eq.mpr c3
    have c3b1 : ((l0.length : Int) != (l1.length : Int)) = false := bne_eq_false_iff_eq.mpr c3
    have c3b2 : (l0.length == l1.length) = true := by first | simpa using c3 | (simp at c3 ⊢; omega)
    clear c3
    have H' := Aside0.mk H
    clear H
    go_enter Try.func34, Try.ntmps34
    go_wp2
    repeat (go_quiet (fail); try go_wp2)
    go_loopg [5] k (fun kq v5 w' => ∃ (x5_1 : Int), v5 = .int .i64 x5_1 ∧ Aside0 (laws_haEnds.l0 kq l0 l1 x5_1 = some r) ∧ Aside0 (kq ≤ k) ∧ Drawn0 w w')
    case atStart => exact ⟨(0), (by first | rfl | (simp; done) | (simp [*]; done)), H', ⟨Nat.le_refl _⟩, by repeat (first | exact Drawn0.refl _ | apply Drawn0.step)⟩
    case round =>
      clear H'
      try clear c1
      try clear p2
      try clear c3
      try clear c3b0
      try clear c3b1
      try clear c3b2
      obtain ⟨x5_1, rfl, HA, HK1, ⟨m1, rfl⟩⟩ := hrel
      cases gk with
      | zero => exact absurd HA.out (by simp [laws_haEnds.l0])
      | succ k1 =>
        have H := HA.out
        clear HA
        simp only [laws_haEnds.l0] at H
        by_cases c4 : x5_1 < (l0.length : Int)
        · rw [if_pos c4] at H
          have c4b0 : decide (x5_1 < (l0.length : Int)) = true := decide_eq_true c4
          clear c4
          by_cases c5 : 0 ≤ x5_1
          · rw [if_pos c5] at H
            have c5b0 : decide (0 ≤ x5_1) = true := decide_eq_true c5
            clear c5
            by_cases c6 : x5_1 < (l1.length : Int)
            · rw [if_pos c6] at H
              have c6b0 : decide (x5_1 < (l1.length : Int)) = true := decide_eq_true c6
              clear c6
              by_cases c7 : (!(((rd_T29 l0 x5_1).f0) == ((rd_T29 l1 x5_1).f0)) || (!(((rd_T29 l0 x5_1).f1) == ((rd_T29 l1 x5_1).f1)))) = true
              · rw [if_pos c7] at H
                have c7b0 : (!(((rd_T29 l0 x5_1).f0) == ((rd_T29 l1 x5_1).f0)) || (!(((rd_T29 l0 x5_1).f1) == ((rd_T29 l1 x5_1).f1)))) = true := c7
                clear c7
                obtain rfl := Option.some.inj H
                have p784 : 0 ≤ (x5_1 : Int) := of_decide_eq_true (by first | (with_reducible assumption) | assumption)
                have q784 : x5_1 < (l0.length : Int) := of_decide_eq_true (by first | (with_reducible assumption) | assumption)
                obtain ⟨ad784, e784, hx784_0, hx784_1⟩ := at_T29 HR0.out x5_1 p784 q784
                cases e784
                replace p784 := eq_true p784
                replace q784 := eq_true q784
                have p785 : 0 ≤ (x5_1 : Int) := of_decide_eq_true (by first | (with_reducible assumption) | assumption)
                have q785 : x5_1 < (l1.length : Int) := of_decide_eq_true (by first | (with_reducible assumption) | assumption)
                obtain ⟨ad785, e785, hx785_0, hx785_1⟩ := at_T29 HR1.out x5_1 p785 q785
                cases e785
                replace p785 := eq_true p785
                replace q785 := eq_true q785
                go_wp2
                repeat (go_quiet (fail); try go_wp2)
                go_ret
                exact ⟨by first | rfl | (simp; done) | (simp [*]; done), by repeat (first | exact Drawn0.refl _ | apply Drawn0.step)⟩
              · rw [if_neg c7] at H
                have c7b0 : (!(((rd_T29 l0 x5_1).f0) == ((rd_T29 l1 x5_1).f0)) || (!(((rd_T29 l0 x5_1).f1) == ((rd_T29 l1 x5_1).f1)))) = false := by simpa using c7
                clear c7
                have H' := Aside0.mk H
                clear H
                have p784 : 0 ≤ (x5_1 : Int) := of_decide_eq_true (by first | (with_reducible assumption) | assumption)
                have q784 : x5_1 < (l0.length : Int) := of_decide_eq_true (by first | (with_reducible assumption) | assumption)
                obtain ⟨ad784, e784, hx784_0, hx784_1⟩ := at_T29 HR0.out x5_1 p784 q784
                cases e784
                replace p784 := eq_true p784
                replace q784 := eq_true q784
                have p785 : 0 ≤ (x5_1 : Int) := of_decide_eq_true (by first | (with_reducible assumption) | assumption)
                have q785 : x5_1 < (l1.length : Int) := of_decide_eq_true (by first | (with_reducible assumption) | assumption)
                obtain ⟨ad785, e785, hx785_0, hx785_1⟩ := at_T29 HR1.out x5_1 p785 q785
                cases e785
                replace p785 := eq_true p785
                replace q785 := eq_true q785
                go_wp2
                repeat (go_quiet (fail); try go_wp2)
                go_roundg k1
                case measure => have := HK1.out; omega
                case rel => exact ⟨(wrap64 (x5_1 + 1)), (by first | rfl | (simp; done) | (simp [*]; done)), H', ⟨by have := HK1.out; omega⟩, by repeat (first | exact Drawn0.refl _ | apply Drawn0.step)⟩
            · rw [if_neg c6] at H
              exact absurd H (by simp)
          · rw [if_neg c5] at H
            exact absurd H (by simp)
        · rw [if_neg c4] at H
          have c4b0 : decide (x5_1 < (l0.length : Int)) = false := decide_eq_false c4
          clear c4
          obtain rfl := Option.some.inj H
          go_wp2
          repeat (go_quiet (fail); try go_wp2)
          go_ret
          exact ⟨by first | rfl | (simp; done) | (simp [*]; done), by repeat (first | exact Drawn0.refl _ | apply Drawn0.step)⟩
  · rw [if_neg c3] at H
    have c3b0 : ((l0.length : Int) == (l1.length : Int)) = false := beq_eq_false_iff_ne.mpr c3
    have c3b1 : ((l0.length : Int) != (l1.length : Int)) = true := bne_iff_ne.mpr c3
    have c3b2 : (l0.length == l1.length) = false := by first | simpa using c3 | (simp at c3 ⊢; omega)
    obtain rfl := Option.some.inj H
    go_enter Try.func34, Try.ntmps34
    go_wp2
    repeat (go_quiet (fail); try go_wp2)
    go_ret
    exact ⟨by first | rfl | (simp; done) | (simp [*]; done), by repeat (first | exact Drawn0.refl _ | apply Drawn0.step)⟩

end Go.Proofs.Ytiocgkggegahhaa.P

-- written by hw.py for this claim
namespace Go.Proofs.Ytiocgkggegahhaa.P
open Go.RowKit Go.Proofs.YtiocgkggegahhaaUFnExactMapPut.PrintWords Go.Proofs.YtiocgkggegahhaaUFnExactMapPut.PrintLast Go.Proofs.YtiocgkggegahhaaUFnExactMapPut.PrintMore
attribute [local go_sem] max2_int min2_int max_two min_two max_three min_three max_four min_four
set_option linter.unusedVariables false
set_option linter.unusedSimpArgs false

/-! ### laws_haFirst: function 36 -/
def laws_haFirst.f (k : Nat) (l0 : List (S29)) (l1 : List (S29)) : Option (Bool) := if (l0.length : Int) ≥ (l1.length : Int) then (if 0 ≤ (l1.length : Int) then (if (l1.length : Int) ≤ (l0.length : Int) then ((laws_haEnds.f k (l0.take ((l1.length : Int) : Int).toNat) l1).bind fun t790 => (some t790)) else (none)) else (none)) else (some false)
theorem laws_haFirst.mono : ∀ a0 a1 k, LeO (laws_haFirst.f k a0 a1) (laws_haFirst.f (k + 1) a0 a1) := by
  intro a0 a1 k
  unfold laws_haFirst.f
  repeat' first
      | (with_reducible exact laws_haEnds.mono _ _ _)
      | (with_reducible exact LeO.refl _)
      | (with_reducible exact LeO.none _)
      | (with_reducible refine LeO.ite ?_ ?_)
      | (with_reducible refine LeO.bind ?_ (fun _ => ?_))
      | exact laws_haEnds.mono _ _ _
      | exact LeO.none _
      | refine LeO.ite ?_ ?_
      | refine LeO.bind ?_ (fun _ => ?_)
set_option maxHeartbeats 8000000 in
set_option maxRecDepth 100000 in
theorem laws_haFirst.calls (k : Nat) (A0 : Option Addr) (c0 : Nat) (l0 : List (S29)) (A1 : Option Addr) (c1 : Nat) (l1 : List (S29)) (r : Bool) (w : World) (hr0 : Kd.C k29 w A0 l0.length l0) (hc0 : l0.length ≤ c0) (hr1 : Kd.C k29 w A1 l1.length l1) (hc1 : l1.length ≤ c1) (h : laws_haFirst.f k l0 l1 = some r) :
    Calls Try.prog 36 #[.slice A0 l0.length c0, .slice A1 l1.length c1] w fun e w' => e = .returned (.bool r) ∧ Drawn0 w w' := by
  have HR0 := Aside0.mk hr0
  have HC0 := Aside0.mk hc0
  clear hr0 hc0
  have HR1 := Aside0.mk hr1
  have HC1 := Aside0.mk hc1
  clear hr1 hc1
  have H : (if (l0.length : Int) ≥ (l1.length : Int) then (if 0 ≤ (l1.length : Int) then (if (l1.length : Int) ≤ (l0.length : Int) then ((laws_haEnds.f k (l0.take ((l1.length : Int) : Int).toNat) l1).bind fun t790 => (some t790)) else (none)) else (none)) else (some false)) = some r := h
  clear h
  by_cases c3 : (l0.length : Int) ≥ (l1.length : Int)
  · rw [if_pos c3] at H
    have c3b0 : decide ((l1.length : Int) ≤ (l0.length : Int)) = true := decide_eq_true c3
    have c3b1 : decide (l1.length ≤ l0.length) = true := decide_eq_true (Int.ofNat_le.mp c3)
    clear c3
    by_cases c4 : 0 ≤ (l1.length : Int)
    · rw [if_pos c4] at H
      have c4b0 := eq_true c4
      have c4b1 : decide (0 ≤ (l1.length : Int)) = true := decide_eq_true c4
      clear c4
      by_cases c5 : (l1.length : Int) ≤ (l0.length : Int)
      · rw [if_pos c5] at H
        have c5b0 := eq_true c5
        have c5b1 : decide ((l1.length : Int) ≤ (l0.length : Int)) = true := decide_eq_true c5
        clear c5
        obtain ⟨y786, hy786⟩ : ∃ y_ : List (S29), y_ = (l0.take ((l1.length : Int) : Int).toNat) := ⟨_, rfl⟩
        replace H : ((laws_haEnds.f k y786 l1).bind fun t790 => (some t790)) = some r := by first | (rw [hy786]; with_reducible exact H) | (have H2_ := (Option.bind_some _ _).symm.trans H; rw [hy786]; with_reducible exact H2_) | (have H2_ := (Option.bind_some _ _).symm.trans H; with_reducible exact H2_) | with_reducible exact H | (rw [hy786]; exact H) | exact H
        have Ny786 := Aside0.mk hy786
        clear hy786
        replace H := Option.bind_eq_some_iff.mp H
        obtain ⟨t790, A60, H⟩ := H
        replace H : (some t790) = some r := H
        have A6 := Aside0.mk A60
        clear A60
        obtain rfl := Option.some.inj H
        have q7 : ((l1.length : Int) : Int) ≤ ((l0.length : Int) : Int) := of_decide_eq_true (by first | (with_reducible assumption) | assumption)
        obtain ⟨i07, hi07, _, hsz7, _⟩ := info_parts info29
        have hroom7 : l0.length ≤ c0 := HC0.out
        have hC7 : Kd.C k29 _ A0 l0.length l0 := HR0.out
        have hcut7 := cut_to (P := Try.prog) 43 29 .i64 Try.underlying43 hi07 A0 l0.length c0 (l1.length : Int) (of_decide_eq_true (by first | (with_reducible assumption) | assumption)) q7 hroom7
        have hr7 := Kd.C_take (m := ((l1.length : Int) : Int).toNat) hC7 (by omega)
        have hy7 : y786.length = ((l1.length : Int) : Int).toNat := (by rw [Ny786.out, List.length_take]; omega)
        rw [← Ny786.out] at hr7
        rw [← hy7] at hcut7
        have HR789 := Aside0.mk hr7
        have HC789 := Aside0.mk (show y786.length ≤ c0 from by omega)
        clear hr7 hC7 hroom7 hi07 hsz7
        have KY7 := Aside0.mk hy7
        clear hy7
        replace q7 := eq_true q7
        go_enter Try.func36, Try.ntmps36
        go_wp2_with (first | (go_at_call 34; (with_reducible refine (laws_haEnds.calls k _ _ y786 _ _ l1 t790 _ ?side1 ?side2 ?side3 ?side4 A6.out).mono ?_); (case side1 => repeat (first | exact HR789.out | (with_reducible refine Kd.C_alloc ?_ _) | (with_reducible refine Kd.C_drewN ?_ _) | (with_reducible refine Kd.C_drew ?_))); (case side2 => exact HC789.out); (case side3 => repeat (first | exact HR1.out | (with_reducible refine Kd.C_alloc ?_ _) | (with_reducible refine Kd.C_drewN ?_ _) | (with_reducible refine Kd.C_drew ?_))); (case side4 => exact HC1.out); rintro e w' ⟨rfl, ⟨nd, rfl⟩⟩))
        go_ret
        exact ⟨by first | rfl | (simp; done) | (simp [*]; done), by repeat (first | exact Drawn0.refl _ | apply Drawn0.step)⟩
      · rw [if_neg c5] at H
        exact absurd H (by simp)
    · rw [if_neg c4] at H
      exact absurd H (by simp)
  · rw [if_neg c3] at H
    have c3b0 : decide ((l1.length : Int) ≤ (l0.length : Int)) = false := decide_eq_false c3
    have c3b1 : decide (l1.length ≤ l0.length) = false := decide_eq_false (fun h => c3 (Int.ofNat_le.mpr h))
    clear c3
    obtain rfl := Option.some.inj H
    go_enter Try.func36, Try.ntmps36
    go_wp2
    go_ret
    exact ⟨by first | rfl | (simp; done) | (simp [*]; done), by repeat (first | exact Drawn0.refl _ | apply Drawn0.step)⟩

end Go.Proofs.Ytiocgkggegahhaa.P

/- Tables in plain words: what the program's and the spec's functions on them answer is one thing. -/
namespace Go.Proofs.Ytiocgkggegahhaa.P
open Go.RowKit Go.Proofs.YtiocgkggegahhaaUFnExactMapPut.PrintWords Go.Proofs.YtiocgkggegahhaaUFnExactMapPut.PrintLast Go.Proofs.YtiocgkggegahhaaUFnExactMapPut.PrintMore
set_option linter.unusedVariables false
set_option linter.unusedSimpArgs false
theorem fnd_nil (a b : Int) : fnd [] a b = none := rfl
theorem fnd_cons (x : S29) (r : List S29) (a b : Int) : fnd (x :: r) a b = if x.f0 = a ∧ x.f1 = b then some 0 else (fnd r a b).map (· + 1) := by
  unfold fnd
  rw [List.findIdx?_cons]
  by_cases h : x.f0 = a ∧ x.f1 = b
  · simp [h]
  · rw [if_neg h]
    have : (x.f0 == a && x.f1 == b) = false := by
      rw [Bool.eq_false_iff]
      simpa using h
    simp [this]
theorem fnd_lt {l : List S29} {a b : Int} {i : Nat} (h : fnd l a b = some i) : i < l.length ∧ ∀ hi : i < l.length, l[i].f0 = a ∧ l[i].f1 = b := by
  unfold fnd at h
  rw [List.findIdx?_eq_some_iff_getElem] at h
  obtain ⟨h1, h2, _⟩ := h
  exact ⟨h1, fun _ => by simpa using h2⟩
theorem fnd_app (l r : List S29) (a b : Int) : fnd (l ++ r) a b = (match fnd l a b with | some i => some i | none => (fnd r a b).map (· + l.length)) := by
  unfold fnd
  rw [List.findIdx?_append]
  cases l.findIdx? (fun x => x.f0 == a && x.f1 == b) <;> simp
theorem fnd_mem {l : List S29} {x : S29} (h : x ∈ l) : (fnd l x.f0 x.f1).isSome = true := by
  unfold fnd
  rw [List.findIdx?_isSome]
  exact List.any_eq_true.mpr ⟨x, h, by simp⟩
def sign (o : Option Nat) : Int := match o with | none => -1 | some i => (i : Int)
theorem rd29_drop {l : List S29} {i : Nat} (h : i < l.length) : l.drop i = rd_T29 l (i : Int) :: l.drop (i + 1) := by
  rw [rd29_get h]
  exact List.drop_eq_getElem_cons h
theorem rd29_take {l : List S29} {i : Nat} (h : i < l.length) : l.take (i + 1) = l.take i ++ [rd_T29 l (i : Int)] := by
  rw [rd29_get h]
  exact List.take_succ_eq_append_getElem h
/-- Where it stands, looked for from i on. -/
theorem l3Find_a (l : List S29) (hl : l.length ≤ 2000000) (a b : Int) : Ans (fun k => spec_l3Find.f k l a b) (fun r => r = sign (fnd l a b)) := by
  have L : ∀ (m i : Nat), i + m = l.length → fnd (l.take i) a b = none → Ans (fun k => spec_l3Find.l0 k (i : Int) l a b) (fun r => r = sign (fnd l a b)) := by
    intro m
    induction m with
    | zero =>
      intro i hi hn
      refine Ans.succ ?_
      unfold spec_l3Find.l0
      rw [List.take_of_length_le (by omega)] at hn
      exact Ans.neg (by omega) (Ans.pure (by rw [hn]; rfl))
    | succ m ih =>
      intro i hi hn
      refine Ans.succ ?_
      unfold spec_l3Find.l0
      refine Ans.pos (by omega) (Ans.pos (by omega) ?_)
      have ht : fnd (l.take (i + 1)) a b = if (rd_T29 l (i : Int)).f0 = a ∧ (rd_T29 l (i : Int)).f1 = b then some i else none := by
        rw [rd29_take (by omega : i < l.length), fnd_app, hn, fnd_cons]
        have : (l.take i).length = i := by rw [List.length_take]; omega
        dsimp only
        by_cases hc : (rd_T29 l (i : Int)).f0 = a ∧ (rd_T29 l (i : Int)).f1 = b <;> simp [hc, this, fnd_nil]
      refine Ans.ite (fun c => Ans.pure ?_) (fun c => ?_)
      · have c' : (rd_T29 l (i : Int)).f0 = a ∧ (rd_T29 l (i : Int)).f1 = b := by simpa using c
        rw [if_pos c'] at ht
        have := List.take_append_drop (i + 1) l
        rw [← this, fnd_app, ht]
        rfl
      · have c' : ¬ ((rd_T29 l (i : Int)).f0 = a ∧ (rd_T29 l (i : Int)).f1 = b) := by simpa using c
        rw [if_neg c'] at ht
        rw [wi i (by omega)]
        exact ih (i + 1) (by omega) ht
  exact L l.length 0 (by omega) rfl
theorem contains_a (l : List S29) (hl : l.length ≤ 2000000) (a b : Int) : Ans (fun k => impl_EndPoint_75.f k l a b) (fun r => r = (fnd l a b).isSome) := by
  unfold impl_EndPoint_75.f impl_EndPoint_97.f
  have L : ∀ (m i : Nat), i + m = l.length → fnd (l.take i) a b = none → Ans (fun k => impl_EndPoint_97.l0 k l (l.length : Int) (i : Int) a b) (fun r => r = sign (fnd l a b)) := by
    intro m
    induction m with
    | zero =>
      intro i hi hn
      refine Ans.succ ?_
      unfold impl_EndPoint_97.l0
      rw [List.take_of_length_le (by omega)] at hn
      exact Ans.neg (by omega) (Ans.pure (by rw [hn]; rfl))
    | succ m ih =>
      intro i hi hn
      refine Ans.succ ?_
      unfold impl_EndPoint_97.l0
      refine Ans.pos (by omega) (Ans.pos (by omega) (Ans.pos (by omega) ?_))
      have ht : fnd (l.take (i + 1)) a b = if (rd_T29 l (i : Int)).f0 = a ∧ (rd_T29 l (i : Int)).f1 = b then some i else none := by
        rw [rd29_take (by omega : i < l.length), fnd_app, hn, fnd_cons]
        have : (l.take i).length = i := by rw [List.length_take]; omega
        dsimp only
        by_cases hc : (rd_T29 l (i : Int)).f0 = a ∧ (rd_T29 l (i : Int)).f1 = b <;> simp [hc, this, fnd_nil]
      refine Ans.ite (fun c => Ans.pure ?_) (fun c => ?_)
      · have c' : (rd_T29 l (i : Int)).f0 = a ∧ (rd_T29 l (i : Int)).f1 = b := by
          simp only [Bool.and_eq_true, beq_iff_eq] at c
          exact ⟨c.1.symm, c.2.symm⟩
        rw [if_pos c'] at ht
        have := List.take_append_drop (i + 1) l
        rw [← this, fnd_app, ht]
        rfl
      · have c' : ¬ ((rd_T29 l (i : Int)).f0 = a ∧ (rd_T29 l (i : Int)).f1 = b) := by
          rintro ⟨h1, h2⟩
          exact c (by rw [h1, h2]; simp)
        rw [if_neg c'] at ht
        rw [wi i (by omega)]
        exact ih (i + 1) (by omega) ht
  refine Ans.bind (L l.length 0 (by omega) rfl) ?_
  rintro _ rfl
  refine Ans.pure ?_
  cases fnd l a b with
  | none => rfl
  | some i => simp [sign]
/-- No end twice, all inside. -/
def goodFrom (l : List S29) (i : Nat) : Bool := (List.range' i (l.length - i)).all fun j => endIn (rd_T29 l (j : Int)).f0 (rd_T29 l (j : Int)).f1 && !(fnd (l.take j) (rd_T29 l (j : Int)).f0 (rd_T29 l (j : Int)).f1).isSome
def okT (l : List S29) : Bool := decide ((l.length : Int) ≤ 6) && goodFrom l 0
theorem good_end {l : List S29} {i : Nat} (h : l.length ≤ i) : goodFrom l i = true := by
  unfold goodFrom
  rw [Nat.sub_eq_zero_of_le h]
  rfl
theorem good_step {l : List S29} {i : Nat} (h : i < l.length) : goodFrom l i = (endIn (rd_T29 l (i : Int)).f0 (rd_T29 l (i : Int)).f1 && !(fnd (l.take i) (rd_T29 l (i : Int)).f0 (rd_T29 l (i : Int)).f1).isSome && goodFrom l (i + 1)) := by
  unfold goodFrom
  obtain ⟨d, hd⟩ : ∃ d, l.length - i = d + 1 := ⟨l.length - i - 1, by omega⟩
  have hd' : l.length - (i + 1) = d := by omega
  rw [hd, hd', List.range'_succ, List.all_cons]
theorem specMapOk_a (l : List S29) (hl : l.length ≤ 2000000) : Ans (fun k => spec_MapOk.f k l) (fun r => r = okT l) := by
  unfold spec_MapOk.f okT
  refine Ans.ite (fun c => Ans.pure ?_) (fun c => ?_)
  · have : ¬ ((l.length : Int) ≤ 6) := by omega
    simp [this]
  · have e : decide ((l.length : Int) ≤ 6) = true := by simp; omega
    rw [e]
    have L : ∀ (m i : Nat), i + m = l.length → Ans (fun k => spec_MapOk.l0 k (i : Int) l) (fun r => r = goodFrom l i) := by
      intro m
      induction m with
      | zero =>
        intro i hi
        refine Ans.succ ?_
        unfold spec_MapOk.l0
        exact Ans.neg (by omega) (Ans.pure (good_end (by omega)).symm)
      | succ m ih =>
        intro i hi
        refine Ans.succ ?_
        unfold spec_MapOk.l0
        refine Ans.pos (by omega) (Ans.pos (by omega) ?_)
        rw [good_step (by omega : i < l.length)]
        simp only [specEndInside_f, Option.bind_some]
        have e1 : ((i : Int)).toNat = i := by omega
        cases h1 : endIn (rd_T29 l (i : Int)).f0 (rd_T29 l (i : Int)).f1
        · exact Ans.neg (by simp) (Ans.pure (by simp))
        refine Ans.pos rfl (Ans.pos (by omega) ?_)
        rw [e1, wi i (by omega)]
        refine Ans.bind (l3Find_a (l.take i) (by rw [List.length_take]; omega) _ _) ?_
        rintro _ rfl
        cases hf : fnd (l.take i) (rd_T29 l (i : Int)).f0 (rd_T29 l (i : Int)).f1 with
        | none =>
          refine Ans.neg (by simp [sign]) ?_
          simpa using ih (i + 1) (by omega)
        | some j => exact Ans.pos (by simp [sign]) (Ans.pure (by simp))
    simpa using L l.length 0 (by omega)
theorem implMapOk_a (l : List S29) (hl : l.length ≤ 2000000) : Ans (fun k => impl_MapOk.f k l) (fun r => r = okT l) := by
  unfold impl_MapOk.f
  have L : ∀ (m i : Nat), i + m = l.length → Ans (fun k => impl_MapOk.l0 k l (l.length : Int) (i : Int) l) (fun r => r = (decide ((l.length : Int) ≤ 6) && goodFrom l i)) := by
    intro m
    induction m with
    | zero =>
      intro i hi
      refine Ans.succ ?_
      unfold impl_MapOk.l0
      exact Ans.neg (by omega) (Ans.pure (by rw [good_end (by omega)]; simp))
    | succ m ih =>
      intro i hi
      refine Ans.succ ?_
      unfold impl_MapOk.l0
      refine Ans.pos (by omega) (Ans.pos (by omega) (Ans.pos (by omega) ?_))
      rw [good_step (by omega : i < l.length)]
      simp only [EndInside_f, Option.bind_some]
      have e1 : ((i : Int)).toNat = i := by omega
      cases h1 : endIn (rd_T29 l (i : Int)).f0 (rd_T29 l (i : Int)).f1
      · exact Ans.neg (by simp) (Ans.pure (by simp))
      refine Ans.pos rfl (Ans.pos (by omega) ?_)
      rw [e1, wi i (by omega)]
      refine Ans.bind (contains_a (l.take i) (by rw [List.length_take]; omega) _ _) ?_
      rintro _ rfl
      cases hf : fnd (l.take i) (rd_T29 l (i : Int)).f0 (rd_T29 l (i : Int)).f1 with
      | none =>
        refine Ans.neg (by simp) ?_
        simpa using ih (i + 1) (by omega)
      | some j => exact Ans.pos (by simp) (Ans.pure (by simp))
  exact L l.length 0 (by omega)
/-- A table with an end, and its port. -/
def putV (l : List S29) (a b : Int) : List S29 × Int := if portV l a b ≠ 0 then (l, portV l a b) else if l.length = 6 then (l, 0) else (l ++ [⟨a, b⟩], 500 + l.length)
def tabPut (l : List S29) (a b : Int) : List S29 × Int := if okT l && endIn a b then putV l a b else ([], 0)
theorem portV_sign (l : List S29) (a b : Int) : portV l a b = if sign (fnd l a b) < 0 then 0 else 500 + sign (fnd l a b) := by
  unfold portV sign
  cases fnd l a b with
  | none => simp
  | some i =>
    have : ¬ ((i : Int) < 0) := by omega
    simp [this]
theorem sign_lt {l : List S29} (hl : l.length ≤ 2000000) (a b : Int) : -1 ≤ sign (fnd l a b) ∧ sign (fnd l a b) < 2000000 := by
  cases h : fnd l a b with
  | none => simp [sign]
  | some i => have := (fnd_lt h).1; simp only [sign]; omega
theorem portV_range {l : List S29} (hl : l.length ≤ 2000000) (a b : Int) : portV l a b = 0 ∨ (500 ≤ portV l a b ∧ portV l a b < 500 + l.length) := by
  unfold portV
  cases h : fnd l a b with
  | none => exact .inl rfl
  | some i => have := (fnd_lt h).1; dsimp only; omega
theorem specMapPort_a (l : List S29) (hl : l.length ≤ 2000000) (a b : Int) : Ans (fun k => spec_MapPort.f k l a b) (fun r => r = portV l a b) := by
  unfold spec_MapPort.f
  refine Ans.bind (l3Find_a l hl a b) ?_
  rintro _ rfl
  have hs := sign_lt hl a b
  rw [portV_sign]
  refine Ans.ite (fun c => Ans.pure (by rw [if_pos c])) (fun c => Ans.pure ?_)
  rw [if_neg c, w64 _ (by omega)]
theorem okT_le {l : List S29} (h : okT l = true) : l.length ≤ 6 := by
  simp only [okT, Bool.and_eq_true, decide_eq_true_eq] at h
  omega
theorem good_all {l : List S29} (h : goodFrom l 0 = true) : ∀ x ∈ l, endIn x.f0 x.f1 = true := by
  intro x hx
  obtain ⟨j, hj, rfl⟩ := List.getElem_of_mem hx
  unfold goodFrom at h
  have := List.all_eq_true.mp h j (by simp [List.mem_range']; omega)
  rw [rd29_get hj] at this
  simp only [Bool.and_eq_true] at this
  exact this.1
theorem okT_all {l : List S29} (h : okT l = true) : ∀ x ∈ l, endIn x.f0 x.f1 = true := by
  simp only [okT, Bool.and_eq_true] at h
  exact good_all h.2
theorem endIn_wf {a b : Int} (h : endIn a b = true) : wfB a = true ∧ wfB b = true := by
  simp only [endIn, inB, Bool.and_eq_true, decide_eq_true_eq] at h
  unfold wfB
  exact ⟨(i64_iff a).mpr (by omega), (i64_iff b).mpr (by omega)⟩
theorem all_wf {l : List S29} (h : ∀ x ∈ l, endIn x.f0 x.f1 = true) : l.all wfE = true := by
  rw [List.all_eq_true]
  intro x hx
  have := endIn_wf (h x hx)
  simp [wfE, this.1, this.2]
theorem implMapPort_f {l : List S29} (hl : l.length ≤ 1000) (h : ∀ x ∈ l, endIn x.f0 x.f1 = true) {a b : Int} (he : endIn a b = true) : impl_MapPort.f l a b = some (portV l a b) := by
  unfold impl_MapPort.f
  have := endIn_wf he
  rw [if_pos ⟨by omega, all_wf h, this.1, this.2⟩]
theorem specMapPut_a (l : List S29) (hl : l.length ≤ 2000000) (a b : Int) : Ans (fun k => spec_MapPut.f k l a b) (fun r => r = tabPut l a b) := by
  unfold spec_MapPut.f tabPut
  refine Ans.bind (specMapOk_a l hl) ?_
  rintro _ rfl
  simp only [specEndInside_f, Option.bind_some]
  have J0 : Ans (fun k => spec_MapPut.j0 k true l a b) (fun r => r = ([], 0)) := by
    refine Ans.succ ?_
    unfold spec_MapPut.j0
    exact Ans.pos rfl (Ans.pure rfl)
  refine Ans.ite (fun c => ?_) (fun c => by simpa [c] using J0)
  rw [c]
  cases he : endIn a b
  · simpa using J0
  have hl6 := okT_le c
  refine Ans.succ ?_
  unfold spec_MapPut.j0
  refine Ans.neg (by simp) ?_
  have hc : spec_l3Copy.f l = some l := by
    unfold spec_l3Copy.f
    rw [Option.bind_some, if_pos (by simp; omega)]
    rfl
  rw [hc]
  refine Ans.bsome ?_
  refine Ans.bind (R := fun r => r = putV l a b) ?_ (fun v hv => by subst hv; exact Ans.pure (by simp))
  have P : Ans (fun k => spec_l3Put.f k l a b) (fun r => r = putV l a b) := by
    unfold spec_l3Put.f
    refine Ans.bind (specMapPort_a l hl a b) ?_
    rintro _ rfl
    have hr := portV_range hl a b
    refine Ans.ite (fun c1 => Ans.pure ?_) (fun c1 => ?_)
    · have v0 : putV l a b = (l, portV l a b) := by unfold putV; rw [if_pos (by omega)]
      rw [v0]
    · have e0 : portV l a b = 0 := by omega
      refine Ans.ite (fun c2 => Ans.pure ?_) (fun c2 => ?_)
      · have v0 : putV l a b = (l, 0) := by unfold putV; rw [if_neg (by simp [e0]), if_pos (by omega)]
        rw [v0]
      · have v0 : putV l a b = (l ++ [⟨a, b⟩], (500 + l.length : Int)) := by unfold putV; rw [if_neg (by simp [e0]), if_neg (by omega)]
        rw [v0]
        refine Ans.bsome (Ans.pos (by simp; omega) (Ans.bsome (Ans.bsome (Ans.pos (by simp; omega) (Ans.bsome (Ans.pure ?_))))))
        have e1 : (([] ++ l ++ [⟨a, b⟩] : List S29).length : Int) = l.length + 1 := by simp
        rw [e1, w64 (500 + ((l.length : Int) + 1)) (by omega), w64 _ (by omega)]
        simp
        omega
  exact P
theorem implMapPut_a (l : List S29) (hl : l.length ≤ 2000000) (a b : Int) : Ans (fun k => impl_MapPut.f k l a b) (fun r => r = tabPut l a b) := by
  unfold impl_MapPut.f tabPut
  refine Ans.bind (implMapOk_a l hl) ?_
  rintro _ rfl
  simp only [EndInside_f, Option.bind_some]
  refine Ans.ite (fun c => ?_) (fun c => Ans.pure (by simp [c]))
  rw [c]
  cases he : endIn a b
  · exact Ans.neg (by simp) (Ans.pure (by simp))
  refine Ans.pos rfl ?_
  have hl6 := okT_le c
  have hr := portV_range hl a b
  have P : impl_MapTab_put.f l a b = some (putV l a b) := by
    unfold impl_MapTab_put.f impl_MapTab_copied.f impl_EndPoint_103.f impl_EndPoint_93.f
    rw [if_pos (by omega), Option.bind_some, Option.bind_some, Option.bind_some, implMapPort_f (by omega) (okT_all c) he, Option.bind_some]
    unfold putV
    by_cases c1 : portV l a b = 0
    · by_cases c2 : (l.length : Int) ≥ 6
      · have c2' : l.length = 6 := by omega
        simp [c1, c2']
      · have c2' : ¬ l.length = 6 := by omega
        have c3 : l.length < 8796093022208 := by omega
        have c4 : ¬ (6 ≤ l.length) := by omega
        have e : wrap64 (500 + (l.length : Int)) = 500 + l.length := w64 _ (by omega)
        simp [c1, c2', c3, c4, e]
        omega
    · simp [c1]
  rw [P]
  exact Ans.bsome (Ans.pure (by simp))
instance decS29 : DecidableEq S29 := fun a b => decidable_of_iff (a.f0 = b.f0 ∧ a.f1 = b.f1) (by cases a; cases b; simp)
theorem haEnds_a (l r : List S29) (hl : l.length ≤ 2000000) : Ans (fun k => laws_haEnds.f k l r) (fun v => v = decide (l = r)) := by
  unfold laws_haEnds.f
  refine Ans.ite (fun c => ?_) (fun c => Ans.pure ?_)
  · have L : ∀ (m i : Nat), i + m = l.length → l.take i = r.take i → Ans (fun k => laws_haEnds.l0 k l r (i : Int)) (fun v => v = decide (l = r)) := by
      intro m
      induction m with
      | zero =>
        intro i hi ht
        refine Ans.succ ?_
        unfold laws_haEnds.l0
        rw [List.take_of_length_le (by omega), List.take_of_length_le (by omega)] at ht
        exact Ans.neg (by omega) (Ans.pure (by simp [ht]))
      | succ m ih =>
        intro i hi ht
        refine Ans.succ ?_
        unfold laws_haEnds.l0
        refine Ans.pos (by omega) (Ans.pos (by omega) (Ans.pos (by omega) ?_))
        rw [wi i (by omega)]
        refine Ans.ite (fun h => Ans.pure ?_) (fun h => ?_)
        · have : ¬ (l = r) := by
            rintro rfl
            simp at h
          simp [this]
        · refine ih (i + 1) (by omega) ?_
          rw [rd29_take (by omega : i < l.length), rd29_take (by omega : i < r.length), ht]
          have : rd_T29 l (i : Int) = rd_T29 r (i : Int) := by
            simp at h
            cases h1 : rd_T29 l (i : Int)
            cases h2 : rd_T29 r (i : Int)
            rw [h1, h2] at h
            simp at h
            simp [h.1, h.2]
          rw [this]
    exact L l.length 0 (by omega) rfl
  · have : ¬ (l = r) := by
      rintro rfl
      exact c rfl
    simp [this]
theorem haFirst_a (l r : List S29) (hl : l.length ≤ 2000000) (h : ∃ t, l = r ++ t) : Ans (fun k => laws_haFirst.f k l r) (fun v => v = true) := by
  obtain ⟨t, rfl⟩ := h
  unfold laws_haFirst.f
  refine Ans.pos (by simp; omega) (Ans.pos (by omega) (Ans.pos (by simp; omega) ?_))
  have e : (((r.length : Int)) : Int).toNat = r.length := by omega
  rw [e, List.take_left]
  refine Ans.bind (haEnds_a r r (by simp at hl; omega)) ?_
  rintro _ rfl
  exact Ans.pure (by simp)
end Go.Proofs.Ytiocgkggegahhaa.P

-- written by hw.py for this claim
namespace Go.Proofs.Ytiocgkggegahhaa.P
open Go.RowKit Go.Proofs.YtiocgkggegahhaaUFnExactMapPut.PrintWords Go.Proofs.YtiocgkggegahhaaUFnExactMapPut.PrintLast Go.Proofs.YtiocgkggegahhaaUFnExactMapPut.PrintMore
attribute [local go_sem] max2_int min2_int max_two min_two max_three min_three max_four min_four
set_option linter.unusedVariables false
set_option linter.unusedSimpArgs false

/-! ### laws_toEndPoint: function 19 -/
def laws_toEndPoint.f (a0_0 : Int) (a0_1 : Int) : Option (Int × Int) := some (a0_0, a0_1)
set_option maxHeartbeats 8000000 in
set_option maxRecDepth 100000 in
theorem laws_toEndPoint.calls (a0_0 : Int) (a0_1 : Int) (r1 : Int) (r2 : Int) (w : World) (h : laws_toEndPoint.f a0_0 a0_1 = some (r1, r2)) :
    Calls Try.prog 19 #[.agg #[.int .i64 a0_0, .int .i64 a0_1]] w fun e w' => e = .returned (.agg #[.int .i64 r1, .int .i64 r2]) ∧ Below w.heap.size w w' := by
  have hu34 := Try.underlying34
  have hu29 := Try.underlying29
  have HB := Aside0.mk (Below.refl w.heap.size w)
  have H : (some (a0_0, a0_1)) = some (r1, r2) := h
  clear h
  simp only [Option.some.injEq, Prod.mk.injEq] at H
  obtain ⟨rfl, rfl⟩ := H
  go_enter Try.func19, Try.ntmps19
  go_wp2_with (first | ((with_reducible refine gate_dst (N := 1) rfl ?_); refine box_event ?hg (N := 1) ?hd (cs := #[.int .i64 a0_0, .int .i64 a0_1]) (t := 34) ?hr ?_; (case hd => rfl); (case hg => rfl); (case hr => first | (go_simp; done) | (go_simp; rfl)); intro gb257 hg w2 hbox hb; have n0_ := Aside0.mk (below_step (bl HB) hb); have n1_ := Aside0.mk (hbox); have n2_ := Aside0.mk ((by rw [hg]; exact (below_size (bl HB)) : w.heap.size ≤ gb257)); have n3_ := Aside0.mk ((by rw [hg]; exact (below_size (bl HB)) : w.heap.size ≤ gb257)); clear HB; have HB := n0_; have BK257 := n1_; have GW257 := n2_; have GE257 := n3_; clear n0_ n1_ n2_ n3_; clear hb hbox hg) | ((with_reducible refine gate_dst (N := 2) rfl ?_); refine box_event ?hg (N := 2) ?hd (cs := #[.int .i64 0, .int .i64 0]) (t := 29) ?hr ?_; (case hd => rfl); (case hg => rfl); (case hr => first | (go_simp; done) | (go_simp; rfl)); intro gb258 hg w3 hbox hb; have n0_ := bkB BK257 hb; have n1_ := Aside0.mk (below_step (bl HB) hb); have n2_ := Aside0.mk (hbox); have n3_ := Aside0.mk ((by rw [hg]; exact (below_size (bl HB)) : w.heap.size ≤ gb258)); have n4_ := Aside0.mk ((by rw [hg]; exact (below_size (bl HB)) : w.heap.size ≤ gb258)); have n5_ := Aside0.mk ((by rw [hg]; exact Nat.ne_of_lt (bkL BK257) : gb257 ≠ gb258)); have n6_ := Aside0.mk ((by rw [hg]; exact Nat.ne_of_gt (bkL BK257) : gb258 ≠ gb257)); clear BK257; clear HB; have BK257 := n0_; have HB := n1_; have BK258 := n2_; have GW258 := n3_; have GE258 := n4_; have NB257_258 := n5_; have NB258_257 := n6_; clear n0_ n1_ n2_ n3_ n4_ n5_ n6_; clear hb hbox hg) | ((with_reducible refine gate_dst (N := 3) rfl ?_); refine box_event ?hg (N := 3) ?hd (cs := #[.int .i64 0, .int .i64 0]) (t := 29) ?hr ?_; (case hd => rfl); (case hg => rfl); (case hr => first | (go_simp; done) | (go_simp; rfl)); intro gb259 hg w4 hbox hb; have n0_ := bkB BK257 hb; have n1_ := bkB BK258 hb; have n2_ := Aside0.mk (below_step (bl HB) hb); have n3_ := Aside0.mk (hbox); have n4_ := Aside0.mk ((by rw [hg]; exact (below_size (bl HB)) : w.heap.size ≤ gb259)); have n5_ := Aside0.mk ((by rw [hg]; exact (below_size (bl HB)) : w.heap.size ≤ gb259)); have n6_ := Aside0.mk ((by rw [hg]; exact Nat.ne_of_lt (bkL BK257) : gb257 ≠ gb259)); have n7_ := Aside0.mk ((by rw [hg]; exact Nat.ne_of_gt (bkL BK257) : gb259 ≠ gb257)); have n8_ := Aside0.mk ((by rw [hg]; exact Nat.ne_of_lt (bkL BK258) : gb258 ≠ gb259)); have n9_ := Aside0.mk ((by rw [hg]; exact Nat.ne_of_gt (bkL BK258) : gb259 ≠ gb258)); clear BK257; clear BK258; clear HB; have BK257 := n0_; have BK258 := n1_; have HB := n2_; have BK259 := n3_; have GW259 := n4_; have GE259 := n5_; have NB257_259 := n6_; have NB259_257 := n7_; have NB258_259 := n8_; have NB259_258 := n9_; clear n0_ n1_ n2_ n3_ n4_ n5_ n6_ n7_ n8_ n9_; clear hb hbox hg; have hnb5 := NB257_258.out; have hnc5 := NB258_257.out; have hnb6 := NB257_259.out; have hnc6 := NB259_257.out; have hcz7_0 : w4.cell? ⟨gb257, 0, none⟩ = some (.int .i64 a0_0) := (blk_cell BK257.out 0).trans rfl; have hcz7_1 : w4.cell? ⟨gb257, 1, none⟩ = some (.int .i64 a0_1) := (blk_cell BK257.out 1).trans rfl; have hfz7_0 := blk_frozen BK257.out 0; have hfz7_1 := blk_frozen BK257.out 1; have hnb8 := NB259_258.out; have hnc8 := NB258_259.out; have hcz9_0 : w4.cell? ⟨gb259, 0, none⟩ = some (.int .i64 0) := (blk_cell BK259.out 0).trans rfl; have hcz9_1 : w4.cell? ⟨gb259, 1, none⟩ = some (.int .i64 0) := (blk_cell BK259.out 1).trans rfl; have hfz9_0 := blk_frozen BK259.out 0; have hfz9_1 := blk_frozen BK259.out 1; have hcz10_0 : w4.cell? ⟨gb258, 0, none⟩ = some (.int .i64 0) := (blk_cell BK258.out 0).trans rfl; have hcz10_1 : w4.cell? ⟨gb258, 1, none⟩ = some (.int .i64 0) := (blk_cell BK258.out 1).trans rfl; have hfz10_0 := blk_frozen BK258.out 0; have hfz10_1 := blk_frozen BK258.out 1))
  refine bodyPost_ret (results_cell_row rfl _ _ gb258 29 #[.int .i64 a0_0, .int .i64 a0_1] (0, 0) _ rfl (by (with_reducible repeat refine bu ?_); refine blk_put (cs := #[.int .i64 a0_0, .int .i64 0]) ?_ 1 _ rfl; (with_reducible repeat refine bu ?_); refine blk_put (cs := #[.int .i64 0, .int .i64 0]) ?_ 0 _ rfl; (with_reducible repeat refine bu ?_); refine blk_far ?_ NB258_259.out _; (with_reducible repeat refine bu ?_); refine blk_far ?_ NB258_259.out _; (with_reducible repeat refine bu ?_); exact BK258.out) Try.underlying29 rfl (by kernel_rfl)) rfl ?_
  exact ⟨by first | rfl | (simp [errW_none, errW_some] <;> rfl) | (simp [*, errW_none, errW_some] <;> rfl), by repeat (first | (with_reducible first | exact HB.out | apply below_alloc | apply pw_below_drewN | apply below_drew1 | refine below_set ?_ GE257.out | refine below_set ?_ GE258.out | refine below_set ?_ GE259.out) | exact HB.out)⟩

end Go.Proofs.Ytiocgkggegahhaa.P

-- written by hw.py for this claim
namespace Go.Proofs.Ytiocgkggegahhaa.P
open Go.RowKit Go.Proofs.YtiocgkggegahhaaUFnExactMapPut.PrintWords Go.Proofs.YtiocgkggegahhaaUFnExactMapPut.PrintLast Go.Proofs.YtiocgkggegahhaaUFnExactMapPut.PrintMore
attribute [local go_sem] max2_int min2_int max_two min_two max_three min_three max_four min_four
set_option linter.unusedVariables false
set_option linter.unusedSimpArgs false

/-! ### laws_szEndPointS: function 68 -/
def laws_szEndPointS.f (l0 : List (S34)) (a1 : Int) : Option (Int) := if (wrap64 (a1 - (l0.length : Int))) < 0 then (some (-1)) else (some (wrap64 (a1 - (l0.length : Int))))
set_option maxHeartbeats 8000000 in
set_option maxRecDepth 100000 in
theorem laws_szEndPointS.calls (A0 : Option Addr) (c0 : Nat) (l0 : List (S34)) (a1 : Int) (r : Int) (w : World) (hr0 : Kd.C k34 w A0 l0.length l0) (hc0 : l0.length ≤ c0) (h : laws_szEndPointS.f l0 a1 = some r) :
    Calls Try.prog 68 #[.slice A0 l0.length c0, .int .i64 a1] w fun e w' => e = .returned (.int .i64 r) ∧ Drawn0 w w' := by
  have HR0 := Aside0.mk hr0
  have HC0 := Aside0.mk hc0
  clear hr0 hc0
  have H : (if (wrap64 (a1 - (l0.length : Int))) < 0 then (some (-1)) else (some (wrap64 (a1 - (l0.length : Int))))) = some r := h
  clear h
  by_cases c3 : (wrap64 (a1 - (l0.length : Int))) < 0
  · rw [if_pos c3] at H
    have c3b0 : decide ((wrap64 (a1 - (l0.length : Int))) < 0) = true := decide_eq_true c3
    clear c3
    obtain rfl := Option.some.inj H
    go_enter Try.func68, Try.ntmps68
    go_wp2
    go_ret
    exact ⟨by first | rfl | (simp; done) | (simp [*]; done), by repeat (first | exact Drawn0.refl _ | apply Drawn0.step)⟩
  · rw [if_neg c3] at H
    have c3b0 : decide ((wrap64 (a1 - (l0.length : Int))) < 0) = false := decide_eq_false c3
    clear c3
    obtain rfl := Option.some.inj H
    go_enter Try.func68, Try.ntmps68
    go_wp2
    go_ret
    exact ⟨by first | rfl | (simp; done) | (simp [*]; done), by repeat (first | exact Drawn0.refl _ | apply Drawn0.step)⟩

end Go.Proofs.Ytiocgkggegahhaa.P

-- written by hw.py for this claim
namespace Go.Proofs.Ytiocgkggegahhaa.P
open Go.RowKit Go.Proofs.YtiocgkggegahhaaUFnExactMapPut.PrintWords Go.Proofs.YtiocgkggegahhaaUFnExactMapPut.PrintLast Go.Proofs.YtiocgkggegahhaaUFnExactMapPut.PrintMore
attribute [local go_sem] max2_int min2_int max_two min_two max_three min_three max_four min_four
set_option linter.unusedVariables false
set_option linter.unusedSimpArgs false

/-! ### laws_szMapTab: function 28 -/
def laws_szMapTab.f (l0_0 : List (S34)) (a1 : Int) : Option (Int) := (laws_szEndPointS.f l0_0 a1).bind fun t706 => (if t706 < 0 then (some (-1)) else (some t706))
set_option maxHeartbeats 8000000 in
set_option maxRecDepth 100000 in
theorem laws_szMapTab.calls (A0_0 : Option Addr) (c0_0 : Nat) (l0_0 : List (S34)) (a1 : Int) (r : Int) (w : World) (hr0_0 : Kd.C k34 w A0_0 l0_0.length l0_0) (hc0_0 : l0_0.length ≤ c0_0) (h : laws_szMapTab.f l0_0 a1 = some r) :
    Calls Try.prog 28 #[.agg #[.slice A0_0 l0_0.length c0_0], .int .i64 a1] w fun e w' => e = .returned (.int .i64 r) ∧ Below w.heap.size w w' := by
  have hu55 := Try.underlying55
  have HR0_0 := Aside0.mk hr0_0
  have HC0_0 := Aside0.mk hc0_0
  clear hr0_0 hc0_0
  have HB := Aside0.mk (Below.refl w.heap.size w)
  have H : ((laws_szEndPointS.f l0_0 a1).bind fun t706 => (if t706 < 0 then (some (-1)) else (some t706))) = some r := h
  clear h
  replace H := Option.bind_eq_some_iff.mp H
  obtain ⟨t706, A30, H⟩ := H
  replace H : (if t706 < 0 then (some (-1)) else (some t706)) = some r := H
  have A3 := Aside0.mk A30
  clear A30
  by_cases c4 : t706 < 0
  · rw [if_pos c4] at H
    have c4b0 : decide (t706 < 0) = true := decide_eq_true c4
    clear c4
    obtain rfl := Option.some.inj H
    go_enter Try.func28, Try.ntmps28
    go_wp2_with (first | ((with_reducible refine gate_dst (N := 2) rfl ?_); refine box_event ?hg (N := 2) ?hd (cs := #[.slice A0_0 l0_0.length c0_0]) (t := 55) ?hr ?_; (case hd => rfl); (case hg => rfl); (case hr => first | (go_simp; done) | (go_simp; rfl)); intro gb705 hg w5 hbox hb; have n0_ := Aside0.mk (below_step (bl HB) hb); have n1_ := Aside0.mk (hbox); have n2_ := Aside0.mk ((by rw [hg]; exact (below_size (bl HB)) : w.heap.size ≤ gb705)); have n3_ := Aside0.mk ((by rw [hg]; exact (below_size (bl HB)) : w.heap.size ≤ gb705)); clear HB; have HB := n0_; have BK705 := n1_; have GW705 := n2_; have GE705 := n3_; clear n0_ n1_ n2_ n3_; clear hb hbox hg; have hcz6_0 : w5.cell? ⟨gb705, 0, none⟩ = some (.slice A0_0 l0_0.length c0_0) := (blk_cell BK705.out 0).trans rfl; have hfz6_0 := blk_frozen BK705.out 0) | ((with_reducible refine gate_callee (f := 68) rfl ?_); refine goesL_ (some 8) rfl rfl Try.func68 (by kernel_rfl) rfl #[.slice A0_0 l0_0.length c0_0, .int .i64 a1] rfl (by (try simp only [List.map_toArray, List.map_cons, List.map_nil]); first | done | rfl | (simp only [List.length_drop, List.length_take]; rfl)) ?_; (with_reducible refine (laws_szEndPointS.calls _ _ l0_0 a1 t706 _ ?side1 ?side2 A3.out).mono ?_); (case side1 => repeat (first | exact (Kd.C_below HR0_0.out HB.out) | (with_reducible refine Kd.C_alloc ?_ _) | (with_reducible refine Kd.C_drewN ?_ _) | (with_reducible refine Kd.C_drew ?_))); (case side2 => exact HC0_0.out); rintro e w' ⟨rfl, ⟨nd, rfl⟩⟩; refine ⟨_, rfl, ?_⟩))
    go_ret
    exact ⟨by first | rfl | (simp [errW_none, errW_some] <;> rfl) | (simp [*, errW_none, errW_some] <;> rfl), by repeat (first | (with_reducible first | exact HB.out | apply below_alloc | apply pw_below_drewN | apply below_drew1 | refine below_set ?_ GE705.out) | exact HB.out)⟩
  · rw [if_neg c4] at H
    have c4b0 : decide (t706 < 0) = false := decide_eq_false c4
    clear c4
    obtain rfl := Option.some.inj H
    go_enter Try.func28, Try.ntmps28
    go_wp2_with (first | ((with_reducible refine gate_dst (N := 2) rfl ?_); refine box_event ?hg (N := 2) ?hd (cs := #[.slice A0_0 l0_0.length c0_0]) (t := 55) ?hr ?_; (case hd => rfl); (case hg => rfl); (case hr => first | (go_simp; done) | (go_simp; rfl)); intro gb705 hg w7 hbox hb; have n0_ := Aside0.mk (below_step (bl HB) hb); have n1_ := Aside0.mk (hbox); have n2_ := Aside0.mk ((by rw [hg]; exact (below_size (bl HB)) : w.heap.size ≤ gb705)); have n3_ := Aside0.mk ((by rw [hg]; exact (below_size (bl HB)) : w.heap.size ≤ gb705)); clear HB; have HB := n0_; have BK705 := n1_; have GW705 := n2_; have GE705 := n3_; clear n0_ n1_ n2_ n3_; clear hb hbox hg; have hcz8_0 : w7.cell? ⟨gb705, 0, none⟩ = some (.slice A0_0 l0_0.length c0_0) := (blk_cell BK705.out 0).trans rfl; have hfz8_0 := blk_frozen BK705.out 0) | ((with_reducible refine gate_callee (f := 68) rfl ?_); refine goesL_ (some 8) rfl rfl Try.func68 (by kernel_rfl) rfl #[.slice A0_0 l0_0.length c0_0, .int .i64 a1] rfl (by (try simp only [List.map_toArray, List.map_cons, List.map_nil]); first | done | rfl | (simp only [List.length_drop, List.length_take]; rfl)) ?_; (with_reducible refine (laws_szEndPointS.calls _ _ l0_0 a1 t706 _ ?side1 ?side2 A3.out).mono ?_); (case side1 => repeat (first | exact (Kd.C_below HR0_0.out HB.out) | (with_reducible refine Kd.C_alloc ?_ _) | (with_reducible refine Kd.C_drewN ?_ _) | (with_reducible refine Kd.C_drew ?_))); (case side2 => exact HC0_0.out); rintro e w' ⟨rfl, ⟨nd, rfl⟩⟩; refine ⟨_, rfl, ?_⟩))
    go_ret
    exact ⟨by first | rfl | (simp [errW_none, errW_some] <;> rfl) | (simp [*, errW_none, errW_some] <;> rfl), by repeat (first | (with_reducible first | exact HB.out | apply below_alloc | apply pw_below_drewN | apply below_drew1 | refine below_set ?_ GE705.out) | exact HB.out)⟩

end Go.Proofs.Ytiocgkggegahhaa.P

-- written by hw.py for this claim
namespace Go.Proofs.Ytiocgkggegahhaa.P
open Go.RowKit Go.Proofs.YtiocgkggegahhaaUFnExactMapPut.PrintWords Go.Proofs.YtiocgkggegahhaaUFnExactMapPut.PrintLast Go.Proofs.YtiocgkggegahhaaUFnExactMapPut.PrintMore
attribute [local go_sem] max2_int min2_int max_two min_two max_three min_three max_four min_four
set_option linter.unusedVariables false
set_option linter.unusedSimpArgs false

/-! ### laws_toEndPointS: function 71 -/
def laws_toEndPointS.l0 : Nat → List (S34) → List (S29) → Int → Option ((List (S29)))
  | 0, _, _, _ => none
  | k + 1, x0, x3, x4 => if x4 < (x0.length : Int) then (if 0 ≤ x4 then ((laws_toEndPoint.f ((rd_T34 x0 x4).f0) ((rd_T34 x0 x4).f1)).bind fun bt711 => (if x4 < (x3.length : Int) then (laws_toEndPointS.l0 k x0 (x3.set (x4 : Int).toNat (⟨bt711.1, bt711.2⟩ : S29)) (wrap64 (x4 + 1))) else (none))) else (none)) else (some x3)
def laws_toEndPointS.f (k : Nat) (l0 : List (S34)) : Option ((List (S29))) := if 0 ≤ (l0.length : Int) then (if ((l0.length : Int) : Int).toNat ≤ 17592186044416 then (laws_toEndPointS.l0 k l0 (List.replicate ((l0.length : Int) : Int).toNat z29) 0) else (none)) else (none)
theorem laws_toEndPointS.mono_l : ∀ k, (∀ y0 y1 y2, LeO (laws_toEndPointS.l0 k y0 y1 y2) (laws_toEndPointS.l0 (k + 1) y0 y1 y2))
  | 0 => fun _ _ _ r h => by simp [laws_toEndPointS.l0] at h
  | k + 1 => by
    have ih0 := laws_toEndPointS.mono_l k
    · intro y0 y1 y2
      unfold laws_toEndPointS.l0
      repeat' first
      | (with_reducible exact ih0 _ _ _)
      | (with_reducible exact LeO.refl _)
      | (with_reducible exact LeO.none _)
      | (with_reducible refine LeO.ite ?_ ?_)
      | (with_reducible refine LeO.bind ?_ (fun _ => ?_))
      | exact ih0 _ _ _
      | exact LeO.none _
      | refine LeO.ite ?_ ?_
      | refine LeO.bind ?_ (fun _ => ?_)
theorem laws_toEndPointS.mono : ∀ a0 k, LeO (laws_toEndPointS.f k a0) (laws_toEndPointS.f (k + 1) a0) := by
  intro a0 k
  have ih0 := laws_toEndPointS.mono_l k
  unfold laws_toEndPointS.f
  repeat' first
      | (with_reducible exact ih0 _ _ _)
      | (with_reducible exact LeO.refl _)
      | (with_reducible exact LeO.none _)
      | (with_reducible refine LeO.ite ?_ ?_)
      | (with_reducible refine LeO.bind ?_ (fun _ => ?_))
      | exact ih0 _ _ _
      | exact LeO.none _
      | refine LeO.ite ?_ ?_
      | refine LeO.bind ?_ (fun _ => ?_)
set_option maxHeartbeats 8000000 in
set_option maxRecDepth 100000 in
theorem laws_toEndPointS.calls (k : Nat) (A0 : Option Addr) (c0 : Nat) (l0 : List (S34)) (r : List (S29)) (w : World) (hr0 : Kd.C k34 w A0 l0.length l0) (hc0 : l0.length ≤ c0) (h : laws_toEndPointS.f k l0 = some r) :
    Calls Try.prog 71 #[.slice A0 l0.length c0] w fun e w' => ∃ v0_ : Value, e = .returned (v0_) ∧ Kd.R k29 29 w' w.heap.size (fun _ => True) v0_ r ∧ Below w.heap.size w w' := by
  have hu34 := Try.underlying34
  have hu29 := Try.underlying29
  have HR0 := Aside0.mk hr0
  have HC0 := Aside0.mk hc0
  clear hr0 hc0
  have HB := Aside0.mk (Below.refl w.heap.size w)
  have H : (if 0 ≤ (l0.length : Int) then (if ((l0.length : Int) : Int).toNat ≤ 17592186044416 then (laws_toEndPointS.l0 k l0 (List.replicate ((l0.length : Int) : Int).toNat z29) 0) else (none)) else (none)) = some r := h
  clear h
  by_cases c2 : 0 ≤ (l0.length : Int)
  · rw [if_pos c2] at H
    have c2b0 := eq_true c2
    have c2b1 : decide (0 ≤ (l0.length : Int)) = true := decide_eq_true c2
    clear c2
    by_cases c3 : ((l0.length : Int) : Int).toNat ≤ 17592186044416
    · rw [if_pos c3] at H
      have c3b0 := eq_true c3
      have c3b1 : decide (((l0.length : Int) : Int).toNat ≤ 17592186044416) = true := decide_eq_true c3
      clear c3
      obtain ⟨y707, hy707⟩ : ∃ y_ : List (S29), y_ = (List.replicate ((l0.length : Int) : Int).toNat z29) := ⟨_, rfl⟩
      replace H : (laws_toEndPointS.l0 k l0 y707 0) = some r := by first | (rw [hy707]; with_reducible exact H) | (have H2_ := (Option.bind_some _ _).symm.trans H; rw [hy707]; with_reducible exact H2_) | (have H2_ := (Option.bind_some _ _).symm.trans H; with_reducible exact H2_) | with_reducible exact H | (rw [hy707]; exact H) | exact H
      have Ny707 := Aside0.mk hy707
      clear hy707
      have H' := Aside0.mk H
      clear H
      go_enter Try.func71, Try.ntmps71
      go_wp2_with (first | ((with_reducible refine gate_dst (N := 7) rfl ?_); refine Kd.R_make k29 _ 29 rfl (N := 7) rfl 43 _ _ rfl (l0.length : Int) rfl rfl Try.underlying43 (.agg #[(.int .i64 0), (.int .i64 0)]) 16 info29 rfl (by decide) (by omega) z29 (ok := fun _ => True) (okp := fun _ => True) (k29_mkM _ _ _ z29 ) (fun _ hk => hk) trivial (of_decide_eq_true (by first | (with_reducible assumption) | assumption)) (Nat.le_trans (Nat.mul_le_mul_right _ (of_decide_eq_true (by first | (with_reducible assumption) | assumption) : (l0.length : Int).toNat ≤ 17592186044416)) (by omega)) (Below.refl _ _) (Nat.le_refl _) ?_; intro v708 w4 ho5 hb hg_ hnew_; clear hg_ hnew_; (first | rw [← Ny707.out] at ho5 | (simp only [Int.reduceToNat] at ho5; rw [← Ny707.out] at ho5)); have n0_ := Aside0.mk (Kd.R_lower ho5 (below_size (bl HB))); have n1_ := Aside0.mk (below_step (bl HB) hb); clear HB; have HO709 := n0_; have HB := n1_; clear n0_ n1_; clear hb ho5))
      go_loopg [4] k (fun kq v4 w' => ∃ (x3_1 : List (S29)) (x4_1 : Int), v4 = .int .i64 x4_1 ∧ Aside0 (laws_toEndPointS.l0 kq l0 x3_1 x4_1 = some r) ∧ Aside0 (kq ≤ k) ∧ Aside0 (Kd.R k29 29 w' w.heap.size (fun _ => True) v708 x3_1) ∧ Aside0 (Below w.heap.size w w'))
      case atStart => exact ⟨(y707), (0), (by first | rfl | (simp; done) | (simp [*]; done)), H', ⟨Nat.le_refl _⟩, ⟨by (with_reducible repeat apply ru); exact HO709.out⟩, ⟨by repeat (first | (with_reducible first | exact HB.out | apply below_alloc | apply pw_below_drewN | apply below_drew1) | exact HB.out)⟩⟩
      case round =>
        clear H'
        try clear c2
        try clear c2b0
        try clear c2b1
        try clear p2
        try clear c3
        try clear c3b0
        try clear c3b1
        obtain ⟨x3_1, x4_1, rfl, HA, HK1, HO_3, HB⟩ := hrel
        cases gk with
        | zero => exact absurd HA.out (by simp [laws_toEndPointS.l0])
        | succ k1 =>
          have H := HA.out
          clear HA
          simp only [laws_toEndPointS.l0] at H
          by_cases c6 : x4_1 < (l0.length : Int)
          · rw [if_pos c6] at H
            have c6b0 : decide (x4_1 < (l0.length : Int)) = true := decide_eq_true c6
            clear c6
            by_cases c7 : 0 ≤ x4_1
            · rw [if_pos c7] at H
              have c7b0 : decide (0 ≤ x4_1) = true := decide_eq_true c7
              clear c7
              replace H := Option.bind_eq_some_iff.mp H
              obtain ⟨⟨t711, t712⟩, A80, H⟩ := H
              replace H : (if x4_1 < (x3_1.length : Int) then (laws_toEndPointS.l0 k1 l0 (x3_1.set (x4_1 : Int).toNat (⟨t711, t712⟩ : S29)) (wrap64 (x4_1 + 1))) else (none)) = some r := H
              have A8 := Aside0.mk A80
              clear A80
              by_cases c9 : x4_1 < (x3_1.length : Int)
              · rw [if_pos c9] at H
                have c9b0 : decide (x4_1 < (x3_1.length : Int)) = true := decide_eq_true c9
                clear c9
                obtain ⟨y713, hy713⟩ : ∃ y_ : List (S29), y_ = (x3_1.set (x4_1 : Int).toNat (⟨t711, t712⟩ : S29)) := ⟨_, rfl⟩
                replace H : (laws_toEndPointS.l0 k1 l0 y713 (wrap64 (x4_1 + 1))) = some r := by first | (rw [hy713]; with_reducible exact H) | (have H2_ := (Option.bind_some _ _).symm.trans H; rw [hy713]; with_reducible exact H2_) | (have H2_ := (Option.bind_some _ _).symm.trans H; with_reducible exact H2_) | with_reducible exact H | (rw [hy713]; exact H) | exact H
                have Ny713 := Aside0.mk hy713
                clear hy713
                have H' := Aside0.mk H
                clear H
                have p710 : 0 ≤ (x4_1 : Int) := of_decide_eq_true (by first | (with_reducible assumption) | assumption)
                have q710 : x4_1 < (l0.length : Int) := of_decide_eq_true (by first | (with_reducible assumption) | assumption)
                obtain ⟨ad710, e710, hx710_0, hx710_1⟩ := at_T34 HR0.out x4_1 p710 q710
                cases e710
                replace hx710_0 := (HB.out.cell (World.block_lt_of_cell? w _ hx710_0)).trans hx710_0
                replace hx710_1 := (HB.out.cell (World.block_lt_of_cell? w _ hx710_1)).trans hx710_1
                replace p710 := eq_true p710
                replace q710 := eq_true q710
                go_wp2_with (first | ((with_reducible refine gate_callee (f := 19) rfl ?_); refine goesL_ (some 20) rfl rfl Try.func19 (by kernel_rfl) rfl #[.agg #[.int .i64 ((rd_T34 l0 x4_1).f0), .int .i64 ((rd_T34 l0 x4_1).f1)]] rfl (by (try simp only [List.map_toArray, List.map_cons, List.map_nil]); first | done | rfl | (simp only [List.length_drop, List.length_take]; rfl)) ?_; (with_reducible refine (laws_toEndPoint.calls ((rd_T34 l0 x4_1).f0) ((rd_T34 l0 x4_1).f1) t711 t712 _ A8.out).mono ?_); rintro e w11 ⟨rfl, hb⟩; refine ⟨_, rfl, ?_⟩; have n0_ := Aside0.mk (Kd.R_below (rs HO_3) hb); have n1_ := Aside0.mk (below_step (bl HB) hb); clear HO_3; clear HB; have HO_3 := n0_; have HB := n1_; clear n0_ n1_; (try clear hb); (try clear hb2); (try clear hk); (try clear hi); have p10 : 0 ≤ (x4_1 : Int) := of_decide_eq_true (by first | (with_reducible assumption) | assumption); have q10 : (x4_1 : Int) < ((x3_1.length : Int) : Int) := of_decide_eq_true (by first | (with_reducible assumption) | assumption); obtain ⟨go10, co10, eo10, gb10, gl10, cl10, HG10⟩ := Kd.R_form HO_3.out (by omega); (first | cases eo10 | (injection eo10 with ea_ en_ ec_; (first | subst ea_ | (injection ea_ with ea_; subst ea_)); subst ec_; clear en_)); have GB10 := Aside0.mk gb10; have GG10 := Aside0.mk HG10; clear gb10 gl10 HG10; obtain ⟨ce10, hcl10, hM10, hcc10, hfr10⟩ := Kd.R_elem HO_3.out z29 (x4_1 : Int) p10 q10; obtain rfl := k29_openM hM10; have hx10_0 : w11.cell? ⟨go10, (x4_1 : Int).toNat * 2, none⟩ = some (.int .i64 ((rd_T29 x3_1 x4_1).f0)) := hcc10 0 _ rfl; have hx10_1 : w11.cell? ⟨go10, (x4_1 : Int).toNat * 2 + 1, none⟩ = some (.int .i64 ((rd_T29 x3_1 x4_1).f1)) := hcc10 1 _ rfl; have hf10_0 : w11.frozen? ⟨go10, (x4_1 : Int).toNat * 2, none⟩ = false := hfr10 0; have hf10_1 : w11.frozen? ⟨go10, (x4_1 : Int).toNat * 2 + 1, none⟩ = false := hfr10 1; clear hcl10 hcc10 hfr10 hM10; replace p10 := eq_true p10; replace q10 := eq_true q10; have HX12 := Aside0.mk (show Kd.R k29 29 w11 w.heap.size (fun _ => True) (.slice (some ⟨go10, 0, none⟩) x3_1.length co10) x3_1 from (rs HO_3)); obtain ⟨ce12, hcl12, hM12, hcc12, hfr12⟩ := Kd.R_elem HX12.out z29 (x4_1 : Int) (of_decide_eq_true (by first | (with_reducible assumption) | assumption)) (by have h_ : (x4_1 : Int) < ((x3_1.length : Int) : Int) := of_decide_eq_true (by first | (with_reducible assumption) | assumption); first | exact h_ | (have e_ := (Kd.R_reads' HO_3.out).1; omega) | simpa using h_); obtain rfl := k29_openM hM12; have HP12 := Kd.R_seg HX12.out (x4_1 : Int) (of_decide_eq_true (by first | (with_reducible assumption) | assumption)) (by have h_ : (x4_1 : Int) < ((x3_1.length : Int) : Int) := of_decide_eq_true (by first | (with_reducible assumption) | assumption); first | exact h_ | (have e_ := (Kd.R_reads' HO_3.out).1; omega) | simpa using h_) (seg := [.int .i64 t711, .int .i64 t712]) (j := 0) hcl12 hcc12 (show 2 ≤ 2 from by decide) (x' := (⟨t711, t712⟩ : S29)) (k29_mkM _ _ _ (⟨t711, t712⟩ : S29) ) (fun _ hk => hk); have hx12_0 := hcc12 0 _ rfl; (try simp only [show (k29).sz = 2 from rfl, Nat.mul_one, Nat.add_zero] at hx12_0); have hf12_0 := hfr12 0; (try simp only [show (k29).sz = 2 from rfl, Nat.mul_one, Nat.add_zero] at hf12_0); have hx12_1 := hcc12 1 _ rfl; (try simp only [show (k29).sz = 2 from rfl, Nat.mul_one, Nat.add_zero] at hx12_1); have hf12_1 := hfr12 1; (try simp only [show (k29).sz = 2 from rfl, Nat.mul_one, Nat.add_zero] at hf12_1); clear hcl12 hcc12 hfr12 hM12) | ((with_reducible refine gate_store (t := 29) (p := 21) rfl ?_); refine store_event (t := 29) (p := 21) (v := ?vo_w13) (w1 := ((w11.setCell ⟨go10, (x4_1 : Int).toNat * 2, none⟩ (.int .i64 t711)).setCell ⟨go10, (x4_1 : Int).toNat * 2 + 1, none⟩ (.int .i64 t712))) ?hg ?ho ?hn ?hr ?_; (case ho => rfl); (case hg => rfl); (case hn => rfl); (case hr => first | (go_simp; done) | (go_simp; rfl)); intro w13 hw; have hg : w11.grownBy w13 (some go10) := (by rw [hw]; exact HP12.2); have hp_ : Kd.R k29 29 w13 w.heap.size (fun _ => True) (.slice (some ⟨go10, 0, none⟩) x3_1.length co10) y713 := (by rw [hw, Ny713.out]; exact HP12.1); clear HP12; have n0_ := Aside0.mk (hp_); have n1_ := Aside0.mk ((by rw [hw]; exact below_set (below_set (HB.out) GB10.out) GB10.out : Below w.heap.size w w13)); clear HO_3; clear HB; have HO_3 := n0_; have HB := n1_; clear n0_ n1_; clear hg hw hp_))
                go_roundg k1
                case measure => have := HK1.out; omega
                case rel => exact ⟨(y713), (wrap64 (x4_1 + 1)), (by first | rfl | (simp; done) | (simp [*]; done)), H', ⟨by have := HK1.out; omega⟩, ⟨by (with_reducible repeat apply ru); exact HO_3.out⟩, ⟨by repeat (first | (with_reducible first | exact HB.out | apply below_alloc | apply pw_below_drewN | apply below_drew1) | exact HB.out)⟩⟩
              · rw [if_neg c9] at H
                exact absurd H (by simp)
            · rw [if_neg c7] at H
              exact absurd H (by simp)
          · rw [if_neg c6] at H
            have c6b0 : decide (x4_1 < (l0.length : Int)) = false := decide_eq_false c6
            clear c6
            obtain rfl := Option.some.inj H
            go_wp2
            go_ret
            exact ⟨_, by first | rfl | (simp [errW_none, errW_some] <;> rfl) | (simp [*, errW_none, errW_some] <;> rfl), by (with_reducible repeat apply ru); exact HO_3.out, by repeat (first | (with_reducible first | exact HB.out | apply below_alloc | apply pw_below_drewN | apply below_drew1) | exact HB.out)⟩
    · rw [if_neg c3] at H
      exact absurd H (by simp)
  · rw [if_neg c2] at H
    exact absurd H (by simp)

end Go.Proofs.Ytiocgkggegahhaa.P

-- written by hw.py for this claim
namespace Go.Proofs.Ytiocgkggegahhaa.P
open Go.RowKit Go.Proofs.YtiocgkggegahhaaUFnExactMapPut.PrintWords Go.Proofs.YtiocgkggegahhaaUFnExactMapPut.PrintLast Go.Proofs.YtiocgkggegahhaaUFnExactMapPut.PrintMore
attribute [local go_sem] max2_int min2_int max_two min_two max_three min_three max_four min_four
set_option linter.unusedVariables false
set_option linter.unusedSimpArgs false

/-! ### laws_toMapTab: function 30 -/
def laws_toMapTab.f (k : Nat) (l0_0 : List (S34)) : Option ((List (S29))) := (laws_toEndPointS.f k l0_0).bind fun t717 => (some t717)
theorem laws_toMapTab.mono : ∀ a0 k, LeO (laws_toMapTab.f k a0) (laws_toMapTab.f (k + 1) a0) := by
  intro a0 k
  unfold laws_toMapTab.f
  repeat' first
      | (with_reducible exact laws_toEndPointS.mono _ _)
      | (with_reducible exact LeO.refl _)
      | (with_reducible exact LeO.none _)
      | (with_reducible refine LeO.ite ?_ ?_)
      | (with_reducible refine LeO.bind ?_ (fun _ => ?_))
      | exact laws_toEndPointS.mono _ _
      | exact LeO.none _
      | refine LeO.ite ?_ ?_
      | refine LeO.bind ?_ (fun _ => ?_)
set_option maxHeartbeats 8000000 in
set_option maxRecDepth 100000 in
theorem laws_toMapTab.calls (k : Nat) (A0_0 : Option Addr) (c0_0 : Nat) (l0_0 : List (S34)) (r : List (S29)) (w : World) (hr0_0 : Kd.C k34 w A0_0 l0_0.length l0_0) (hc0_0 : l0_0.length ≤ c0_0) (h : laws_toMapTab.f k l0_0 = some r) :
    Calls Try.prog 30 #[.agg #[.slice A0_0 l0_0.length c0_0]] w fun e w' => ∃ v0_ : Value, e = .returned (.agg #[v0_]) ∧ Kd.R k29 29 w' w.heap.size (fun _ => True) v0_ r ∧ Below w.heap.size w w' := by
  have hu55 := Try.underlying55
  have hu45 := Try.underlying45
  have HR0_0 := Aside0.mk hr0_0
  have HC0_0 := Aside0.mk hc0_0
  clear hr0_0 hc0_0
  have HB := Aside0.mk (Below.refl w.heap.size w)
  have H : ((laws_toEndPointS.f k l0_0).bind fun t717 => (some t717)) = some r := h
  clear h
  replace H := Option.bind_eq_some_iff.mp H
  obtain ⟨t717, A20, H⟩ := H
  replace H : (some t717) = some r := H
  have A2 := Aside0.mk A20
  clear A20
  obtain rfl := Option.some.inj H
  go_enter Try.func30, Try.ntmps30
  go_wp2_with (first | ((with_reducible refine gate_dst (N := 1) rfl ?_); refine box_event ?hg (N := 1) ?hd (cs := #[.slice A0_0 l0_0.length c0_0]) (t := 55) ?hr ?_; (case hd => rfl); (case hg => rfl); (case hr => first | (go_simp; done) | (go_simp; rfl)); intro gb714 hg w3 hbox hb; have n0_ := Aside0.mk (below_step (bl HB) hb); have n1_ := Aside0.mk (hbox); have n2_ := Aside0.mk ((by rw [hg]; exact (below_size (bl HB)) : w.heap.size ≤ gb714)); have n3_ := Aside0.mk ((by rw [hg]; exact (below_size (bl HB)) : w.heap.size ≤ gb714)); clear HB; have HB := n0_; have BK714 := n1_; have GW714 := n2_; have GE714 := n3_; clear n0_ n1_ n2_ n3_; clear hb hbox hg) | ((with_reducible refine gate_dst (N := 2) rfl ?_); refine box_event ?hg (N := 2) ?hd (cs := #[.slice none 0 0]) (t := 45) ?hr ?_; (case hd => rfl); (case hg => rfl); (case hr => first | (go_simp; done) | (go_simp; rfl)); intro gb715 hg w4 hbox hb; have n0_ := bkB BK714 hb; have n1_ := Aside0.mk (below_step (bl HB) hb); have n2_ := Aside0.mk (hbox); have n3_ := Aside0.mk ((by rw [hg]; exact (below_size (bl HB)) : w.heap.size ≤ gb715)); have n4_ := Aside0.mk ((by rw [hg]; exact (below_size (bl HB)) : w.heap.size ≤ gb715)); have n5_ := Aside0.mk ((by rw [hg]; exact Nat.ne_of_lt (bkL BK714) : gb714 ≠ gb715)); have n6_ := Aside0.mk ((by rw [hg]; exact Nat.ne_of_gt (bkL BK714) : gb715 ≠ gb714)); clear BK714; clear HB; have BK714 := n0_; have HB := n1_; have BK715 := n2_; have GW715 := n3_; have GE715 := n4_; have NB714_715 := n5_; have NB715_714 := n6_; clear n0_ n1_ n2_ n3_ n4_ n5_ n6_; clear hb hbox hg) | ((with_reducible refine gate_dst (N := 3) rfl ?_); refine box_event ?hg (N := 3) ?hd (cs := #[.slice none 0 0]) (t := 45) ?hr ?_; (case hd => rfl); (case hg => rfl); (case hr => first | (go_simp; done) | (go_simp; rfl)); intro gb716 hg w5 hbox hb; have n0_ := bkB BK714 hb; have n1_ := bkB BK715 hb; have n2_ := Aside0.mk (below_step (bl HB) hb); have n3_ := Aside0.mk (hbox); have n4_ := Aside0.mk ((by rw [hg]; exact (below_size (bl HB)) : w.heap.size ≤ gb716)); have n5_ := Aside0.mk ((by rw [hg]; exact (below_size (bl HB)) : w.heap.size ≤ gb716)); have n6_ := Aside0.mk ((by rw [hg]; exact Nat.ne_of_lt (bkL BK714) : gb714 ≠ gb716)); have n7_ := Aside0.mk ((by rw [hg]; exact Nat.ne_of_gt (bkL BK714) : gb716 ≠ gb714)); have n8_ := Aside0.mk ((by rw [hg]; exact Nat.ne_of_lt (bkL BK715) : gb715 ≠ gb716)); have n9_ := Aside0.mk ((by rw [hg]; exact Nat.ne_of_gt (bkL BK715) : gb716 ≠ gb715)); clear BK714; clear BK715; clear HB; have BK714 := n0_; have BK715 := n1_; have HB := n2_; have BK716 := n3_; have GW716 := n4_; have GE716 := n5_; have NB714_716 := n6_; have NB716_714 := n7_; have NB715_716 := n8_; have NB716_715 := n9_; clear n0_ n1_ n2_ n3_ n4_ n5_ n6_ n7_ n8_ n9_; clear hb hbox hg; have hnb6 := NB714_715.out; have hnc6 := NB715_714.out; have hnb7 := NB714_716.out; have hnc7 := NB716_714.out; have hcz8_0 : w5.cell? ⟨gb714, 0, none⟩ = some (.slice A0_0 l0_0.length c0_0) := (blk_cell BK714.out 0).trans rfl; have hfz8_0 := blk_frozen BK714.out 0) | ((with_reducible refine gate_callee (f := 71) rfl ?_); refine goesL_ (some 6) rfl rfl Try.func71 (by kernel_rfl) rfl #[.slice A0_0 l0_0.length c0_0] rfl (by (try simp only [List.map_toArray, List.map_cons, List.map_nil]); first | done | rfl | (simp only [List.length_drop, List.length_take]; rfl)) ?_; (with_reducible refine (laws_toEndPointS.calls k _ _ l0_0 t717 _ ?side1 ?side2 A2.out).mono ?_); (case side1 => repeat (first | exact (Kd.C_below HR0_0.out HB.out) | (with_reducible refine Kd.C_alloc ?_ _) | (with_reducible refine Kd.C_drewN ?_ _) | (with_reducible refine Kd.C_drew ?_))); (case side2 => exact HC0_0.out); rintro e w9 ⟨v718, rfl, ho0, hb⟩; refine ⟨_, rfl, ?_⟩; have n0_ := Aside0.mk (Kd.R_lower ho0 (below_size (bl HB))); have n1_ := bkB BK714 hb; have n2_ := bkB BK715 hb; have n3_ := bkB BK716 hb; have n4_ := Aside0.mk (below_step (bl HB) hb); clear BK714; clear BK715; clear BK716; clear HB; have HO719 := n0_; have BK714 := n1_; have BK715 := n2_; have BK716 := n3_; have HB := n4_; clear n0_ n1_ n2_ n3_ n4_; (try clear hb); (try clear hb2); (try clear hk); (try clear hi); (try clear ho0); obtain ⟨Ao10, co10, eo10⟩ := Kd.R_slice HO719.out; subst eo10; have hnb11 := NB716_715.out; have hnc11 := NB715_716.out; have hcz12_0 : w9.cell? ⟨gb716, 0, none⟩ = some (.slice none 0 0) := (blk_cell BK716.out 0).trans rfl; have hfz12_0 := blk_frozen BK716.out 0; have hcz13_0 : w9.cell? ⟨gb715, 0, none⟩ = some (.slice none 0 0) := (blk_cell BK715.out 0).trans rfl; have hfz13_0 := blk_frozen BK715.out 0))
  refine bodyPost_ret (results_cell_row rfl _ _ gb715 45 #[.slice Ao10 t717.length co10] (0, 0) _ rfl (by (with_reducible repeat refine bu ?_); refine blk_put (cs := #[.slice none 0 0]) ?_ 0 _ rfl; (with_reducible repeat refine bu ?_); refine blk_far ?_ NB715_716.out _; (with_reducible repeat refine bu ?_); exact BK715.out) Try.underlying45 rfl (by kernel_rfl)) rfl ?_
  exact ⟨_, by first | rfl | (simp [errW_none, errW_some] <;> rfl) | (simp [*, errW_none, errW_some] <;> rfl), by (with_reducible repeat apply ru); exact Kd.R_mono (Kd.R_far (p := ⟨gb715, 0, none⟩) (Kd.R_far (p := ⟨gb716, 0, none⟩) (Kd.R_types (Kd.R_types HO719.out BK716.out (by decide)) BK715.out (by decide)) (fun _ hk => hk.1.2) (.slice Ao10 t717.length co10)) (fun _ hk => hk.2) (.slice Ao10 t717.length co10)) (fun _ hk => trivial), by repeat (first | (with_reducible first | exact HB.out | apply below_alloc | apply pw_below_drewN | apply below_drew1 | refine below_set ?_ GE714.out | refine below_set ?_ GE715.out | refine below_set ?_ GE716.out) | exact HB.out)⟩

end Go.Proofs.Ytiocgkggegahhaa.P

-- written by hw.py for this claim
namespace Go.Proofs.Ytiocgkggegahhaa.P
open Go.RowKit Go.Proofs.YtiocgkggegahhaaUFnExactMapPut.PrintWords Go.Proofs.YtiocgkggegahhaaUFnExactMapPut.PrintLast Go.Proofs.YtiocgkggegahhaaUFnExactMapPut.PrintMore
attribute [local go_sem] max2_int min2_int max_two min_two max_three min_three max_four min_four
set_option linter.unusedVariables false
set_option linter.unusedSimpArgs false

/-! ### laws_eqEndPoint: function 96 -/
def laws_eqEndPoint.f (a0_0 : Int) (a0_1 : Int) (a1_0 : Int) (a1_1 : Int) : Option (Bool) := if a0_0 = a1_0 then (if a0_1 = a1_1 then (some true) else (some false)) else (some false)
set_option maxHeartbeats 8000000 in
set_option maxRecDepth 100000 in
theorem laws_eqEndPoint.calls (a0_0 : Int) (a0_1 : Int) (a1_0 : Int) (a1_1 : Int) (r : Bool) (w : World) (h : laws_eqEndPoint.f a0_0 a0_1 a1_0 a1_1 = some r) :
    Calls Try.prog 96 #[.agg #[.int .i64 a0_0, .int .i64 a0_1], .agg #[.int .i64 a1_0, .int .i64 a1_1]] w fun e w' => e = .returned (.bool r) ∧ Below w.heap.size w w' := by
  have hu29 := Try.underlying29
  have HB := Aside0.mk (Below.refl w.heap.size w)
  have H : (if a0_0 = a1_0 then (if a0_1 = a1_1 then (some true) else (some false)) else (some false)) = some r := h
  clear h
  by_cases c3 : a0_0 = a1_0
  · rw [if_pos c3] at H
    have c3b0 : (a0_0 == a1_0) = true := beq_iff_eq.mpr c3
    have c3b1 : (a0_0 != a1_0) = false := bne_eq_false_iff_eq.mpr c3
    clear c3
    by_cases c4 : a0_1 = a1_1
    · rw [if_pos c4] at H
      have c4b0 : (a0_1 == a1_1) = true := beq_iff_eq.mpr c4
      have c4b1 : (a0_1 != a1_1) = false := bne_eq_false_iff_eq.mpr c4
      clear c4
      obtain rfl := Option.some.inj H
      go_enter Try.func96, Try.ntmps96
      go_wp2_with (first | ((with_reducible refine gate_dst (N := 2) rfl ?_); refine box_event ?hg (N := 2) ?hd (cs := #[.int .i64 a0_0, .int .i64 a0_1]) (t := 29) ?hr ?_; (case hd => rfl); (case hg => rfl); (case hr => first | (go_simp; done) | (go_simp; rfl)); intro gb720 hg w5 hbox hb; have n0_ := Aside0.mk (below_step (bl HB) hb); have n1_ := Aside0.mk (hbox); have n2_ := Aside0.mk ((by rw [hg]; exact (below_size (bl HB)) : w.heap.size ≤ gb720)); have n3_ := Aside0.mk ((by rw [hg]; exact (below_size (bl HB)) : w.heap.size ≤ gb720)); clear HB; have HB := n0_; have BK720 := n1_; have GW720 := n2_; have GE720 := n3_; clear n0_ n1_ n2_ n3_; clear hb hbox hg) | ((with_reducible refine gate_dst (N := 3) rfl ?_); refine box_event ?hg (N := 3) ?hd (cs := #[.int .i64 a1_0, .int .i64 a1_1]) (t := 29) ?hr ?_; (case hd => rfl); (case hg => rfl); (case hr => first | (go_simp; done) | (go_simp; rfl)); intro gb721 hg w6 hbox hb; have n0_ := bkB BK720 hb; have n1_ := Aside0.mk (below_step (bl HB) hb); have n2_ := Aside0.mk (hbox); have n3_ := Aside0.mk ((by rw [hg]; exact (below_size (bl HB)) : w.heap.size ≤ gb721)); have n4_ := Aside0.mk ((by rw [hg]; exact (below_size (bl HB)) : w.heap.size ≤ gb721)); have n5_ := Aside0.mk ((by rw [hg]; exact Nat.ne_of_lt (bkL BK720) : gb720 ≠ gb721)); have n6_ := Aside0.mk ((by rw [hg]; exact Nat.ne_of_gt (bkL BK720) : gb721 ≠ gb720)); clear BK720; clear HB; have BK720 := n0_; have HB := n1_; have BK721 := n2_; have GW721 := n3_; have GE721 := n4_; have NB720_721 := n5_; have NB721_720 := n6_; clear n0_ n1_ n2_ n3_ n4_ n5_ n6_; clear hb hbox hg; have hnb7 := NB720_721.out; have hnc7 := NB721_720.out; have hcz8_0 : w6.cell? ⟨gb720, 0, none⟩ = some (.int .i64 a0_0) := (blk_cell BK720.out 0).trans rfl; have hcz8_1 : w6.cell? ⟨gb720, 1, none⟩ = some (.int .i64 a0_1) := (blk_cell BK720.out 1).trans rfl; have hfz8_0 := blk_frozen BK720.out 0; have hfz8_1 := blk_frozen BK720.out 1; have hcz9_0 : w6.cell? ⟨gb721, 0, none⟩ = some (.int .i64 a1_0) := (blk_cell BK721.out 0).trans rfl; have hcz9_1 : w6.cell? ⟨gb721, 1, none⟩ = some (.int .i64 a1_1) := (blk_cell BK721.out 1).trans rfl; have hfz9_0 := blk_frozen BK721.out 0; have hfz9_1 := blk_frozen BK721.out 1))
      go_ret
      exact ⟨by first | rfl | (simp [errW_none, errW_some] <;> rfl) | (simp [*, errW_none, errW_some] <;> rfl), by repeat (first | (with_reducible first | exact HB.out | apply below_alloc | apply pw_below_drewN | apply below_drew1 | refine below_set ?_ GE720.out | refine below_set ?_ GE721.out) | exact HB.out)⟩
    · rw [if_neg c4] at H
      have c4b0 : (a0_1 == a1_1) = false := beq_eq_false_iff_ne.mpr c4
      have c4b1 : (a0_1 != a1_1) = true := bne_iff_ne.mpr c4
      obtain rfl := Option.some.inj H
      go_enter Try.func96, Try.ntmps96
      go_wp2_with (first | ((with_reducible refine gate_dst (N := 2) rfl ?_); refine box_event ?hg (N := 2) ?hd (cs := #[.int .i64 a0_0, .int .i64 a0_1]) (t := 29) ?hr ?_; (case hd => rfl); (case hg => rfl); (case hr => first | (go_simp; done) | (go_simp; rfl)); intro gb720 hg w10 hbox hb; have n0_ := Aside0.mk (below_step (bl HB) hb); have n1_ := Aside0.mk (hbox); have n2_ := Aside0.mk ((by rw [hg]; exact (below_size (bl HB)) : w.heap.size ≤ gb720)); have n3_ := Aside0.mk ((by rw [hg]; exact (below_size (bl HB)) : w.heap.size ≤ gb720)); clear HB; have HB := n0_; have BK720 := n1_; have GW720 := n2_; have GE720 := n3_; clear n0_ n1_ n2_ n3_; clear hb hbox hg) | ((with_reducible refine gate_dst (N := 3) rfl ?_); refine box_event ?hg (N := 3) ?hd (cs := #[.int .i64 a1_0, .int .i64 a1_1]) (t := 29) ?hr ?_; (case hd => rfl); (case hg => rfl); (case hr => first | (go_simp; done) | (go_simp; rfl)); intro gb721 hg w11 hbox hb; have n0_ := bkB BK720 hb; have n1_ := Aside0.mk (below_step (bl HB) hb); have n2_ := Aside0.mk (hbox); have n3_ := Aside0.mk ((by rw [hg]; exact (below_size (bl HB)) : w.heap.size ≤ gb721)); have n4_ := Aside0.mk ((by rw [hg]; exact (below_size (bl HB)) : w.heap.size ≤ gb721)); have n5_ := Aside0.mk ((by rw [hg]; exact Nat.ne_of_lt (bkL BK720) : gb720 ≠ gb721)); have n6_ := Aside0.mk ((by rw [hg]; exact Nat.ne_of_gt (bkL BK720) : gb721 ≠ gb720)); clear BK720; clear HB; have BK720 := n0_; have HB := n1_; have BK721 := n2_; have GW721 := n3_; have GE721 := n4_; have NB720_721 := n5_; have NB721_720 := n6_; clear n0_ n1_ n2_ n3_ n4_ n5_ n6_; clear hb hbox hg; have hnb12 := NB720_721.out; have hnc12 := NB721_720.out; have hcz13_0 : w11.cell? ⟨gb720, 0, none⟩ = some (.int .i64 a0_0) := (blk_cell BK720.out 0).trans rfl; have hcz13_1 : w11.cell? ⟨gb720, 1, none⟩ = some (.int .i64 a0_1) := (blk_cell BK720.out 1).trans rfl; have hfz13_0 := blk_frozen BK720.out 0; have hfz13_1 := blk_frozen BK720.out 1; have hcz14_0 : w11.cell? ⟨gb721, 0, none⟩ = some (.int .i64 a1_0) := (blk_cell BK721.out 0).trans rfl; have hcz14_1 : w11.cell? ⟨gb721, 1, none⟩ = some (.int .i64 a1_1) := (blk_cell BK721.out 1).trans rfl; have hfz14_0 := blk_frozen BK721.out 0; have hfz14_1 := blk_frozen BK721.out 1))
      go_ret
      exact ⟨by first | rfl | (simp [errW_none, errW_some] <;> rfl) | (simp [*, errW_none, errW_some] <;> rfl), by repeat (first | (with_reducible first | exact HB.out | apply below_alloc | apply pw_below_drewN | apply below_drew1 | refine below_set ?_ GE720.out | refine below_set ?_ GE721.out) | exact HB.out)⟩
  · rw [if_neg c3] at H
    have c3b0 : (a0_0 == a1_0) = false := beq_eq_false_iff_ne.mpr c3
    have c3b1 : (a0_0 != a1_0) = true := bne_iff_ne.mpr c3
    obtain rfl := Option.some.inj H
    go_enter Try.func96, Try.ntmps96
    go_wp2_with (first | ((with_reducible refine gate_dst (N := 2) rfl ?_); refine box_event ?hg (N := 2) ?hd (cs := #[.int .i64 a0_0, .int .i64 a0_1]) (t := 29) ?hr ?_; (case hd => rfl); (case hg => rfl); (case hr => first | (go_simp; done) | (go_simp; rfl)); intro gb720 hg w15 hbox hb; have n0_ := Aside0.mk (below_step (bl HB) hb); have n1_ := Aside0.mk (hbox); have n2_ := Aside0.mk ((by rw [hg]; exact (below_size (bl HB)) : w.heap.size ≤ gb720)); have n3_ := Aside0.mk ((by rw [hg]; exact (below_size (bl HB)) : w.heap.size ≤ gb720)); clear HB; have HB := n0_; have BK720 := n1_; have GW720 := n2_; have GE720 := n3_; clear n0_ n1_ n2_ n3_; clear hb hbox hg) | ((with_reducible refine gate_dst (N := 3) rfl ?_); refine box_event ?hg (N := 3) ?hd (cs := #[.int .i64 a1_0, .int .i64 a1_1]) (t := 29) ?hr ?_; (case hd => rfl); (case hg => rfl); (case hr => first | (go_simp; done) | (go_simp; rfl)); intro gb721 hg w16 hbox hb; have n0_ := bkB BK720 hb; have n1_ := Aside0.mk (below_step (bl HB) hb); have n2_ := Aside0.mk (hbox); have n3_ := Aside0.mk ((by rw [hg]; exact (below_size (bl HB)) : w.heap.size ≤ gb721)); have n4_ := Aside0.mk ((by rw [hg]; exact (below_size (bl HB)) : w.heap.size ≤ gb721)); have n5_ := Aside0.mk ((by rw [hg]; exact Nat.ne_of_lt (bkL BK720) : gb720 ≠ gb721)); have n6_ := Aside0.mk ((by rw [hg]; exact Nat.ne_of_gt (bkL BK720) : gb721 ≠ gb720)); clear BK720; clear HB; have BK720 := n0_; have HB := n1_; have BK721 := n2_; have GW721 := n3_; have GE721 := n4_; have NB720_721 := n5_; have NB721_720 := n6_; clear n0_ n1_ n2_ n3_ n4_ n5_ n6_; clear hb hbox hg; have hnb17 := NB720_721.out; have hnc17 := NB721_720.out; have hcz18_0 : w16.cell? ⟨gb720, 0, none⟩ = some (.int .i64 a0_0) := (blk_cell BK720.out 0).trans rfl; have hcz18_1 : w16.cell? ⟨gb720, 1, none⟩ = some (.int .i64 a0_1) := (blk_cell BK720.out 1).trans rfl; have hfz18_0 := blk_frozen BK720.out 0; have hfz18_1 := blk_frozen BK720.out 1; have hcz19_0 : w16.cell? ⟨gb721, 0, none⟩ = some (.int .i64 a1_0) := (blk_cell BK721.out 0).trans rfl; have hcz19_1 : w16.cell? ⟨gb721, 1, none⟩ = some (.int .i64 a1_1) := (blk_cell BK721.out 1).trans rfl; have hfz19_0 := blk_frozen BK721.out 0; have hfz19_1 := blk_frozen BK721.out 1))
    go_ret
    exact ⟨by first | rfl | (simp [errW_none, errW_some] <;> rfl) | (simp [*, errW_none, errW_some] <;> rfl), by repeat (first | (with_reducible first | exact HB.out | apply below_alloc | apply pw_below_drewN | apply below_drew1 | refine below_set ?_ GE720.out | refine below_set ?_ GE721.out) | exact HB.out)⟩

end Go.Proofs.Ytiocgkggegahhaa.P
