import Derived.Test.YtiocgkggegahhaaDoorGLawFnExactRulReadx1
-- written by hw.py for this claim
namespace Go.Proofs.YtiocgkggegahhaaDoor.P
open Go.RowKit Go.Proofs.YtiocgkggegahhaaDoorUFnExactRulRead.PrintWords Go.Proofs.YtiocgkggegahhaaDoorUFnExactRulRead.PrintLast Go.Proofs.YtiocgkggegahhaaDoorUFnExactRulRead.PrintMore
attribute [local go_sem] max2_int min2_int max_two min_two max_three min_three max_four min_four
set_option linter.unusedVariables false
set_option linter.unusedSimpArgs false

/-! ### impl_RulOk: function 14 -/
def impl_RulOk.f (a0_0 : Bool) (a0_1 : Int) (a0_2 : Int) (a0_3 : Int) (a0_4 : Int) (a0_5 : Int) (a0_6 : Int) : Option (Bool) := (impl_inside.f a0_1).bind fun t125 => (if t125 = true then ((impl_inside.f a0_2).bind fun t126 => (if t126 = true then (if a0_1 ≤ a0_2 then ((impl_outside.f a0_3).bind fun t127 => (if t127 = true then ((impl_outside.f a0_4).bind fun t128 => (if t128 = true then (if a0_3 ≤ a0_4 then ((impl_portOk.f a0_5).bind fun t129 => (if t129 = true then ((impl_portOk.f a0_6).bind fun t130 => (if t130 = true then (some (decide (a0_5 ≤ a0_6))) else (some false))) else (some false))) else (some false)) else (some false))) else (some false))) else (some false)) else (some false))) else (some false))
set_option maxHeartbeats 8000000 in
set_option maxRecDepth 100000 in
theorem impl_RulOk.calls (a0_0 : Bool) (a0_1 : Int) (a0_2 : Int) (a0_3 : Int) (a0_4 : Int) (a0_5 : Int) (a0_6 : Int) (r : Bool) (w : World) (h : impl_RulOk.f a0_0 a0_1 a0_2 a0_3 a0_4 a0_5 a0_6 = some r) :
    Calls Tryd.prog 14 #[.agg #[.bool a0_0, .int .i64 a0_1, .int .i64 a0_2, .int .i64 a0_3, .int .i64 a0_4, .int .i64 a0_5, .int .i64 a0_6]] w fun e w' => e = .returned (.bool r) ∧ Below w.heap.size w w' := by
  have hu25 := Tryd.underlying25
  have HB := Aside0.mk (Below.refl w.heap.size w)
  have H : ((impl_inside.f a0_1).bind fun t125 => (if t125 = true then ((impl_inside.f a0_2).bind fun t126 => (if t126 = true then (if a0_1 ≤ a0_2 then ((impl_outside.f a0_3).bind fun t127 => (if t127 = true then ((impl_outside.f a0_4).bind fun t128 => (if t128 = true then (if a0_3 ≤ a0_4 then ((impl_portOk.f a0_5).bind fun t129 => (if t129 = true then ((impl_portOk.f a0_6).bind fun t130 => (if t130 = true then (some (decide (a0_5 ≤ a0_6))) else (some false))) else (some false))) else (some false)) else (some false))) else (some false))) else (some false)) else (some false))) else (some false))) = some r := h
  clear h
  replace H := Option.bind_eq_some_iff.mp H
  obtain ⟨t125, A20, H⟩ := H
  replace H : (if t125 = true then ((impl_inside.f a0_2).bind fun t126 => (if t126 = true then (if a0_1 ≤ a0_2 then ((impl_outside.f a0_3).bind fun t127 => (if t127 = true then ((impl_outside.f a0_4).bind fun t128 => (if t128 = true then (if a0_3 ≤ a0_4 then ((impl_portOk.f a0_5).bind fun t129 => (if t129 = true then ((impl_portOk.f a0_6).bind fun t130 => (if t130 = true then (some (decide (a0_5 ≤ a0_6))) else (some false))) else (some false))) else (some false)) else (some false))) else (some false))) else (some false)) else (some false))) else (some false)) = some r := H
  have A2 := Aside0.mk A20
  clear A20
  by_cases c3 : t125 = true
  · subst c3
    have H1 : ((impl_inside.f a0_2).bind fun t126 => (if t126 = true then (if a0_1 ≤ a0_2 then ((impl_outside.f a0_3).bind fun t127 => (if t127 = true then ((impl_outside.f a0_4).bind fun t128 => (if t128 = true then (if a0_3 ≤ a0_4 then ((impl_portOk.f a0_5).bind fun t129 => (if t129 = true then ((impl_portOk.f a0_6).bind fun t130 => (if t130 = true then (some (decide (a0_5 ≤ a0_6))) else (some false))) else (some false))) else (some false)) else (some false))) else (some false))) else (some false)) else (some false))) = some r := by rw [if_pos rfl] at H; exact H
    clear H
    have H := H1
    clear H1
    replace H := Option.bind_eq_some_iff.mp H
    obtain ⟨t126, A40, H⟩ := H
    replace H : (if t126 = true then (if a0_1 ≤ a0_2 then ((impl_outside.f a0_3).bind fun t127 => (if t127 = true then ((impl_outside.f a0_4).bind fun t128 => (if t128 = true then (if a0_3 ≤ a0_4 then ((impl_portOk.f a0_5).bind fun t129 => (if t129 = true then ((impl_portOk.f a0_6).bind fun t130 => (if t130 = true then (some (decide (a0_5 ≤ a0_6))) else (some false))) else (some false))) else (some false)) else (some false))) else (some false))) else (some false)) else (some false)) = some r := H
    have A4 := Aside0.mk A40
    clear A40
    by_cases c5 : t126 = true
    · subst c5
      have H1 : (if a0_1 ≤ a0_2 then ((impl_outside.f a0_3).bind fun t127 => (if t127 = true then ((impl_outside.f a0_4).bind fun t128 => (if t128 = true then (if a0_3 ≤ a0_4 then ((impl_portOk.f a0_5).bind fun t129 => (if t129 = true then ((impl_portOk.f a0_6).bind fun t130 => (if t130 = true then (some (decide (a0_5 ≤ a0_6))) else (some false))) else (some false))) else (some false)) else (some false))) else (some false))) else (some false)) = some r := by rw [if_pos rfl] at H; exact H
      clear H
      have H := H1
      clear H1
      by_cases c6 : a0_1 ≤ a0_2
      · rw [if_pos c6] at H
        have c6b0 : decide (a0_1 ≤ a0_2) = true := decide_eq_true c6
        clear c6
        replace H := Option.bind_eq_some_iff.mp H
        obtain ⟨t127, A70, H⟩ := H
        replace H : (if t127 = true then ((impl_outside.f a0_4).bind fun t128 => (if t128 = true then (if a0_3 ≤ a0_4 then ((impl_portOk.f a0_5).bind fun t129 => (if t129 = true then ((impl_portOk.f a0_6).bind fun t130 => (if t130 = true then (some (decide (a0_5 ≤ a0_6))) else (some false))) else (some false))) else (some false)) else (some false))) else (some false)) = some r := H
        have A7 := Aside0.mk A70
        clear A70
        by_cases c8 : t127 = true
        · subst c8
          have H1 : ((impl_outside.f a0_4).bind fun t128 => (if t128 = true then (if a0_3 ≤ a0_4 then ((impl_portOk.f a0_5).bind fun t129 => (if t129 = true then ((impl_portOk.f a0_6).bind fun t130 => (if t130 = true then (some (decide (a0_5 ≤ a0_6))) else (some false))) else (some false))) else (some false)) else (some false))) = some r := by rw [if_pos rfl] at H; exact H
          clear H
          have H := H1
          clear H1
          replace H := Option.bind_eq_some_iff.mp H
          obtain ⟨t128, A90, H⟩ := H
          replace H : (if t128 = true then (if a0_3 ≤ a0_4 then ((impl_portOk.f a0_5).bind fun t129 => (if t129 = true then ((impl_portOk.f a0_6).bind fun t130 => (if t130 = true then (some (decide (a0_5 ≤ a0_6))) else (some false))) else (some false))) else (some false)) else (some false)) = some r := H
          have A9 := Aside0.mk A90
          clear A90
          by_cases c10 : t128 = true
          · subst c10
            have H1 : (if a0_3 ≤ a0_4 then ((impl_portOk.f a0_5).bind fun t129 => (if t129 = true then ((impl_portOk.f a0_6).bind fun t130 => (if t130 = true then (some (decide (a0_5 ≤ a0_6))) else (some false))) else (some false))) else (some false)) = some r := by rw [if_pos rfl] at H; exact H
            clear H
            have H := H1
            clear H1
            by_cases c11 : a0_3 ≤ a0_4
            · rw [if_pos c11] at H
              have c11b0 : decide (a0_3 ≤ a0_4) = true := decide_eq_true c11
              clear c11
              replace H := Option.bind_eq_some_iff.mp H
              obtain ⟨t129, A120, H⟩ := H
              replace H : (if t129 = true then ((impl_portOk.f a0_6).bind fun t130 => (if t130 = true then (some (decide (a0_5 ≤ a0_6))) else (some false))) else (some false)) = some r := H
              have A12 := Aside0.mk A120
              clear A120
              by_cases c13 : t129 = true
              · subst c13
                have H1 : ((impl_portOk.f a0_6).bind fun t130 => (if t130 = true then (some (decide (a0_5 ≤ a0_6))) else (some false))) = some r := by rw [if_pos rfl] at H; exact H
                clear H
                have H := H1
                clear H1
                replace H := Option.bind_eq_some_iff.mp H
                obtain ⟨t130, A140, H⟩ := H
                replace H : (if t130 = true then (some (decide (a0_5 ≤ a0_6))) else (some false)) = some r := H
                have A14 := Aside0.mk A140
                clear A140
                by_cases c15 : t130 = true
                · subst c15
                  have H1 : (some (decide (a0_5 ≤ a0_6))) = some r := by rw [if_pos rfl] at H; exact H
                  clear H
                  have H := H1
                  clear H1
                  obtain rfl := Option.some.inj H
                  go_enter Tryd.func14, Tryd.ntmps14
                  go_wp2_with (first | ((with_reducible refine gate_dst (N := 1) rfl ?_); refine box_event ?hg (N := 1) ?hd (cs := #[.bool a0_0, .int .i64 a0_1, .int .i64 a0_2, .int .i64 a0_3, .int .i64 a0_4, .int .i64 a0_5, .int .i64 a0_6]) (t := 25) ?hr ?_; (case hd => rfl); (case hg => rfl); (case hr => first | (go_simp; done) | (go_simp; rfl)); intro gb124 hg w16 hbox hb; have n0_ := Aside0.mk (below_step (bl HB) hb); have n1_ := Aside0.mk (hbox); have n2_ := Aside0.mk ((by rw [hg]; exact (below_size (bl HB)) : w.heap.size ≤ gb124)); have n3_ := Aside0.mk ((by rw [hg]; exact (below_size (bl HB)) : w.heap.size ≤ gb124)); clear HB; have HB := n0_; have BK124 := n1_; have GW124 := n2_; have GE124 := n3_; clear n0_ n1_ n2_ n3_; clear hb hbox hg; have hcz17_0 : w16.cell? ⟨gb124, 0, none⟩ = some (.bool a0_0) := (blk_cell BK124.out 0).trans rfl; have hcz17_1 : w16.cell? ⟨gb124, 1, none⟩ = some (.int .i64 a0_1) := (blk_cell BK124.out 1).trans rfl; have hcz17_2 : w16.cell? ⟨gb124, 2, none⟩ = some (.int .i64 a0_2) := (blk_cell BK124.out 2).trans rfl; have hcz17_3 : w16.cell? ⟨gb124, 3, none⟩ = some (.int .i64 a0_3) := (blk_cell BK124.out 3).trans rfl; have hcz17_4 : w16.cell? ⟨gb124, 4, none⟩ = some (.int .i64 a0_4) := (blk_cell BK124.out 4).trans rfl; have hcz17_5 : w16.cell? ⟨gb124, 5, none⟩ = some (.int .i64 a0_5) := (blk_cell BK124.out 5).trans rfl; have hcz17_6 : w16.cell? ⟨gb124, 6, none⟩ = some (.int .i64 a0_6) := (blk_cell BK124.out 6).trans rfl; have hfz17_0 := blk_frozen BK124.out 0; have hfz17_1 := blk_frozen BK124.out 1; have hfz17_2 := blk_frozen BK124.out 2; have hfz17_3 := blk_frozen BK124.out 3; have hfz17_4 := blk_frozen BK124.out 4; have hfz17_5 := blk_frozen BK124.out 5; have hfz17_6 := blk_frozen BK124.out 6) | ((with_reducible refine gate_callee (f := 28) rfl ?_); refine goesL_ (some 5) rfl rfl Tryd.func28 (by kernel_rfl) rfl #[.int .i64 a0_1] rfl (by (try simp only [List.map_toArray, List.map_cons, List.map_nil]); first | done | rfl | (simp only [List.length_drop, List.length_take]; rfl)) ?_; (with_reducible refine (impl_inside.calls a0_1 true _ A2.out).mono ?_); rintro e w' ⟨rfl, ⟨nd, rfl⟩⟩; refine ⟨_, rfl, ?_⟩) | (go_at_call 28; (with_reducible refine (impl_inside.calls a0_2 true _ A4.out).mono ?_); rintro e w' ⟨rfl, ⟨nd, rfl⟩⟩) | (go_at_call 29; (with_reducible refine (impl_outside.calls a0_3 true _ A7.out).mono ?_); rintro e w' ⟨rfl, ⟨nd, rfl⟩⟩) | (go_at_call 29; (with_reducible refine (impl_outside.calls a0_4 true _ A9.out).mono ?_); rintro e w' ⟨rfl, ⟨nd, rfl⟩⟩) | (go_at_call 30; (with_reducible refine (impl_portOk.calls a0_5 true _ A12.out).mono ?_); rintro e w' ⟨rfl, ⟨nd, rfl⟩⟩) | (go_at_call 30; (with_reducible refine (impl_portOk.calls a0_6 true _ A14.out).mono ?_); rintro e w' ⟨rfl, ⟨nd, rfl⟩⟩))
                  go_ret
                  exact ⟨by first | rfl | (simp [errW_none, errW_some] <;> rfl) | (simp [*, errW_none, errW_some] <;> rfl), by repeat (first | (with_reducible first | exact HB.out | apply below_alloc | apply pw_below_drewN | apply below_drew1 | refine below_set ?_ GE124.out) | exact HB.out)⟩
                · replace c15 := Bool.eq_false_iff.mpr c15
                  subst c15
                  have H1 : (some false) = some r := by rw [if_neg (show ¬ (false = true) by decide)] at H; exact H
                  clear H
                  have H := H1
                  clear H1
                  obtain rfl := Option.some.inj H
                  go_enter Tryd.func14, Tryd.ntmps14
                  go_wp2_with (first | ((with_reducible refine gate_dst (N := 1) rfl ?_); refine box_event ?hg (N := 1) ?hd (cs := #[.bool a0_0, .int .i64 a0_1, .int .i64 a0_2, .int .i64 a0_3, .int .i64 a0_4, .int .i64 a0_5, .int .i64 a0_6]) (t := 25) ?hr ?_; (case hd => rfl); (case hg => rfl); (case hr => first | (go_simp; done) | (go_simp; rfl)); intro gb124 hg w18 hbox hb; have n0_ := Aside0.mk (below_step (bl HB) hb); have n1_ := Aside0.mk (hbox); have n2_ := Aside0.mk ((by rw [hg]; exact (below_size (bl HB)) : w.heap.size ≤ gb124)); have n3_ := Aside0.mk ((by rw [hg]; exact (below_size (bl HB)) : w.heap.size ≤ gb124)); clear HB; have HB := n0_; have BK124 := n1_; have GW124 := n2_; have GE124 := n3_; clear n0_ n1_ n2_ n3_; clear hb hbox hg; have hcz19_0 : w18.cell? ⟨gb124, 0, none⟩ = some (.bool a0_0) := (blk_cell BK124.out 0).trans rfl; have hcz19_1 : w18.cell? ⟨gb124, 1, none⟩ = some (.int .i64 a0_1) := (blk_cell BK124.out 1).trans rfl; have hcz19_2 : w18.cell? ⟨gb124, 2, none⟩ = some (.int .i64 a0_2) := (blk_cell BK124.out 2).trans rfl; have hcz19_3 : w18.cell? ⟨gb124, 3, none⟩ = some (.int .i64 a0_3) := (blk_cell BK124.out 3).trans rfl; have hcz19_4 : w18.cell? ⟨gb124, 4, none⟩ = some (.int .i64 a0_4) := (blk_cell BK124.out 4).trans rfl; have hcz19_5 : w18.cell? ⟨gb124, 5, none⟩ = some (.int .i64 a0_5) := (blk_cell BK124.out 5).trans rfl; have hcz19_6 : w18.cell? ⟨gb124, 6, none⟩ = some (.int .i64 a0_6) := (blk_cell BK124.out 6).trans rfl; have hfz19_0 := blk_frozen BK124.out 0; have hfz19_1 := blk_frozen BK124.out 1; have hfz19_2 := blk_frozen BK124.out 2; have hfz19_3 := blk_frozen BK124.out 3; have hfz19_4 := blk_frozen BK124.out 4; have hfz19_5 := blk_frozen BK124.out 5; have hfz19_6 := blk_frozen BK124.out 6) | ((with_reducible refine gate_callee (f := 28) rfl ?_); refine goesL_ (some 5) rfl rfl Tryd.func28 (by kernel_rfl) rfl #[.int .i64 a0_1] rfl (by (try simp only [List.map_toArray, List.map_cons, List.map_nil]); first | done | rfl | (simp only [List.length_drop, List.length_take]; rfl)) ?_; (with_reducible refine (impl_inside.calls a0_1 true _ A2.out).mono ?_); rintro e w' ⟨rfl, ⟨nd, rfl⟩⟩; refine ⟨_, rfl, ?_⟩) | (go_at_call 28; (with_reducible refine (impl_inside.calls a0_2 true _ A4.out).mono ?_); rintro e w' ⟨rfl, ⟨nd, rfl⟩⟩) | (go_at_call 29; (with_reducible refine (impl_outside.calls a0_3 true _ A7.out).mono ?_); rintro e w' ⟨rfl, ⟨nd, rfl⟩⟩) | (go_at_call 29; (with_reducible refine (impl_outside.calls a0_4 true _ A9.out).mono ?_); rintro e w' ⟨rfl, ⟨nd, rfl⟩⟩) | (go_at_call 30; (with_reducible refine (impl_portOk.calls a0_5 true _ A12.out).mono ?_); rintro e w' ⟨rfl, ⟨nd, rfl⟩⟩) | (go_at_call 30; (with_reducible refine (impl_portOk.calls a0_6 false _ A14.out).mono ?_); rintro e w' ⟨rfl, ⟨nd, rfl⟩⟩))
                  go_ret
                  exact ⟨by first | rfl | (simp [errW_none, errW_some] <;> rfl) | (simp [*, errW_none, errW_some] <;> rfl), by repeat (first | (with_reducible first | exact HB.out | apply below_alloc | apply pw_below_drewN | apply below_drew1 | refine below_set ?_ GE124.out) | exact HB.out)⟩
              · replace c13 := Bool.eq_false_iff.mpr c13
                subst c13
                have H1 : (some false) = some r := by rw [if_neg (show ¬ (false = true) by decide)] at H; exact H
                clear H
                have H := H1
                clear H1
                obtain rfl := Option.some.inj H
                go_enter Tryd.func14, Tryd.ntmps14
                go_wp2_with (first | ((with_reducible refine gate_dst (N := 1) rfl ?_); refine box_event ?hg (N := 1) ?hd (cs := #[.bool a0_0, .int .i64 a0_1, .int .i64 a0_2, .int .i64 a0_3, .int .i64 a0_4, .int .i64 a0_5, .int .i64 a0_6]) (t := 25) ?hr ?_; (case hd => rfl); (case hg => rfl); (case hr => first | (go_simp; done) | (go_simp; rfl)); intro gb124 hg w20 hbox hb; have n0_ := Aside0.mk (below_step (bl HB) hb); have n1_ := Aside0.mk (hbox); have n2_ := Aside0.mk ((by rw [hg]; exact (below_size (bl HB)) : w.heap.size ≤ gb124)); have n3_ := Aside0.mk ((by rw [hg]; exact (below_size (bl HB)) : w.heap.size ≤ gb124)); clear HB; have HB := n0_; have BK124 := n1_; have GW124 := n2_; have GE124 := n3_; clear n0_ n1_ n2_ n3_; clear hb hbox hg; have hcz21_0 : w20.cell? ⟨gb124, 0, none⟩ = some (.bool a0_0) := (blk_cell BK124.out 0).trans rfl; have hcz21_1 : w20.cell? ⟨gb124, 1, none⟩ = some (.int .i64 a0_1) := (blk_cell BK124.out 1).trans rfl; have hcz21_2 : w20.cell? ⟨gb124, 2, none⟩ = some (.int .i64 a0_2) := (blk_cell BK124.out 2).trans rfl; have hcz21_3 : w20.cell? ⟨gb124, 3, none⟩ = some (.int .i64 a0_3) := (blk_cell BK124.out 3).trans rfl; have hcz21_4 : w20.cell? ⟨gb124, 4, none⟩ = some (.int .i64 a0_4) := (blk_cell BK124.out 4).trans rfl; have hcz21_5 : w20.cell? ⟨gb124, 5, none⟩ = some (.int .i64 a0_5) := (blk_cell BK124.out 5).trans rfl; have hcz21_6 : w20.cell? ⟨gb124, 6, none⟩ = some (.int .i64 a0_6) := (blk_cell BK124.out 6).trans rfl; have hfz21_0 := blk_frozen BK124.out 0; have hfz21_1 := blk_frozen BK124.out 1; have hfz21_2 := blk_frozen BK124.out 2; have hfz21_3 := blk_frozen BK124.out 3; have hfz21_4 := blk_frozen BK124.out 4; have hfz21_5 := blk_frozen BK124.out 5; have hfz21_6 := blk_frozen BK124.out 6) | ((with_reducible refine gate_callee (f := 28) rfl ?_); refine goesL_ (some 5) rfl rfl Tryd.func28 (by kernel_rfl) rfl #[.int .i64 a0_1] rfl (by (try simp only [List.map_toArray, List.map_cons, List.map_nil]); first | done | rfl | (simp only [List.length_drop, List.length_take]; rfl)) ?_; (with_reducible refine (impl_inside.calls a0_1 true _ A2.out).mono ?_); rintro e w' ⟨rfl, ⟨nd, rfl⟩⟩; refine ⟨_, rfl, ?_⟩) | (go_at_call 28; (with_reducible refine (impl_inside.calls a0_2 true _ A4.out).mono ?_); rintro e w' ⟨rfl, ⟨nd, rfl⟩⟩) | (go_at_call 29; (with_reducible refine (impl_outside.calls a0_3 true _ A7.out).mono ?_); rintro e w' ⟨rfl, ⟨nd, rfl⟩⟩) | (go_at_call 29; (with_reducible refine (impl_outside.calls a0_4 true _ A9.out).mono ?_); rintro e w' ⟨rfl, ⟨nd, rfl⟩⟩) | (go_at_call 30; (with_reducible refine (impl_portOk.calls a0_5 false _ A12.out).mono ?_); rintro e w' ⟨rfl, ⟨nd, rfl⟩⟩))
                go_ret
                exact ⟨by first | rfl | (simp [errW_none, errW_some] <;> rfl) | (simp [*, errW_none, errW_some] <;> rfl), by repeat (first | (with_reducible first | exact HB.out | apply below_alloc | apply pw_below_drewN | apply below_drew1 | refine below_set ?_ GE124.out) | exact HB.out)⟩
            · rw [if_neg c11] at H
              have c11b0 : decide (a0_3 ≤ a0_4) = false := decide_eq_false c11
              clear c11
              obtain rfl := Option.some.inj H
              go_enter Tryd.func14, Tryd.ntmps14
              go_wp2_with (first | ((with_reducible refine gate_dst (N := 1) rfl ?_); refine box_event ?hg (N := 1) ?hd (cs := #[.bool a0_0, .int .i64 a0_1, .int .i64 a0_2, .int .i64 a0_3, .int .i64 a0_4, .int .i64 a0_5, .int .i64 a0_6]) (t := 25) ?hr ?_; (case hd => rfl); (case hg => rfl); (case hr => first | (go_simp; done) | (go_simp; rfl)); intro gb124 hg w22 hbox hb; have n0_ := Aside0.mk (below_step (bl HB) hb); have n1_ := Aside0.mk (hbox); have n2_ := Aside0.mk ((by rw [hg]; exact (below_size (bl HB)) : w.heap.size ≤ gb124)); have n3_ := Aside0.mk ((by rw [hg]; exact (below_size (bl HB)) : w.heap.size ≤ gb124)); clear HB; have HB := n0_; have BK124 := n1_; have GW124 := n2_; have GE124 := n3_; clear n0_ n1_ n2_ n3_; clear hb hbox hg; have hcz23_0 : w22.cell? ⟨gb124, 0, none⟩ = some (.bool a0_0) := (blk_cell BK124.out 0).trans rfl; have hcz23_1 : w22.cell? ⟨gb124, 1, none⟩ = some (.int .i64 a0_1) := (blk_cell BK124.out 1).trans rfl; have hcz23_2 : w22.cell? ⟨gb124, 2, none⟩ = some (.int .i64 a0_2) := (blk_cell BK124.out 2).trans rfl; have hcz23_3 : w22.cell? ⟨gb124, 3, none⟩ = some (.int .i64 a0_3) := (blk_cell BK124.out 3).trans rfl; have hcz23_4 : w22.cell? ⟨gb124, 4, none⟩ = some (.int .i64 a0_4) := (blk_cell BK124.out 4).trans rfl; have hcz23_5 : w22.cell? ⟨gb124, 5, none⟩ = some (.int .i64 a0_5) := (blk_cell BK124.out 5).trans rfl; have hcz23_6 : w22.cell? ⟨gb124, 6, none⟩ = some (.int .i64 a0_6) := (blk_cell BK124.out 6).trans rfl; have hfz23_0 := blk_frozen BK124.out 0; have hfz23_1 := blk_frozen BK124.out 1; have hfz23_2 := blk_frozen BK124.out 2; have hfz23_3 := blk_frozen BK124.out 3; have hfz23_4 := blk_frozen BK124.out 4; have hfz23_5 := blk_frozen BK124.out 5; have hfz23_6 := blk_frozen BK124.out 6) | ((with_reducible refine gate_callee (f := 28) rfl ?_); refine goesL_ (some 5) rfl rfl Tryd.func28 (by kernel_rfl) rfl #[.int .i64 a0_1] rfl (by (try simp only [List.map_toArray, List.map_cons, List.map_nil]); first | done | rfl | (simp only [List.length_drop, List.length_take]; rfl)) ?_; (with_reducible refine (impl_inside.calls a0_1 true _ A2.out).mono ?_); rintro e w' ⟨rfl, ⟨nd, rfl⟩⟩; refine ⟨_, rfl, ?_⟩) | (go_at_call 28; (with_reducible refine (impl_inside.calls a0_2 true _ A4.out).mono ?_); rintro e w' ⟨rfl, ⟨nd, rfl⟩⟩) | (go_at_call 29; (with_reducible refine (impl_outside.calls a0_3 true _ A7.out).mono ?_); rintro e w' ⟨rfl, ⟨nd, rfl⟩⟩) | (go_at_call 29; (with_reducible refine (impl_outside.calls a0_4 true _ A9.out).mono ?_); rintro e w' ⟨rfl, ⟨nd, rfl⟩⟩))
              go_ret
              exact ⟨by first | rfl | (simp [errW_none, errW_some] <;> rfl) | (simp [*, errW_none, errW_some] <;> rfl), by repeat (first | (with_reducible first | exact HB.out | apply below_alloc | apply pw_below_drewN | apply below_drew1 | refine below_set ?_ GE124.out) | exact HB.out)⟩
          · replace c10 := Bool.eq_false_iff.mpr c10
            subst c10
            have H1 : (some false) = some r := by rw [if_neg (show ¬ (false = true) by decide)] at H; exact H
            clear H
            have H := H1
            clear H1
            obtain rfl := Option.some.inj H
            go_enter Tryd.func14, Tryd.ntmps14
            go_wp2_with (first | ((with_reducible refine gate_dst (N := 1) rfl ?_); refine box_event ?hg (N := 1) ?hd (cs := #[.bool a0_0, .int .i64 a0_1, .int .i64 a0_2, .int .i64 a0_3, .int .i64 a0_4, .int .i64 a0_5, .int .i64 a0_6]) (t := 25) ?hr ?_; (case hd => rfl); (case hg => rfl); (case hr => first | (go_simp; done) | (go_simp; rfl)); intro gb124 hg w24 hbox hb; have n0_ := Aside0.mk (below_step (bl HB) hb); have n1_ := Aside0.mk (hbox); have n2_ := Aside0.mk ((by rw [hg]; exact (below_size (bl HB)) : w.heap.size ≤ gb124)); have n3_ := Aside0.mk ((by rw [hg]; exact (below_size (bl HB)) : w.heap.size ≤ gb124)); clear HB; have HB := n0_; have BK124 := n1_; have GW124 := n2_; have GE124 := n3_; clear n0_ n1_ n2_ n3_; clear hb hbox hg; have hcz25_0 : w24.cell? ⟨gb124, 0, none⟩ = some (.bool a0_0) := (blk_cell BK124.out 0).trans rfl; have hcz25_1 : w24.cell? ⟨gb124, 1, none⟩ = some (.int .i64 a0_1) := (blk_cell BK124.out 1).trans rfl; have hcz25_2 : w24.cell? ⟨gb124, 2, none⟩ = some (.int .i64 a0_2) := (blk_cell BK124.out 2).trans rfl; have hcz25_3 : w24.cell? ⟨gb124, 3, none⟩ = some (.int .i64 a0_3) := (blk_cell BK124.out 3).trans rfl; have hcz25_4 : w24.cell? ⟨gb124, 4, none⟩ = some (.int .i64 a0_4) := (blk_cell BK124.out 4).trans rfl; have hcz25_5 : w24.cell? ⟨gb124, 5, none⟩ = some (.int .i64 a0_5) := (blk_cell BK124.out 5).trans rfl; have hcz25_6 : w24.cell? ⟨gb124, 6, none⟩ = some (.int .i64 a0_6) := (blk_cell BK124.out 6).trans rfl; have hfz25_0 := blk_frozen BK124.out 0; have hfz25_1 := blk_frozen BK124.out 1; have hfz25_2 := blk_frozen BK124.out 2; have hfz25_3 := blk_frozen BK124.out 3; have hfz25_4 := blk_frozen BK124.out 4; have hfz25_5 := blk_frozen BK124.out 5; have hfz25_6 := blk_frozen BK124.out 6) | ((with_reducible refine gate_callee (f := 28) rfl ?_); refine goesL_ (some 5) rfl rfl Tryd.func28 (by kernel_rfl) rfl #[.int .i64 a0_1] rfl (by (try simp only [List.map_toArray, List.map_cons, List.map_nil]); first | done | rfl | (simp only [List.length_drop, List.length_take]; rfl)) ?_; (with_reducible refine (impl_inside.calls a0_1 true _ A2.out).mono ?_); rintro e w' ⟨rfl, ⟨nd, rfl⟩⟩; refine ⟨_, rfl, ?_⟩) | (go_at_call 28; (with_reducible refine (impl_inside.calls a0_2 true _ A4.out).mono ?_); rintro e w' ⟨rfl, ⟨nd, rfl⟩⟩) | (go_at_call 29; (with_reducible refine (impl_outside.calls a0_3 true _ A7.out).mono ?_); rintro e w' ⟨rfl, ⟨nd, rfl⟩⟩) | (go_at_call 29; (with_reducible refine (impl_outside.calls a0_4 false _ A9.out).mono ?_); rintro e w' ⟨rfl, ⟨nd, rfl⟩⟩))
            go_ret
            exact ⟨by first | rfl | (simp [errW_none, errW_some] <;> rfl) | (simp [*, errW_none, errW_some] <;> rfl), by repeat (first | (with_reducible first | exact HB.out | apply below_alloc | apply pw_below_drewN | apply below_drew1 | refine below_set ?_ GE124.out) | exact HB.out)⟩
        · replace c8 := Bool.eq_false_iff.mpr c8
          subst c8
          have H1 : (some false) = some r := by rw [if_neg (show ¬ (false = true) by decide)] at H; exact H
          clear H
          have H := H1
          clear H1
          obtain rfl := Option.some.inj H
          go_enter Tryd.func14, Tryd.ntmps14
          go_wp2_with (first | ((with_reducible refine gate_dst (N := 1) rfl ?_); refine box_event ?hg (N := 1) ?hd (cs := #[.bool a0_0, .int .i64 a0_1, .int .i64 a0_2, .int .i64 a0_3, .int .i64 a0_4, .int .i64 a0_5, .int .i64 a0_6]) (t := 25) ?hr ?_; (case hd => rfl); (case hg => rfl); (case hr => first | (go_simp; done) | (go_simp; rfl)); intro gb124 hg w26 hbox hb; have n0_ := Aside0.mk (below_step (bl HB) hb); have n1_ := Aside0.mk (hbox); have n2_ := Aside0.mk ((by rw [hg]; exact (below_size (bl HB)) : w.heap.size ≤ gb124)); have n3_ := Aside0.mk ((by rw [hg]; exact (below_size (bl HB)) : w.heap.size ≤ gb124)); clear HB; have HB := n0_; have BK124 := n1_; have GW124 := n2_; have GE124 := n3_; clear n0_ n1_ n2_ n3_; clear hb hbox hg; have hcz27_0 : w26.cell? ⟨gb124, 0, none⟩ = some (.bool a0_0) := (blk_cell BK124.out 0).trans rfl; have hcz27_1 : w26.cell? ⟨gb124, 1, none⟩ = some (.int .i64 a0_1) := (blk_cell BK124.out 1).trans rfl; have hcz27_2 : w26.cell? ⟨gb124, 2, none⟩ = some (.int .i64 a0_2) := (blk_cell BK124.out 2).trans rfl; have hcz27_3 : w26.cell? ⟨gb124, 3, none⟩ = some (.int .i64 a0_3) := (blk_cell BK124.out 3).trans rfl; have hcz27_4 : w26.cell? ⟨gb124, 4, none⟩ = some (.int .i64 a0_4) := (blk_cell BK124.out 4).trans rfl; have hcz27_5 : w26.cell? ⟨gb124, 5, none⟩ = some (.int .i64 a0_5) := (blk_cell BK124.out 5).trans rfl; have hcz27_6 : w26.cell? ⟨gb124, 6, none⟩ = some (.int .i64 a0_6) := (blk_cell BK124.out 6).trans rfl; have hfz27_0 := blk_frozen BK124.out 0; have hfz27_1 := blk_frozen BK124.out 1; have hfz27_2 := blk_frozen BK124.out 2; have hfz27_3 := blk_frozen BK124.out 3; have hfz27_4 := blk_frozen BK124.out 4; have hfz27_5 := blk_frozen BK124.out 5; have hfz27_6 := blk_frozen BK124.out 6) | ((with_reducible refine gate_callee (f := 28) rfl ?_); refine goesL_ (some 5) rfl rfl Tryd.func28 (by kernel_rfl) rfl #[.int .i64 a0_1] rfl (by (try simp only [List.map_toArray, List.map_cons, List.map_nil]); first | done | rfl | (simp only [List.length_drop, List.length_take]; rfl)) ?_; (with_reducible refine (impl_inside.calls a0_1 true _ A2.out).mono ?_); rintro e w' ⟨rfl, ⟨nd, rfl⟩⟩; refine ⟨_, rfl, ?_⟩) | (go_at_call 28; (with_reducible refine (impl_inside.calls a0_2 true _ A4.out).mono ?_); rintro e w' ⟨rfl, ⟨nd, rfl⟩⟩) | (go_at_call 29; (with_reducible refine (impl_outside.calls a0_3 false _ A7.out).mono ?_); rintro e w' ⟨rfl, ⟨nd, rfl⟩⟩))
          go_ret
          exact ⟨by first | rfl | (simp [errW_none, errW_some] <;> rfl) | (simp [*, errW_none, errW_some] <;> rfl), by repeat (first | (with_reducible first | exact HB.out | apply below_alloc | apply pw_below_drewN | apply below_drew1 | refine below_set ?_ GE124.out) | exact HB.out)⟩
      · rw [if_neg c6] at H
        have c6b0 : decide (a0_1 ≤ a0_2) = false := decide_eq_false c6
        clear c6
        obtain rfl := Option.some.inj H
        go_enter Tryd.func14, Tryd.ntmps14
        go_wp2_with (first | ((with_reducible refine gate_dst (N := 1) rfl ?_); refine box_event ?hg (N := 1) ?hd (cs := #[.bool a0_0, .int .i64 a0_1, .int .i64 a0_2, .int .i64 a0_3, .int .i64 a0_4, .int .i64 a0_5, .int .i64 a0_6]) (t := 25) ?hr ?_; (case hd => rfl); (case hg => rfl); (case hr => first | (go_simp; done) | (go_simp; rfl)); intro gb124 hg w28 hbox hb; have n0_ := Aside0.mk (below_step (bl HB) hb); have n1_ := Aside0.mk (hbox); have n2_ := Aside0.mk ((by rw [hg]; exact (below_size (bl HB)) : w.heap.size ≤ gb124)); have n3_ := Aside0.mk ((by rw [hg]; exact (below_size (bl HB)) : w.heap.size ≤ gb124)); clear HB; have HB := n0_; have BK124 := n1_; have GW124 := n2_; have GE124 := n3_; clear n0_ n1_ n2_ n3_; clear hb hbox hg; have hcz29_0 : w28.cell? ⟨gb124, 0, none⟩ = some (.bool a0_0) := (blk_cell BK124.out 0).trans rfl; have hcz29_1 : w28.cell? ⟨gb124, 1, none⟩ = some (.int .i64 a0_1) := (blk_cell BK124.out 1).trans rfl; have hcz29_2 : w28.cell? ⟨gb124, 2, none⟩ = some (.int .i64 a0_2) := (blk_cell BK124.out 2).trans rfl; have hcz29_3 : w28.cell? ⟨gb124, 3, none⟩ = some (.int .i64 a0_3) := (blk_cell BK124.out 3).trans rfl; have hcz29_4 : w28.cell? ⟨gb124, 4, none⟩ = some (.int .i64 a0_4) := (blk_cell BK124.out 4).trans rfl; have hcz29_5 : w28.cell? ⟨gb124, 5, none⟩ = some (.int .i64 a0_5) := (blk_cell BK124.out 5).trans rfl; have hcz29_6 : w28.cell? ⟨gb124, 6, none⟩ = some (.int .i64 a0_6) := (blk_cell BK124.out 6).trans rfl; have hfz29_0 := blk_frozen BK124.out 0; have hfz29_1 := blk_frozen BK124.out 1; have hfz29_2 := blk_frozen BK124.out 2; have hfz29_3 := blk_frozen BK124.out 3; have hfz29_4 := blk_frozen BK124.out 4; have hfz29_5 := blk_frozen BK124.out 5; have hfz29_6 := blk_frozen BK124.out 6) | ((with_reducible refine gate_callee (f := 28) rfl ?_); refine goesL_ (some 5) rfl rfl Tryd.func28 (by kernel_rfl) rfl #[.int .i64 a0_1] rfl (by (try simp only [List.map_toArray, List.map_cons, List.map_nil]); first | done | rfl | (simp only [List.length_drop, List.length_take]; rfl)) ?_; (with_reducible refine (impl_inside.calls a0_1 true _ A2.out).mono ?_); rintro e w' ⟨rfl, ⟨nd, rfl⟩⟩; refine ⟨_, rfl, ?_⟩) | (go_at_call 28; (with_reducible refine (impl_inside.calls a0_2 true _ A4.out).mono ?_); rintro e w' ⟨rfl, ⟨nd, rfl⟩⟩))
        go_ret
        exact ⟨by first | rfl | (simp [errW_none, errW_some] <;> rfl) | (simp [*, errW_none, errW_some] <;> rfl), by repeat (first | (with_reducible first | exact HB.out | apply below_alloc | apply pw_below_drewN | apply below_drew1 | refine below_set ?_ GE124.out) | exact HB.out)⟩
    · replace c5 := Bool.eq_false_iff.mpr c5
      subst c5
      have H1 : (some false) = some r := by rw [if_neg (show ¬ (false = true) by decide)] at H; exact H
      clear H
      have H := H1
      clear H1
      obtain rfl := Option.some.inj H
      go_enter Tryd.func14, Tryd.ntmps14
      go_wp2_with (first | ((with_reducible refine gate_dst (N := 1) rfl ?_); refine box_event ?hg (N := 1) ?hd (cs := #[.bool a0_0, .int .i64 a0_1, .int .i64 a0_2, .int .i64 a0_3, .int .i64 a0_4, .int .i64 a0_5, .int .i64 a0_6]) (t := 25) ?hr ?_; (case hd => rfl); (case hg => rfl); (case hr => first | (go_simp; done) | (go_simp; rfl)); intro gb124 hg w30 hbox hb; have n0_ := Aside0.mk (below_step (bl HB) hb); have n1_ := Aside0.mk (hbox); have n2_ := Aside0.mk ((by rw [hg]; exact (below_size (bl HB)) : w.heap.size ≤ gb124)); have n3_ := Aside0.mk ((by rw [hg]; exact (below_size (bl HB)) : w.heap.size ≤ gb124)); clear HB; have HB := n0_; have BK124 := n1_; have GW124 := n2_; have GE124 := n3_; clear n0_ n1_ n2_ n3_; clear hb hbox hg; have hcz31_0 : w30.cell? ⟨gb124, 0, none⟩ = some (.bool a0_0) := (blk_cell BK124.out 0).trans rfl; have hcz31_1 : w30.cell? ⟨gb124, 1, none⟩ = some (.int .i64 a0_1) := (blk_cell BK124.out 1).trans rfl; have hcz31_2 : w30.cell? ⟨gb124, 2, none⟩ = some (.int .i64 a0_2) := (blk_cell BK124.out 2).trans rfl; have hcz31_3 : w30.cell? ⟨gb124, 3, none⟩ = some (.int .i64 a0_3) := (blk_cell BK124.out 3).trans rfl; have hcz31_4 : w30.cell? ⟨gb124, 4, none⟩ = some (.int .i64 a0_4) := (blk_cell BK124.out 4).trans rfl; have hcz31_5 : w30.cell? ⟨gb124, 5, none⟩ = some (.int .i64 a0_5) := (blk_cell BK124.out 5).trans rfl; have hcz31_6 : w30.cell? ⟨gb124, 6, none⟩ = some (.int .i64 a0_6) := (blk_cell BK124.out 6).trans rfl; have hfz31_0 := blk_frozen BK124.out 0; have hfz31_1 := blk_frozen BK124.out 1; have hfz31_2 := blk_frozen BK124.out 2; have hfz31_3 := blk_frozen BK124.out 3; have hfz31_4 := blk_frozen BK124.out 4; have hfz31_5 := blk_frozen BK124.out 5; have hfz31_6 := blk_frozen BK124.out 6) | ((with_reducible refine gate_callee (f := 28) rfl ?_); refine goesL_ (some 5) rfl rfl Tryd.func28 (by kernel_rfl) rfl #[.int .i64 a0_1] rfl (by (try simp only [List.map_toArray, List.map_cons, List.map_nil]); first | done | rfl | (simp only [List.length_drop, List.length_take]; rfl)) ?_; (with_reducible refine (impl_inside.calls a0_1 true _ A2.out).mono ?_); rintro e w' ⟨rfl, ⟨nd, rfl⟩⟩; refine ⟨_, rfl, ?_⟩) | (go_at_call 28; (with_reducible refine (impl_inside.calls a0_2 false _ A4.out).mono ?_); rintro e w' ⟨rfl, ⟨nd, rfl⟩⟩))
      go_ret
      exact ⟨by first | rfl | (simp [errW_none, errW_some] <;> rfl) | (simp [*, errW_none, errW_some] <;> rfl), by repeat (first | (with_reducible first | exact HB.out | apply below_alloc | apply pw_below_drewN | apply below_drew1 | refine below_set ?_ GE124.out) | exact HB.out)⟩
  · replace c3 := Bool.eq_false_iff.mpr c3
    subst c3
    have H1 : (some false) = some r := by rw [if_neg (show ¬ (false = true) by decide)] at H; exact H
    clear H
    have H := H1
    clear H1
    obtain rfl := Option.some.inj H
    go_enter Tryd.func14, Tryd.ntmps14
    go_wp2_with (first | ((with_reducible refine gate_dst (N := 1) rfl ?_); refine box_event ?hg (N := 1) ?hd (cs := #[.bool a0_0, .int .i64 a0_1, .int .i64 a0_2, .int .i64 a0_3, .int .i64 a0_4, .int .i64 a0_5, .int .i64 a0_6]) (t := 25) ?hr ?_; (case hd => rfl); (case hg => rfl); (case hr => first | (go_simp; done) | (go_simp; rfl)); intro gb124 hg w32 hbox hb; have n0_ := Aside0.mk (below_step (bl HB) hb); have n1_ := Aside0.mk (hbox); have n2_ := Aside0.mk ((by rw [hg]; exact (below_size (bl HB)) : w.heap.size ≤ gb124)); have n3_ := Aside0.mk ((by rw [hg]; exact (below_size (bl HB)) : w.heap.size ≤ gb124)); clear HB; have HB := n0_; have BK124 := n1_; have GW124 := n2_; have GE124 := n3_; clear n0_ n1_ n2_ n3_; clear hb hbox hg; have hcz33_0 : w32.cell? ⟨gb124, 0, none⟩ = some (.bool a0_0) := (blk_cell BK124.out 0).trans rfl; have hcz33_1 : w32.cell? ⟨gb124, 1, none⟩ = some (.int .i64 a0_1) := (blk_cell BK124.out 1).trans rfl; have hcz33_2 : w32.cell? ⟨gb124, 2, none⟩ = some (.int .i64 a0_2) := (blk_cell BK124.out 2).trans rfl; have hcz33_3 : w32.cell? ⟨gb124, 3, none⟩ = some (.int .i64 a0_3) := (blk_cell BK124.out 3).trans rfl; have hcz33_4 : w32.cell? ⟨gb124, 4, none⟩ = some (.int .i64 a0_4) := (blk_cell BK124.out 4).trans rfl; have hcz33_5 : w32.cell? ⟨gb124, 5, none⟩ = some (.int .i64 a0_5) := (blk_cell BK124.out 5).trans rfl; have hcz33_6 : w32.cell? ⟨gb124, 6, none⟩ = some (.int .i64 a0_6) := (blk_cell BK124.out 6).trans rfl; have hfz33_0 := blk_frozen BK124.out 0; have hfz33_1 := blk_frozen BK124.out 1; have hfz33_2 := blk_frozen BK124.out 2; have hfz33_3 := blk_frozen BK124.out 3; have hfz33_4 := blk_frozen BK124.out 4; have hfz33_5 := blk_frozen BK124.out 5; have hfz33_6 := blk_frozen BK124.out 6) | ((with_reducible refine gate_callee (f := 28) rfl ?_); refine goesL_ (some 5) rfl rfl Tryd.func28 (by kernel_rfl) rfl #[.int .i64 a0_1] rfl (by (try simp only [List.map_toArray, List.map_cons, List.map_nil]); first | done | rfl | (simp only [List.length_drop, List.length_take]; rfl)) ?_; (with_reducible refine (impl_inside.calls a0_1 false _ A2.out).mono ?_); rintro e w' ⟨rfl, ⟨nd, rfl⟩⟩; refine ⟨_, rfl, ?_⟩))
    go_ret
    exact ⟨by first | rfl | (simp [errW_none, errW_some] <;> rfl) | (simp [*, errW_none, errW_some] <;> rfl), by repeat (first | (with_reducible first | exact HB.out | apply below_alloc | apply pw_below_drewN | apply below_drew1 | refine below_set ?_ GE124.out) | exact HB.out)⟩

end Go.Proofs.YtiocgkggegahhaaDoor.P

/- What rules are, in plain words; what the printed functions on them answer. (For a seat that holds no EndInside.) -/
namespace Go.Proofs.YtiocgkggegahhaaDoor.P
open Go.RowKit Go.Proofs.YtiocgkggegahhaaDoorUFnExactRulRead.PrintWords Go.Proofs.YtiocgkggegahhaaDoorUFnExactRulRead.PrintLast Go.Proofs.YtiocgkggegahhaaDoorUFnExactRulRead.PrintMore
set_option linter.unusedVariables false
set_option linter.unusedSimpArgs false
def inB (n lo hi : Int) : Bool := decide (lo ≤ n) && decide (n ≤ hi)
theorem within_f (n lo hi : Int) : impl_within.f n lo hi = some (inB n lo hi) := by
  unfold impl_within.f inB
  by_cases h : lo ≤ n <;> simp [h]
theorem inside_f (n : Int) : impl_inside.f n = some (inB n 1 9) := by unfold impl_inside.f; rw [within_f]; rfl
theorem outside_f (n : Int) : impl_outside.f n = some (inB n 100 109) := by unfold impl_outside.f; rw [within_f]; rfl
theorem portOk_f (n : Int) : impl_portOk.f n = some (inB n 1 999) := by unfold impl_portOk.f; rw [within_f]; rfl
/-- Is a rule ok? -/
def ruleOk7 (f1 f2 f3 f4 f5 f6 : Int) : Bool := inB f1 1 9 && inB f2 1 9 && decide (f1 ≤ f2) && inB f3 100 109 && inB f4 100 109 && decide (f3 ≤ f4) && inB f5 1 999 && inB f6 1 999 && decide (f5 ≤ f6)
theorem RulOk7_f (f0 : Bool) (f1 f2 f3 f4 f5 f6 : Int) : impl_RulOk.f f0 f1 f2 f3 f4 f5 f6 = some (ruleOk7 f1 f2 f3 f4 f5 f6) := by
  unfold impl_RulOk.f ruleOk7
  simp only [inside_f, outside_f, portOk_f, Option.bind_some]
  cases inB f1 1 9 <;> cases inB f2 1 9 <;> cases inB f3 100 109 <;> cases inB f4 100 109 <;> cases inB f5 1 999 <;> cases inB f6 1 999 <;> by_cases h1 : f1 ≤ f2 <;> by_cases h2 : f3 ≤ f4 <;> simp [h1, h2]
theorem inB_le {n lo hi : Int} (h : inB n lo hi = true) : lo ≤ n ∧ n ≤ hi := by simpa [inB] using h
theorem ruleOk7_le {f1 f2 f3 f4 f5 f6 : Int} (h : ruleOk7 f1 f2 f3 f4 f5 f6 = true) : (1 ≤ f1 ∧ f1 ≤ 9) ∧ (1 ≤ f2 ∧ f2 ≤ 9) ∧ f1 ≤ f2 ∧ (100 ≤ f3 ∧ f3 ≤ 109) ∧ (100 ≤ f4 ∧ f4 ≤ 109) ∧ f3 ≤ f4 ∧ (1 ≤ f5 ∧ f5 ≤ 999) ∧ (1 ≤ f6 ∧ f6 ≤ 999) ∧ f5 ≤ f6 := by
  simp only [ruleOk7, inB, Bool.and_eq_true, decide_eq_true_eq] at h
  omega
end Go.Proofs.YtiocgkggegahhaaDoor.P

/- The contract of impl.RulText: a rule's text. -/
namespace Go.Proofs.YtiocgkggegahhaaDoor.P
open Go.RowKit Go.Proofs.YtiocgkggegahhaaDoorUFnExactRulRead.PrintWords Go.Proofs.YtiocgkggegahhaaDoorUFnExactRulRead.PrintLast Go.Proofs.YtiocgkggegahhaaDoorUFnExactRulRead.PrintMore
set_option linter.unusedVariables false
set_option linter.unusedSimpArgs false

def ptrs6 (g : Nat) : Array Value := #[.pointer (some ⟨g, 1, none⟩), .pointer (some ⟨g, 2, none⟩), .pointer (some ⟨g, 3, none⟩), .pointer (some ⟨g, 4, none⟩), .pointer (some ⟨g, 5, none⟩), .pointer (some ⟨g, 6, none⟩)]
set_option maxRecDepth 100000 in
theorem bounds_calls (g : Nat) (w : World) :
    Calls Tryd.prog 18 #[.pointer (some ⟨g, 0, none⟩)] w fun e w' => ∃ N, e = .returned (.slice (some ⟨N, 0, none⟩) 6 6) ∧ w.heap.size ≤ N ∧ w'.heap[N]? = some (.cells (ptrs6 g) 42 (0, 0)) ∧ Below w.heap.size w w' := by
  have hu := Tryd.underlying25
  go_enter Tryd.func18, Tryd.ntmps18
  go_wp2
  go_region
  go_wp2
  go_ret
  exact ⟨w.heap.size, rfl, Nat.le_refl _, by simp only [World.alloc, World.drew, ptrs6, Array.getElem?_push_size], below_drew1 (below_alloc (Below.refl _ _) _)⟩

/-- A number, a blank ahead of it. -/
def numB (n : Int) : ByteArray := ⟨(Lib.itoa n).toArray⟩
def textB (pre : ByteArray) (l : List Int) : ByteArray := l.foldl (fun s n => s ++ ((⟨#[32]⟩ : ByteArray) ++ numB n)) pre
def allowB (b : Bool) : ByteArray := if b then ⟨#[97, 108, 108, 111, 119]⟩ else ⟨#[100, 101, 110, 121]⟩
def impl_RulText.f (f0 : Bool) (f1 f2 f3 f4 f5 f6 : Int) : Option ByteArray :=
  some (if ruleOk7 f1 f2 f3 f4 f5 f6 then textB (allowB f0) [f1, f2, f3, f4, f5, f6] else ⟨#[]⟩)
theorem numB_size {n : Int} (h0 : 0 ≤ n) (h1 : n ≤ 999) : (numB n).size ≤ 3 := by
  obtain ⟨k, rfl⟩ : ∃ k : Nat, n = k := ⟨n.toNat, by omega⟩
  have hk : k < 1000 := by omega
  have h3 : Lib.nDigits k ≤ 3 := by
    by_cases a : k < 10
    · rw [Lib.nDigits_small a]; omega
    · rw [Lib.nDigits_big a]
      by_cases b : k / 10 < 10
      · rw [Lib.nDigits_small b]; omega
      · rw [Lib.nDigits_big b, Lib.nDigits_small (by omega)]; omega
  have : (Lib.itoa (k : Int)).length ≤ 3 := by
    unfold Lib.itoa
    rw [if_neg (by omega), Lib.decDigits_length]
    simpa using h3
  simpa [numB, ByteArray.size] using this
theorem num_calls (n : Int) (h0 : 0 ≤ n) (h1 : n ≤ 999) (w : World) (hE : EnvT w) :
    Calls Tryd.prog 19 #[.int .i64 n] w fun e w' => ∃ b : ByteArray, e = .returned (.string b) ∧ b = numB n ∧ b.size ≤ 3 ∧ Below w.heap.size w w' := by
  refine (itoa_calls n h0 (by omega) w hE).mono ?_
  rintro e w' ⟨rfl, hb⟩
  exact ⟨_, rfl, rfl, numB_size h0 h1, hb⟩
theorem textB_succ (pre : ByteArray) (l : List Int) (n : Int) : textB pre (l ++ [n]) = textB pre l ++ ((⟨#[32]⟩ : ByteArray) ++ numB n) := by simp [textB]
set_option maxHeartbeats 8000000 in
set_option maxRecDepth 100000 in
theorem impl_RulText.calls (a0_0 : Bool) (a0_1 : Int) (a0_2 : Int) (a0_3 : Int) (a0_4 : Int) (a0_5 : Int) (a0_6 : Int) (r : ByteArray) (w : World) (h : impl_RulText.f a0_0 a0_1 a0_2 a0_3 a0_4 a0_5 a0_6 = some r) (hE : EnvT w) :
    Calls Tryd.prog 8 #[.agg #[.bool a0_0, .int .i64 a0_1, .int .i64 a0_2, .int .i64 a0_3, .int .i64 a0_4, .int .i64 a0_5, .int .i64 a0_6]] w fun e w' => e = .returned (.string r) ∧ Below w.heap.size w w' := by
  have HH := Aside0.mk (Option.some.inj h)
  have HE := Aside0.mk hE
  have HF := Aside0.mk (RulOk7_f a0_0 a0_1 a0_2 a0_3 a0_4 a0_5 a0_6)
  clear h hE
  have HB := Aside0.mk (Below.refl w.heap.size w)
  have hu := Tryd.underlying25
  cases hk : ruleOk7 a0_1 a0_2 a0_3 a0_4 a0_5 a0_6 with
  | false =>
    have HK := Aside0.mk hk
    clear hk
    go_enter Tryd.func8, Tryd.ntmps8
    go_wp2_with (first
      | ((with_reducible refine gate_dst (N := 1) rfl ?_)
         refine box_event ?hg (N := 1) ?hd (cs := #[.bool a0_0, .int .i64 a0_1, .int .i64 a0_2, .int .i64 a0_3, .int .i64 a0_4, .int .i64 a0_5, .int .i64 a0_6]) (t := 25) ?hr ?_
         (case hd => rfl)
         (case hg => rfl)
         (case hr => first | (go_simp; done) | (go_simp; rfl))
         intro gb hg w1 hbox hb
         have n0_ := Aside0.mk (below_step (bl HB) hb)
         have n1_ := Aside0.mk hbox
         clear HB hb hbox hg
         have HB := n0_
         have BK := n1_
         clear n0_ n1_
         have hc0 := (blk_cell BK.out 0).trans rfl
         have hc1 := (blk_cell BK.out 1).trans rfl
         have hc2 := (blk_cell BK.out 2).trans rfl
         have hc3 := (blk_cell BK.out 3).trans rfl
         have hc4 := (blk_cell BK.out 4).trans rfl
         have hc5 := (blk_cell BK.out 5).trans rfl
         have hc6 := (blk_cell BK.out 6).trans rfl)
      | (go_at_call 14; refine (impl_RulOk.calls _ _ _ _ _ _ _ _ _ HF.out).mono ?_; rw [HK.out]; rintro e w2 ⟨rfl, hb⟩
         have n0_ := Aside0.mk (below_step (bl HB) hb)
         clear HB hb
         have HB := n0_
         clear n0_))
    go_ret
    exact ⟨by rw [← HH.out, HK.out]; rfl, bl HB⟩
  | true =>
    have HL := Aside0.mk (ruleOk7_le hk)
    have HK := Aside0.mk hk
    clear hk
    cases a0_0 with
    | false =>
      go_enter Tryd.func8, Tryd.ntmps8
      go_wp2_with (first
        | ((with_reducible refine gate_dst (N := 1) rfl ?_)
           refine box_event ?hg (N := 1) ?hd (cs := #[.bool false, .int .i64 a0_1, .int .i64 a0_2, .int .i64 a0_3, .int .i64 a0_4, .int .i64 a0_5, .int .i64 a0_6]) (t := 25) ?hr ?_
           (case hd => rfl)
           (case hg => rfl)
           (case hr => first | (go_simp; done) | (go_simp; rfl))
           intro gb hg w1 hbox hb
           have n0_ := Aside0.mk (below_step (bl HB) hb)
           have n1_ := Aside0.mk hbox
           clear HB hb hbox hg
           have HB := n0_
           have BK := n1_
           clear n0_ n1_
           have hc0 := (blk_cell BK.out 0).trans rfl
           have hc1 := (blk_cell BK.out 1).trans rfl
           have hc2 := (blk_cell BK.out 2).trans rfl
           have hc3 := (blk_cell BK.out 3).trans rfl
           have hc4 := (blk_cell BK.out 4).trans rfl
           have hc5 := (blk_cell BK.out 5).trans rfl
           have hc6 := (blk_cell BK.out 6).trans rfl)
        | (go_at_call 14; refine (impl_RulOk.calls _ _ _ _ _ _ _ _ _ HF.out).mono ?_; rw [HK.out]; rintro e w2 ⟨rfl, hb⟩
           have n0_ := Aside0.mk (below_step (bl HB) hb)
           have n1_ := bkB BK hb
           clear HB hb BK
           have HB := n0_
           have BK := n1_
           clear n0_ n1_
           have hc0 := (blk_cell BK.out 0).trans rfl)
        | (go_at_call 18; refine (bounds_calls _ _).mono ?_; rintro e w3 ⟨N, rfl, hN, hbk, hb⟩
           have n0_ := Aside0.mk (below_step (bl HB) hb)
           have n1_ := bkB BK hb
           have PT := Aside0.mk hbk
           clear HB hb BK hbk hN
           have HB := n0_
           have BK := n1_
           clear n0_ n1_))
      go_loopw [3, 13] (fun s i wr => ∃ (k : Nat) (b : ByteArray), k ≤ 6 ∧ i = .int .i64 k ∧ s = .string b ∧ Aside0 (b = textB (allowB false) (([a0_1, a0_2, a0_3, a0_4, a0_5, a0_6] : List Int).take k)) ∧ Aside0 (b.size ≤ 10 + 10 * k) ∧ Aside0 (Below w.heap.size w wr) ∧ Aside0 (wr.heap[gb]? = some (.cells #[.bool false, .int .i64 a0_1, .int .i64 a0_2, .int .i64 a0_3, .int .i64 a0_4, .int .i64 a0_5, .int .i64 a0_6] 25 (0, 0))) ∧ Aside0 (wr.heap[N]? = some (.cells (ptrs6 gb) 42 (0, 0)))) (fun _ i _ => 6 - (intOf i).toNat)
      case atStart => exact ⟨0, _, Nat.zero_le _, rfl, rfl, ⟨rfl⟩, ⟨by decide⟩, ⟨bl HB⟩, ⟨bk BK⟩, ⟨bk PT⟩⟩
      case round =>
        clear HB BK PT
        obtain ⟨k, b, hk, rfl, rfl, hs, hsz, HB, BK, PT⟩ := hrel
        have hk7 : k = 0 ∨ k = 1 ∨ k = 2 ∨ k = 3 ∨ k = 4 ∨ k = 5 ∨ k = 6 := by omega
        clear hk
        rcases hk7 with rfl | rfl | rfl | rfl | rfl | rfl | rfl
        · have hcp : wr.cell? ⟨N, 0, none⟩ = some (.pointer (some ⟨gb, 1, none⟩)) := (blk_cell PT.out 0).trans rfl
          have hcn : wr.cell? ⟨gb, 1, none⟩ = some (.int .i64 a0_1) := (blk_cell BK.out 1).trans rfl
          go_wp2_with (go_at_call 19; refine (num_calls _ (by have := HL.out; omega) (by have := HL.out; omega) _ (EnvT.below HE.out (bl HB))).mono ?_; rintro e w4 ⟨bn, rfl, hbn, hbs, hb⟩
                       have HN := Aside0.mk hbn
                       have HS := Aside0.mk hbs
                       have hq1 : (9223372036854775807 < 1 + bn.size) = False := eq_false (by omega)
                       have hq2 : (9223372036854775807 < b.size + (1 + bn.size)) = False := eq_false (by have := hsz.out; omega)
                       have n0_ := Aside0.mk (below_step (bl HB) hb)
                       have n1_ := bkB BK hb
                       have n2_ := bkB PT hb
                       clear HB hb BK PT hbn hbs
                       have HB := n0_
                       have BK := n1_
                       have PT := n2_
                       clear n0_ n1_ n2_)
          go_roundw
          case rel => exact ⟨1, _, by omega, by go_num, rfl, ⟨by rw [hs.out, HN.out]; rfl⟩, ⟨by have h1 := hsz.out; have h2 := HS.out; have h3 : ((⟨#[32]⟩ : ByteArray)).size = 1 := rfl; simp only [ByteArray.size_append]; omega⟩, ⟨bl HB⟩, ⟨bk BK⟩, ⟨bk PT⟩⟩
          case measure => simp [intOf]
        · have hcp : wr.cell? ⟨N, 1, none⟩ = some (.pointer (some ⟨gb, 2, none⟩)) := (blk_cell PT.out 1).trans rfl
          have hcn : wr.cell? ⟨gb, 2, none⟩ = some (.int .i64 a0_2) := (blk_cell BK.out 2).trans rfl
          go_wp2_with (go_at_call 19; refine (num_calls _ (by have := HL.out; omega) (by have := HL.out; omega) _ (EnvT.below HE.out (bl HB))).mono ?_; rintro e w4 ⟨bn, rfl, hbn, hbs, hb⟩
                       have HN := Aside0.mk hbn
                       have HS := Aside0.mk hbs
                       have hq1 : (9223372036854775807 < 1 + bn.size) = False := eq_false (by omega)
                       have hq2 : (9223372036854775807 < b.size + (1 + bn.size)) = False := eq_false (by have := hsz.out; omega)
                       have n0_ := Aside0.mk (below_step (bl HB) hb)
                       have n1_ := bkB BK hb
                       have n2_ := bkB PT hb
                       clear HB hb BK PT hbn hbs
                       have HB := n0_
                       have BK := n1_
                       have PT := n2_
                       clear n0_ n1_ n2_)
          go_roundw
          case rel => exact ⟨2, _, by omega, by go_num, rfl, ⟨by rw [hs.out, HN.out]; rfl⟩, ⟨by have h1 := hsz.out; have h2 := HS.out; have h3 : ((⟨#[32]⟩ : ByteArray)).size = 1 := rfl; simp only [ByteArray.size_append]; omega⟩, ⟨bl HB⟩, ⟨bk BK⟩, ⟨bk PT⟩⟩
          case measure => simp [intOf]
        · have hcp : wr.cell? ⟨N, 2, none⟩ = some (.pointer (some ⟨gb, 3, none⟩)) := (blk_cell PT.out 2).trans rfl
          have hcn : wr.cell? ⟨gb, 3, none⟩ = some (.int .i64 a0_3) := (blk_cell BK.out 3).trans rfl
          go_wp2_with (go_at_call 19; refine (num_calls _ (by have := HL.out; omega) (by have := HL.out; omega) _ (EnvT.below HE.out (bl HB))).mono ?_; rintro e w4 ⟨bn, rfl, hbn, hbs, hb⟩
                       have HN := Aside0.mk hbn
                       have HS := Aside0.mk hbs
                       have hq1 : (9223372036854775807 < 1 + bn.size) = False := eq_false (by omega)
                       have hq2 : (9223372036854775807 < b.size + (1 + bn.size)) = False := eq_false (by have := hsz.out; omega)
                       have n0_ := Aside0.mk (below_step (bl HB) hb)
                       have n1_ := bkB BK hb
                       have n2_ := bkB PT hb
                       clear HB hb BK PT hbn hbs
                       have HB := n0_
                       have BK := n1_
                       have PT := n2_
                       clear n0_ n1_ n2_)
          go_roundw
          case rel => exact ⟨3, _, by omega, by go_num, rfl, ⟨by rw [hs.out, HN.out]; rfl⟩, ⟨by have h1 := hsz.out; have h2 := HS.out; have h3 : ((⟨#[32]⟩ : ByteArray)).size = 1 := rfl; simp only [ByteArray.size_append]; omega⟩, ⟨bl HB⟩, ⟨bk BK⟩, ⟨bk PT⟩⟩
          case measure => simp [intOf]
        · have hcp : wr.cell? ⟨N, 3, none⟩ = some (.pointer (some ⟨gb, 4, none⟩)) := (blk_cell PT.out 3).trans rfl
          have hcn : wr.cell? ⟨gb, 4, none⟩ = some (.int .i64 a0_4) := (blk_cell BK.out 4).trans rfl
          go_wp2_with (go_at_call 19; refine (num_calls _ (by have := HL.out; omega) (by have := HL.out; omega) _ (EnvT.below HE.out (bl HB))).mono ?_; rintro e w4 ⟨bn, rfl, hbn, hbs, hb⟩
                       have HN := Aside0.mk hbn
                       have HS := Aside0.mk hbs
                       have hq1 : (9223372036854775807 < 1 + bn.size) = False := eq_false (by omega)
                       have hq2 : (9223372036854775807 < b.size + (1 + bn.size)) = False := eq_false (by have := hsz.out; omega)
                       have n0_ := Aside0.mk (below_step (bl HB) hb)
                       have n1_ := bkB BK hb
                       have n2_ := bkB PT hb
                       clear HB hb BK PT hbn hbs
                       have HB := n0_
                       have BK := n1_
                       have PT := n2_
                       clear n0_ n1_ n2_)
          go_roundw
          case rel => exact ⟨4, _, by omega, by go_num, rfl, ⟨by rw [hs.out, HN.out]; rfl⟩, ⟨by have h1 := hsz.out; have h2 := HS.out; have h3 : ((⟨#[32]⟩ : ByteArray)).size = 1 := rfl; simp only [ByteArray.size_append]; omega⟩, ⟨bl HB⟩, ⟨bk BK⟩, ⟨bk PT⟩⟩
          case measure => simp [intOf]
        · have hcp : wr.cell? ⟨N, 4, none⟩ = some (.pointer (some ⟨gb, 5, none⟩)) := (blk_cell PT.out 4).trans rfl
          have hcn : wr.cell? ⟨gb, 5, none⟩ = some (.int .i64 a0_5) := (blk_cell BK.out 5).trans rfl
          go_wp2_with (go_at_call 19; refine (num_calls _ (by have := HL.out; omega) (by have := HL.out; omega) _ (EnvT.below HE.out (bl HB))).mono ?_; rintro e w4 ⟨bn, rfl, hbn, hbs, hb⟩
                       have HN := Aside0.mk hbn
                       have HS := Aside0.mk hbs
                       have hq1 : (9223372036854775807 < 1 + bn.size) = False := eq_false (by omega)
                       have hq2 : (9223372036854775807 < b.size + (1 + bn.size)) = False := eq_false (by have := hsz.out; omega)
                       have n0_ := Aside0.mk (below_step (bl HB) hb)
                       have n1_ := bkB BK hb
                       have n2_ := bkB PT hb
                       clear HB hb BK PT hbn hbs
                       have HB := n0_
                       have BK := n1_
                       have PT := n2_
                       clear n0_ n1_ n2_)
          go_roundw
          case rel => exact ⟨5, _, by omega, by go_num, rfl, ⟨by rw [hs.out, HN.out]; rfl⟩, ⟨by have h1 := hsz.out; have h2 := HS.out; have h3 : ((⟨#[32]⟩ : ByteArray)).size = 1 := rfl; simp only [ByteArray.size_append]; omega⟩, ⟨bl HB⟩, ⟨bk BK⟩, ⟨bk PT⟩⟩
          case measure => simp [intOf]
        · have hcp : wr.cell? ⟨N, 5, none⟩ = some (.pointer (some ⟨gb, 6, none⟩)) := (blk_cell PT.out 5).trans rfl
          have hcn : wr.cell? ⟨gb, 6, none⟩ = some (.int .i64 a0_6) := (blk_cell BK.out 6).trans rfl
          go_wp2_with (go_at_call 19; refine (num_calls _ (by have := HL.out; omega) (by have := HL.out; omega) _ (EnvT.below HE.out (bl HB))).mono ?_; rintro e w4 ⟨bn, rfl, hbn, hbs, hb⟩
                       have HN := Aside0.mk hbn
                       have HS := Aside0.mk hbs
                       have hq1 : (9223372036854775807 < 1 + bn.size) = False := eq_false (by omega)
                       have hq2 : (9223372036854775807 < b.size + (1 + bn.size)) = False := eq_false (by have := hsz.out; omega)
                       have n0_ := Aside0.mk (below_step (bl HB) hb)
                       have n1_ := bkB BK hb
                       have n2_ := bkB PT hb
                       clear HB hb BK PT hbn hbs
                       have HB := n0_
                       have BK := n1_
                       have PT := n2_
                       clear n0_ n1_ n2_)
          go_roundw
          case rel => exact ⟨6, _, by omega, by go_num, rfl, ⟨by rw [hs.out, HN.out]; rfl⟩, ⟨by have h1 := hsz.out; have h2 := HS.out; have h3 : ((⟨#[32]⟩ : ByteArray)).size = 1 := rfl; simp only [ByteArray.size_append]; omega⟩, ⟨bl HB⟩, ⟨bk BK⟩, ⟨bk PT⟩⟩
          case measure => simp [intOf]
        · go_wp2
          go_ret
          exact ⟨by rw [← HH.out, HK.out, hs.out]; rfl, HB.out⟩
    | true =>
      go_enter Tryd.func8, Tryd.ntmps8
      go_wp2_with (first
        | ((with_reducible refine gate_dst (N := 1) rfl ?_)
           refine box_event ?hg (N := 1) ?hd (cs := #[.bool true, .int .i64 a0_1, .int .i64 a0_2, .int .i64 a0_3, .int .i64 a0_4, .int .i64 a0_5, .int .i64 a0_6]) (t := 25) ?hr ?_
           (case hd => rfl)
           (case hg => rfl)
           (case hr => first | (go_simp; done) | (go_simp; rfl))
           intro gb hg w1 hbox hb
           have n0_ := Aside0.mk (below_step (bl HB) hb)
           have n1_ := Aside0.mk hbox
           clear HB hb hbox hg
           have HB := n0_
           have BK := n1_
           clear n0_ n1_
           have hc0 := (blk_cell BK.out 0).trans rfl
           have hc1 := (blk_cell BK.out 1).trans rfl
           have hc2 := (blk_cell BK.out 2).trans rfl
           have hc3 := (blk_cell BK.out 3).trans rfl
           have hc4 := (blk_cell BK.out 4).trans rfl
           have hc5 := (blk_cell BK.out 5).trans rfl
           have hc6 := (blk_cell BK.out 6).trans rfl)
        | (go_at_call 14; refine (impl_RulOk.calls _ _ _ _ _ _ _ _ _ HF.out).mono ?_; rw [HK.out]; rintro e w2 ⟨rfl, hb⟩
           have n0_ := Aside0.mk (below_step (bl HB) hb)
           have n1_ := bkB BK hb
           clear HB hb BK
           have HB := n0_
           have BK := n1_
           clear n0_ n1_
           have hc0 := (blk_cell BK.out 0).trans rfl)
        | (go_at_call 18; refine (bounds_calls _ _).mono ?_; rintro e w3 ⟨N, rfl, hN, hbk, hb⟩
           have n0_ := Aside0.mk (below_step (bl HB) hb)
           have n1_ := bkB BK hb
           have PT := Aside0.mk hbk
           clear HB hb BK hbk hN
           have HB := n0_
           have BK := n1_
           clear n0_ n1_))
      go_loopw [3, 13] (fun s i wr => ∃ (k : Nat) (b : ByteArray), k ≤ 6 ∧ i = .int .i64 k ∧ s = .string b ∧ Aside0 (b = textB (allowB true) (([a0_1, a0_2, a0_3, a0_4, a0_5, a0_6] : List Int).take k)) ∧ Aside0 (b.size ≤ 10 + 10 * k) ∧ Aside0 (Below w.heap.size w wr) ∧ Aside0 (wr.heap[gb]? = some (.cells #[.bool true, .int .i64 a0_1, .int .i64 a0_2, .int .i64 a0_3, .int .i64 a0_4, .int .i64 a0_5, .int .i64 a0_6] 25 (0, 0))) ∧ Aside0 (wr.heap[N]? = some (.cells (ptrs6 gb) 42 (0, 0)))) (fun _ i _ => 6 - (intOf i).toNat)
      case atStart => exact ⟨0, _, Nat.zero_le _, rfl, rfl, ⟨rfl⟩, ⟨by decide⟩, ⟨bl HB⟩, ⟨bk BK⟩, ⟨bk PT⟩⟩
      case round =>
        clear HB BK PT
        obtain ⟨k, b, hk, rfl, rfl, hs, hsz, HB, BK, PT⟩ := hrel
        have hk7 : k = 0 ∨ k = 1 ∨ k = 2 ∨ k = 3 ∨ k = 4 ∨ k = 5 ∨ k = 6 := by omega
        clear hk
        rcases hk7 with rfl | rfl | rfl | rfl | rfl | rfl | rfl
        · have hcp : wr.cell? ⟨N, 0, none⟩ = some (.pointer (some ⟨gb, 1, none⟩)) := (blk_cell PT.out 0).trans rfl
          have hcn : wr.cell? ⟨gb, 1, none⟩ = some (.int .i64 a0_1) := (blk_cell BK.out 1).trans rfl
          go_wp2_with (go_at_call 19; refine (num_calls _ (by have := HL.out; omega) (by have := HL.out; omega) _ (EnvT.below HE.out (bl HB))).mono ?_; rintro e w4 ⟨bn, rfl, hbn, hbs, hb⟩
                       have HN := Aside0.mk hbn
                       have HS := Aside0.mk hbs
                       have hq1 : (9223372036854775807 < 1 + bn.size) = False := eq_false (by omega)
                       have hq2 : (9223372036854775807 < b.size + (1 + bn.size)) = False := eq_false (by have := hsz.out; omega)
                       have n0_ := Aside0.mk (below_step (bl HB) hb)
                       have n1_ := bkB BK hb
                       have n2_ := bkB PT hb
                       clear HB hb BK PT hbn hbs
                       have HB := n0_
                       have BK := n1_
                       have PT := n2_
                       clear n0_ n1_ n2_)
          go_roundw
          case rel => exact ⟨1, _, by omega, by go_num, rfl, ⟨by rw [hs.out, HN.out]; rfl⟩, ⟨by have h1 := hsz.out; have h2 := HS.out; have h3 : ((⟨#[32]⟩ : ByteArray)).size = 1 := rfl; simp only [ByteArray.size_append]; omega⟩, ⟨bl HB⟩, ⟨bk BK⟩, ⟨bk PT⟩⟩
          case measure => simp [intOf]
        · have hcp : wr.cell? ⟨N, 1, none⟩ = some (.pointer (some ⟨gb, 2, none⟩)) := (blk_cell PT.out 1).trans rfl
          have hcn : wr.cell? ⟨gb, 2, none⟩ = some (.int .i64 a0_2) := (blk_cell BK.out 2).trans rfl
          go_wp2_with (go_at_call 19; refine (num_calls _ (by have := HL.out; omega) (by have := HL.out; omega) _ (EnvT.below HE.out (bl HB))).mono ?_; rintro e w4 ⟨bn, rfl, hbn, hbs, hb⟩
                       have HN := Aside0.mk hbn
                       have HS := Aside0.mk hbs
                       have hq1 : (9223372036854775807 < 1 + bn.size) = False := eq_false (by omega)
                       have hq2 : (9223372036854775807 < b.size + (1 + bn.size)) = False := eq_false (by have := hsz.out; omega)
                       have n0_ := Aside0.mk (below_step (bl HB) hb)
                       have n1_ := bkB BK hb
                       have n2_ := bkB PT hb
                       clear HB hb BK PT hbn hbs
                       have HB := n0_
                       have BK := n1_
                       have PT := n2_
                       clear n0_ n1_ n2_)
          go_roundw
          case rel => exact ⟨2, _, by omega, by go_num, rfl, ⟨by rw [hs.out, HN.out]; rfl⟩, ⟨by have h1 := hsz.out; have h2 := HS.out; have h3 : ((⟨#[32]⟩ : ByteArray)).size = 1 := rfl; simp only [ByteArray.size_append]; omega⟩, ⟨bl HB⟩, ⟨bk BK⟩, ⟨bk PT⟩⟩
          case measure => simp [intOf]
        · have hcp : wr.cell? ⟨N, 2, none⟩ = some (.pointer (some ⟨gb, 3, none⟩)) := (blk_cell PT.out 2).trans rfl
          have hcn : wr.cell? ⟨gb, 3, none⟩ = some (.int .i64 a0_3) := (blk_cell BK.out 3).trans rfl
          go_wp2_with (go_at_call 19; refine (num_calls _ (by have := HL.out; omega) (by have := HL.out; omega) _ (EnvT.below HE.out (bl HB))).mono ?_; rintro e w4 ⟨bn, rfl, hbn, hbs, hb⟩
                       have HN := Aside0.mk hbn
                       have HS := Aside0.mk hbs
                       have hq1 : (9223372036854775807 < 1 + bn.size) = False := eq_false (by omega)
                       have hq2 : (9223372036854775807 < b.size + (1 + bn.size)) = False := eq_false (by have := hsz.out; omega)
                       have n0_ := Aside0.mk (below_step (bl HB) hb)
                       have n1_ := bkB BK hb
                       have n2_ := bkB PT hb
                       clear HB hb BK PT hbn hbs
                       have HB := n0_
                       have BK := n1_
                       have PT := n2_
                       clear n0_ n1_ n2_)
          go_roundw
          case rel => exact ⟨3, _, by omega, by go_num, rfl, ⟨by rw [hs.out, HN.out]; rfl⟩, ⟨by have h1 := hsz.out; have h2 := HS.out; have h3 : ((⟨#[32]⟩ : ByteArray)).size = 1 := rfl; simp only [ByteArray.size_append]; omega⟩, ⟨bl HB⟩, ⟨bk BK⟩, ⟨bk PT⟩⟩
          case measure => simp [intOf]
        · have hcp : wr.cell? ⟨N, 3, none⟩ = some (.pointer (some ⟨gb, 4, none⟩)) := (blk_cell PT.out 3).trans rfl
          have hcn : wr.cell? ⟨gb, 4, none⟩ = some (.int .i64 a0_4) := (blk_cell BK.out 4).trans rfl
          go_wp2_with (go_at_call 19; refine (num_calls _ (by have := HL.out; omega) (by have := HL.out; omega) _ (EnvT.below HE.out (bl HB))).mono ?_; rintro e w4 ⟨bn, rfl, hbn, hbs, hb⟩
                       have HN := Aside0.mk hbn
                       have HS := Aside0.mk hbs
                       have hq1 : (9223372036854775807 < 1 + bn.size) = False := eq_false (by omega)
                       have hq2 : (9223372036854775807 < b.size + (1 + bn.size)) = False := eq_false (by have := hsz.out; omega)
                       have n0_ := Aside0.mk (below_step (bl HB) hb)
                       have n1_ := bkB BK hb
                       have n2_ := bkB PT hb
                       clear HB hb BK PT hbn hbs
                       have HB := n0_
                       have BK := n1_
                       have PT := n2_
                       clear n0_ n1_ n2_)
          go_roundw
          case rel => exact ⟨4, _, by omega, by go_num, rfl, ⟨by rw [hs.out, HN.out]; rfl⟩, ⟨by have h1 := hsz.out; have h2 := HS.out; have h3 : ((⟨#[32]⟩ : ByteArray)).size = 1 := rfl; simp only [ByteArray.size_append]; omega⟩, ⟨bl HB⟩, ⟨bk BK⟩, ⟨bk PT⟩⟩
          case measure => simp [intOf]
        · have hcp : wr.cell? ⟨N, 4, none⟩ = some (.pointer (some ⟨gb, 5, none⟩)) := (blk_cell PT.out 4).trans rfl
          have hcn : wr.cell? ⟨gb, 5, none⟩ = some (.int .i64 a0_5) := (blk_cell BK.out 5).trans rfl
          go_wp2_with (go_at_call 19; refine (num_calls _ (by have := HL.out; omega) (by have := HL.out; omega) _ (EnvT.below HE.out (bl HB))).mono ?_; rintro e w4 ⟨bn, rfl, hbn, hbs, hb⟩
                       have HN := Aside0.mk hbn
                       have HS := Aside0.mk hbs
                       have hq1 : (9223372036854775807 < 1 + bn.size) = False := eq_false (by omega)
                       have hq2 : (9223372036854775807 < b.size + (1 + bn.size)) = False := eq_false (by have := hsz.out; omega)
                       have n0_ := Aside0.mk (below_step (bl HB) hb)
                       have n1_ := bkB BK hb
                       have n2_ := bkB PT hb
                       clear HB hb BK PT hbn hbs
                       have HB := n0_
                       have BK := n1_
                       have PT := n2_
                       clear n0_ n1_ n2_)
          go_roundw
          case rel => exact ⟨5, _, by omega, by go_num, rfl, ⟨by rw [hs.out, HN.out]; rfl⟩, ⟨by have h1 := hsz.out; have h2 := HS.out; have h3 : ((⟨#[32]⟩ : ByteArray)).size = 1 := rfl; simp only [ByteArray.size_append]; omega⟩, ⟨bl HB⟩, ⟨bk BK⟩, ⟨bk PT⟩⟩
          case measure => simp [intOf]
        · have hcp : wr.cell? ⟨N, 5, none⟩ = some (.pointer (some ⟨gb, 6, none⟩)) := (blk_cell PT.out 5).trans rfl
          have hcn : wr.cell? ⟨gb, 6, none⟩ = some (.int .i64 a0_6) := (blk_cell BK.out 6).trans rfl
          go_wp2_with (go_at_call 19; refine (num_calls _ (by have := HL.out; omega) (by have := HL.out; omega) _ (EnvT.below HE.out (bl HB))).mono ?_; rintro e w4 ⟨bn, rfl, hbn, hbs, hb⟩
                       have HN := Aside0.mk hbn
                       have HS := Aside0.mk hbs
                       have hq1 : (9223372036854775807 < 1 + bn.size) = False := eq_false (by omega)
                       have hq2 : (9223372036854775807 < b.size + (1 + bn.size)) = False := eq_false (by have := hsz.out; omega)
                       have n0_ := Aside0.mk (below_step (bl HB) hb)
                       have n1_ := bkB BK hb
                       have n2_ := bkB PT hb
                       clear HB hb BK PT hbn hbs
                       have HB := n0_
                       have BK := n1_
                       have PT := n2_
                       clear n0_ n1_ n2_)
          go_roundw
          case rel => exact ⟨6, _, by omega, by go_num, rfl, ⟨by rw [hs.out, HN.out]; rfl⟩, ⟨by have h1 := hsz.out; have h2 := HS.out; have h3 : ((⟨#[32]⟩ : ByteArray)).size = 1 := rfl; simp only [ByteArray.size_append]; omega⟩, ⟨bl HB⟩, ⟨bk BK⟩, ⟨bk PT⟩⟩
          case measure => simp [intOf]
        · go_wp2
          go_ret
          exact ⟨by rw [← HH.out, HK.out, hs.out]; rfl, HB.out⟩
end Go.Proofs.YtiocgkggegahhaaDoor.P

/- The contract of impl.RulRead: the rule of a text. -/
namespace Go.Proofs.YtiocgkggegahhaaDoor.P
open Go.RowKit Go.Proofs.YtiocgkggegahhaaDoorUFnExactRulRead.PrintWords Go.Proofs.YtiocgkggegahhaaDoorUFnExactRulRead.PrintLast Go.Proofs.YtiocgkggegahhaaDoorUFnExactRulRead.PrintMore
set_option linter.unusedVariables false
set_option linter.unusedSimpArgs false

def atoiO (s : ByteArray) : Option Int := match Lib.atoiAll s.data.toList with | .ok n => some n | _ => none
theorem atoi_ok (s : ByteArray) (hs : s.size ≤ 281474976710656) (v : Int) (h : atoiO s = some v) (w : World) (hE : Env w) :
    Calls Tryd.prog 23 #[.string s] w fun e w' => e = .returned (.tuple #[.int .i64 v, .nilIface]) ∧ Below w.heap.size w w' := by
  refine (atoi_calls s hs w hE).mono ?_
  rintro e w' ⟨v', ev, rfl, hp, hb⟩
  rcases hp with ⟨h1, rfl⟩ | ⟨h1, _⟩
  · unfold atoiO at h; rw [h1] at h; cases h; exact ⟨rfl, hb⟩
  · unfold atoiO at h
    rcases end_cases (Lib.atoiAll s.data.toList) with ⟨n, h2⟩ | h2 | h2
    · exact absurd h2 (h1 n)
    · rw [h2] at h; cases h
    · rw [h2] at h; cases h
theorem atoi_no (s : ByteArray) (hs : s.size ≤ 281474976710656) (h : atoiO s = none) (w : World) (hE : Env w) :
    Calls Tryd.prog 23 #[.string s] w fun e w' => ∃ v t p, e = .returned (.tuple #[.int .i64 v, .iface t p]) ∧ Below w.heap.size w w' := by
  refine (atoi_calls s hs w hE).mono ?_
  rintro e w' ⟨v', ev, rfl, hp, hb⟩
  rcases hp with ⟨h1, rfl⟩ | ⟨h1, t, p, rfl⟩
  · unfold atoiO at h; rw [h1] at h; cases h
  · exact ⟨_, _, _, rfl, hb⟩
abbrev RR := Bool × Int × Int × Int × Int × Int × Int × Bool
def zeroRR : RR := (false, 0, 0, 0, 0, 0, 0, false)
def rulReadW (s : ByteArray) : List ByteArray → RR
  | [a, b1, b2, b3, b4, b5, b6] =>
    ((atoiO b1).bind fun n1 => (atoiO b2).bind fun n2 => (atoiO b3).bind fun n3 => (atoiO b4).bind fun n4 => (atoiO b5).bind fun n5 => (atoiO b6).bind fun n6 =>
      (impl_RulText.f (decide (a = allowB true)) n1 n2 n3 n4 n5 n6).bind fun t => if t = s then some (decide (a = allowB true), n1, n2, n3, n4, n5, n6, true) else none).getD zeroRR
  | _ => zeroRR
def impl_RulRead.f (s : ByteArray) : Option RR := if s.size ≤ 4000000000 then some (rulReadW s (wordsB s)) else none
theorem rulReadW_ne {s : ByteArray} {l : List ByteArray} (h : l.length ≠ 7) : rulReadW s l = zeroRR := by
  match l with
  | [] | [_] | [_, _] | [_, _, _] | [_, _, _, _] | [_, _, _, _, _] | [_, _, _, _, _, _] => rfl
  | [_, _, _, _, _, _, _] => exact absurd rfl h
  | _ :: _ :: _ :: _ :: _ :: _ :: _ :: _ :: _ => rfl
theorem set_ne {W : World} {g i k : Nat} {v : Value} (hk : k ≠ g) : (W.setCell ⟨g, i, none⟩ v).heap[k]? = W.heap[k]? := Below.heap_setCell W ⟨g, i, none⟩ v k hk
theorem toList_inj {a b : ByteArray} (h : a.toList = b.toList) : a = b := by
  rw [ByteArray.toList_eq, ByteArray.toList_eq] at h
  cases a; cases b; simp at h; rw [h]
theorem allowB_eq (a : ByteArray) : decide (a = allowB true) = (a.toList == [97, 108, 108, 111, 119]) := by
  have e : (allowB true).toList = [97, 108, 108, 111, 119] := by rw [ByteArray.toList_eq]; rfl
  rw [← e]
  by_cases h : a = allowB true
  · subst h; simp
  · have : a.toList ≠ (allowB true).toList := fun e => h (toList_inj e)
    rw [decide_eq_false h, beq_eq_false_iff_ne.mpr this]
/-- The numbers that words read as, so far. -/
def readL : List ByteArray → List Int → Prop
  | _, [] => True
  | [], _ :: _ => False
  | b :: bs, n :: ns => atoiO b = some n ∧ readL bs ns
def rulC (al : Bool) (ns : List Int) : Array Value := #[.bool al, .int .i64 (ns.getD 0 0), .int .i64 (ns.getD 1 0), .int .i64 (ns.getD 2 0), .int .i64 (ns.getD 3 0), .int .i64 (ns.getD 4 0), .int .i64 (ns.getD 5 0)]
theorem retZ {r1 : Bool} {r2 r3 r4 r5 r6 r7 : Int} {r8 : Bool} (h : zeroRR = (r1, r2, r3, r4, r5, r6, r7, r8)) :
    Ending.returned (.tuple #[.agg #[.bool false, .int .i64 0, .int .i64 0, .int .i64 0, .int .i64 0, .int .i64 0, .int .i64 0], .bool false]) = .returned (.tuple #[.agg #[.bool r1, .int .i64 r2, .int .i64 r3, .int .i64 r4, .int .i64 r5, .int .i64 r6, .int .i64 r7], .bool r8]) := by
  cases h; rfl
theorem retV {r1 : Bool} {r2 r3 r4 r5 r6 r7 : Int} {r8 al : Bool} {n1 n2 n3 n4 n5 n6 : Int} (h : (al, n1, n2, n3, n4, n5, n6, true) = (r1, r2, r3, r4, r5, r6, r7, r8)) :
    Ending.returned (.tuple #[.agg #[.bool al, .int .i64 n1, .int .i64 n2, .int .i64 n3, .int .i64 n4, .int .i64 n5, .int .i64 n6], .bool true]) = .returned (.tuple #[.agg #[.bool r1, .int .i64 r2, .int .i64 r3, .int .i64 r4, .int .i64 r5, .int .i64 r6, .int .i64 r7], .bool r8]) := by
  cases h; rfl
theorem splitB_size (sep : ByteArray) : ∀ (k : Nat) (s : ByteArray), ∀ x ∈ Lib.splitB sep 0 k s, x.size ≤ s.size
  | 0, s, x, h => by simp [Lib.splitB] at h; subst h; exact Nat.le_refl _
  | k + 1, s, x, h => by
    unfold Lib.splitB at h
    split at h
    · simp at h; subst h; exact Nat.le_refl _
    · rcases List.mem_cons.1 h with rfl | h
      · simp [ByteArray.size_extract]; omega
      · have := splitB_size sep k _ x h
        simp [ByteArray.size_extract] at this
        omega
theorem wordsB_size (s : ByteArray) : ∀ x ∈ wordsB s, x.size ≤ s.size := splitB_size _ _ s
/-- A rule stored into its own block. -/
theorem put7 {W : World} {g : Nat} {t : TypeId} {c0 c1 c2 c3 c4 c5 c6 : Value} (h : W.heap[g]? = some (.cells #[c0, c1, c2, c3, c4, c5, c6] t (0, 0))) (v0 v1 v2 v3 v4 v5 v6 : Value) {W' : World}
    (hw : W' = (((((((W.setCell ⟨g, 0, none⟩ v0).setCell ⟨g, 1, none⟩ v1).setCell ⟨g, 2, none⟩ v2).setCell ⟨g, 3, none⟩ v3).setCell ⟨g, 4, none⟩ v4).setCell ⟨g, 5, none⟩ v5).setCell ⟨g, 6, none⟩ v6)) :
    W'.heap[g]? = some (.cells #[v0, v1, v2, v3, v4, v5, v6] t (0, 0)) ∧ (∀ k, k ≠ g → W'.heap[k]? = W.heap[k]?) ∧ (∀ w : World, w.heap.size ≤ g → Below w.heap.size w W → Below w.heap.size w W') := by
  subst hw
  refine ⟨?_, ?_, ?_⟩
  · refine blk_put (cs := #[v0, v1, v2, v3, v4, v5, c6]) ?_ 6 _ rfl
    refine blk_put (cs := #[v0, v1, v2, v3, v4, c5, c6]) ?_ 5 _ rfl
    refine blk_put (cs := #[v0, v1, v2, v3, c4, c5, c6]) ?_ 4 _ rfl
    refine blk_put (cs := #[v0, v1, v2, c3, c4, c5, c6]) ?_ 3 _ rfl
    refine blk_put (cs := #[v0, v1, c2, c3, c4, c5, c6]) ?_ 2 _ rfl
    refine blk_put (cs := #[v0, c1, c2, c3, c4, c5, c6]) ?_ 1 _ rfl
    exact blk_put h 0 _ rfl
  · intro k hk
    simp only [set_ne hk]
  · intro w hg hb
    exact below_set (below_set (below_set (below_set (below_set (below_set (below_set hb hg) hg) hg) hg) hg) hg) hg
theorem put1 {W : World} {g : Nat} {t : TypeId} {cs : Array Value} (h : W.heap[g]? = some (.cells cs t (0, 0))) (i : Nat) (v : Value) {W' : World}
    (hw : W' = W.setCell ⟨g, i, none⟩ v) :
    W'.heap[g]? = some (.cells (cs.setIfInBounds i v) t (0, 0)) ∧ (∀ k, k ≠ g → W'.heap[k]? = W.heap[k]?) ∧ (∀ w : World, w.heap.size ≤ g → Below w.heap.size w W → Below w.heap.size w W') := by
  subst hw
  refine ⟨blk_set h i v, ?_, ?_⟩
  · intro k hk
    simp only [set_ne hk]
  · intro w hg hb
    exact below_set hb hg
set_option maxHeartbeats 8000000 in
set_option maxRecDepth 100000 in
theorem impl_RulRead.calls (a0 : ByteArray) (r1 : Bool) (r2 : Int) (r3 : Int) (r4 : Int) (r5 : Int) (r6 : Int) (r7 : Int) (r8 : Bool) (w : World) (h : impl_RulRead.f a0 = some (r1, r2, r3, r4, r5, r6, r7, r8)) (hE : Env w) :
    Calls Tryd.prog 10 #[.string a0] w fun e w' => e = .returned (.tuple #[.agg #[.bool r1, .int .i64 r2, .int .i64 r3, .int .i64 r4, .int .i64 r5, .int .i64 r6, .int .i64 r7], .bool r8]) ∧ Below w.heap.size w w' := by
  unfold impl_RulRead.f at h
  have hs : a0.size ≤ 4000000000 := by
    by_cases hs : a0.size ≤ 4000000000
    · exact hs
    · rw [if_neg hs] at h; cases h
  rw [if_pos hs] at h
  have HH := Aside0.mk (Option.some.inj h)
  have HS := Aside0.mk hs
  have HE := Aside0.mk hE
  clear h hE hs
  have HB := Aside0.mk (Below.refl w.heap.size w)
  have hu := Tryd.underlying25
  have hW1 : 1 ≤ (wordsB a0).length := by rw [wordsB_length]; omega
  obtain ⟨ws, hws⟩ : ∃ ws, wordsB a0 = ws := ⟨_, rfl⟩
  have HW := Aside0.mk hws
  rw [hws] at hW1
  clear hws
  obtain ⟨a, wt, rfl⟩ : ∃ a wr, ws = a :: wr := by cases ws with | nil => simp at hW1 | cons a wr => exact ⟨a, wr, rfl⟩
  clear hW1
  obtain ⟨al, hal⟩ : ∃ al, (a.toList == [97, 108, 108, 111, 119]) = al := ⟨_, rfl⟩
  have AL : Aside0 (decide (a = allowB true) = al) := ⟨by rw [← hal, allowB_eq]⟩
  go_enter Tryd.func10, Tryd.ntmps10
  go_wp2_with (first
      | ((with_reducible refine gate_dst (N := 2) rfl ?_)
         refine box_event ?hg (N := 2) ?hd (cs := #[.bool false, .int .i64 0, .int .i64 0, .int .i64 0, .int .i64 0, .int .i64 0, .int .i64 0]) (t := 25) ?hr ?_
         (case hd => rfl)
         (case hg => rfl)
         (case hr => first | (go_simp; done) | (go_simp; rfl))
         intro g2 hg w1 hbox hb
         have n0_ := Aside0.mk (below_step (bl HB) hb)
         have GE2 : Aside0 (w.heap.size ≤ g2) := ⟨by rw [hg]; exact below_size (bl HB)⟩
         have BK2 := Aside0.mk hbox
         clear HB hb hbox hg
         have HB := n0_
         clear n0_)
      | (go_at_call 22; refine (split_calls _ (by have := HS.out; omega) _ (Env.below HE.out (bl HB))).mono ?_; rw [HW.out]; rintro e w2 ⟨N, rfl, hsp, hb⟩
         have n0_ := Aside0.mk (below_step (bl HB) hb)
         have n1_ := bkB BK2 hb
         have SP := Aside0.mk hsp
         have hca : w2.cell? ⟨N, 0, none⟩ = some (.string a) := (blk_cell hsp 0).trans rfl
         clear HB hb BK2 hsp
         have HB := n0_
         have BK2 := n1_
         clear n0_ n1_)
      | ((with_reducible refine gate_dst (N := 5) rfl ?_)
         refine box_event ?hg (N := 5) ?hd (cs := #[.bool false, .int .i64 0, .int .i64 0, .int .i64 0, .int .i64 0, .int .i64 0, .int .i64 0]) (t := 25) ?hr ?_
         (case hd => rfl)
         (case hg => rfl)
         (case hr => first | (go_simp; done) | (go_simp; rfl))
         intro g5 hg w3 hbox hb
         have n0_ := Aside0.mk (below_step (bl HB) hb)
         have GE5 : Aside0 (w.heap.size ≤ g5) := ⟨by rw [hg]; exact below_size (bl HB)⟩
         have n1_ := bkB BK2 hb
         have n2_ := bkB SP hb
         have BK5 := Aside0.mk hbox
         have NE25 : Aside0 (g2 ≠ g5) := ⟨by rw [hg]; have := bkL BK2; omega⟩
         have NES5 : Aside0 (N ≠ g5) := ⟨by rw [hg]; have := bkL SP; omega⟩
         have hz0 := (blk_cell hbox 0).trans rfl
         have hz1 := (blk_cell hbox 1).trans rfl
         have hz2 := (blk_cell hbox 2).trans rfl
         have hz3 := (blk_cell hbox 3).trans rfl
         have hz4 := (blk_cell hbox 4).trans rfl
         have hz5 := (blk_cell hbox 5).trans rfl
         have hz6 := (blk_cell hbox 6).trans rfl
         have hf0 := blk_frozen hbox 0
         have hf1 := blk_frozen hbox 1
         have hf2 := blk_frozen hbox 2
         have hf3 := blk_frozen hbox 3
         have hf4 := blk_frozen hbox 4
         have hf5 := blk_frozen hbox 5
         have hf6 := blk_frozen hbox 6
         clear HB hb BK2 SP hbox hg
         have HB := n0_
         have BK2 := n1_
         have SP := n2_
         clear n0_ n1_ n2_)
      | (go_at_call 18; refine (bounds_calls _ _).mono ?_; rintro e w5 ⟨NP, rfl, hNP, hbk, hb⟩
         have hp := put7 BK5.out (.bool al) (.int .i64 0) (.int .i64 0) (.int .i64 0) (.int .i64 0) (.int .i64 0) (.int .i64 0) rfl
         have n0_ := Aside0.mk (below_step (hp.2.2 w GE5.out HB.out) hb)
         have n1_ := Aside0.mk (blk_below ((hp.2.1 _ NE25.out).trans BK2.out) hb)
         have n2_ := Aside0.mk (blk_below ((hp.2.1 _ NES5.out).trans SP.out) hb)
         have n3_ := Aside0.mk (blk_below hp.1 hb)
         have hx0 := (blk_cell n1_.out 0).trans rfl
         have hx1 := (blk_cell n1_.out 1).trans rfl
         have hx2 := (blk_cell n1_.out 2).trans rfl
         have hx3 := (blk_cell n1_.out 3).trans rfl
         have hx4 := (blk_cell n1_.out 4).trans rfl
         have hx5 := (blk_cell n1_.out 5).trans rfl
         have hx6 := (blk_cell n1_.out 6).trans rfl
         have hy0 := blk_frozen n1_.out 0
         have hy1 := blk_frozen n1_.out 1
         have hy2 := blk_frozen n1_.out 2
         have hy3 := blk_frozen n1_.out 3
         have hy4 := blk_frozen n1_.out 4
         have hy5 := blk_frozen n1_.out 5
         have hy6 := blk_frozen n1_.out 6
         have PT := Aside0.mk hbk
         have NEP5 : Aside0 (NP ≠ g5) := ⟨by have := blk_lt hp.1; omega⟩
         clear HB hb BK5 BK2 SP hbk hNP hp hz0 hz1 hz2 hz3 hz4 hz5 hz6 hf0 hf1 hf2 hf3 hf4 hf5 hf6
         have HB := n0_
         have BK2 := n1_
         have SP := n2_
         have BK5 := n3_
         clear n0_ n1_ n2_ n3_))
  -- MARK
  · have hl : wt.length ≠ 6 := by
      intro h6
      rename_i hne
      rw [h6] at hne
      exact absurd hne (by decide)
    have hp2 := put7 BK2.out (.bool false) (.int .i64 0) (.int .i64 0) (.int .i64 0) (.int .i64 0) (.int .i64 0) (.int .i64 0) rfl
    refine bodyPost_ret (results_ct rfl _ _ g2 25 #[.bool false, .int .i64 0, .int .i64 0, .int .i64 0, .int .i64 0, .int .i64 0, .int .i64 0] (0, 0) _ rfl hp2.1 Tryd.underlying25 rfl (by kernel_rfl)) rfl ?_
    exact ⟨retZ (by rw [← HH.out, HW.out]; exact (rulReadW_ne (by simpa using hl)).symm), hp2.2.2 w GE2.out HB.out⟩
  · have hl : wt.length = 6 := by
      have hne : (((wt.length : Int) + 1) != 7) = false := by assumption
      have := bne_eq_false_iff_eq.mp hne
      omega
    clear hx0 hx1 hx2 hx3 hx4 hx5 hx6 hy0 hy1 hy2 hy3 hy4 hy5 hy6
    obtain ⟨b1, b2, b3, b4, b5, b6, rfl⟩ : ∃ b1 b2 b3 b4 b5 b6, wt = [b1, b2, b3, b4, b5, b6] := by
      match wt, hl with
      | [b1, b2, b3, b4, b5, b6], _ => exact ⟨b1, b2, b3, b4, b5, b6, rfl⟩
    have HZ : ∀ b ∈ ([b1, b2, b3, b4, b5, b6] : List ByteArray), b.size ≤ 281474976710656 := fun b hb => Nat.le_trans (wordsB_size a0 b (by rw [HW.out]; exact List.mem_cons_of_mem _ hb)) (by have := HS.out; omega)
    have HR := Aside0.mk (show rulReadW a0 [a, b1, b2, b3, b4, b5, b6] = _ from HW.out ▸ HH.out)
    have HZ := Aside0.mk HZ
    clear HH HW hl
    go_loopw [28] (fun i wr => ∃ (k : Nat) (ns : List Int), k ≤ 6 ∧ i = .int .i64 k ∧ ns.length = k ∧ Aside0 (readL [b1, b2, b3, b4, b5, b6] ns) ∧ Aside0 (Below w.heap.size w wr) ∧ Aside0 (wr.heap[g2]? = some (.cells #[.bool false, .int .i64 0, .int .i64 0, .int .i64 0, .int .i64 0, .int .i64 0, .int .i64 0] 25 (0, 0))) ∧ Aside0 (wr.heap[N]? = some (.cells ((List.map Value.string [a, b1, b2, b3, b4, b5, b6]).toArray) 9 (0, 0))) ∧ Aside0 (wr.heap[g5]? = some (.cells (rulC al ns) 25 (0, 0))) ∧ Aside0 (wr.heap[NP]? = some (.cells (ptrs6 g5) 42 (0, 0)))) (fun i _ => 6 - (intOf i).toNat)
    case atStart => exact ⟨0, [], Nat.zero_le _, rfl, rfl, ⟨trivial⟩, HB, BK2, SP, BK5, PT⟩
    case round =>
      clear HB BK2 SP BK5 PT
      obtain ⟨k, ns, hk, rfl, hlen, HN, HB, BK2, SP, BK5, PT⟩ := hrel
      have hk7 : k = 0 ∨ k = 1 ∨ k = 2 ∨ k = 3 ∨ k = 4 ∨ k = 5 ∨ k = 6 := by omega
      clear hk
      rcases hk7 with rfl | rfl | rfl | rfl | rfl | rfl | rfl
      · obtain rfl : ns = [] := List.eq_nil_of_length_eq_zero hlen
        clear hlen
        have hcp : wr.cell? ⟨NP, 0, none⟩ = some (.pointer (some ⟨g5, 1, none⟩)) := (blk_cell PT.out 0).trans rfl
        have hcs : wr.cell? ⟨N, 1, none⟩ = some (.string b1) := (blk_cell SP.out 1).trans rfl
        cases ha : atoiO b1 with
        | none =>
          have HA := Aside0.mk ha
          clear ha
          go_wp2_with (go_at_call 23; refine (atoi_no _ (HZ.out _ (by simp)) HA.out _ (Env.below HE.out (bl HB))).mono ?_; rintro e w4 ⟨v, te, pe, rfl, hb⟩
                       have n0_ := Aside0.mk (below_step (bl HB) hb)
                       have n1_ := bkB BK2 hb
                       clear HB BK2 hb
                       have HB := n0_
                       have BK2 := n1_
                       clear n0_ n1_
                       have hxc0 := (blk_cell BK2.out 0).trans rfl
                       have hxf0 := blk_frozen BK2.out 0
                       have hxc1 := (blk_cell BK2.out 1).trans rfl
                       have hxf1 := blk_frozen BK2.out 1
                       have hxc2 := (blk_cell BK2.out 2).trans rfl
                       have hxf2 := blk_frozen BK2.out 2
                       have hxc3 := (blk_cell BK2.out 3).trans rfl
                       have hxf3 := blk_frozen BK2.out 3
                       have hxc4 := (blk_cell BK2.out 4).trans rfl
                       have hxf4 := blk_frozen BK2.out 4
                       have hxc5 := (blk_cell BK2.out 5).trans rfl
                       have hxf5 := blk_frozen BK2.out 5
                       have hxc6 := (blk_cell BK2.out 6).trans rfl
                       have hxf6 := blk_frozen BK2.out 6)
          have hp2 := put7 BK2.out (.bool false) (.int .i64 0) (.int .i64 0) (.int .i64 0) (.int .i64 0) (.int .i64 0) (.int .i64 0) rfl
          refine bodyPost_ret (results_ct rfl _ _ g2 25 #[.bool false, .int .i64 0, .int .i64 0, .int .i64 0, .int .i64 0, .int .i64 0, .int .i64 0] (0, 0) _ rfl hp2.1 Tryd.underlying25 rfl (by kernel_rfl)) rfl ?_
          exact ⟨retZ (by rw [← HR.out]; have h_ := HN.out; simp only [readL] at h_; simp [rulReadW, HA.out, h_]), hp2.2.2 w GE2.out HB.out⟩
        | some n =>
          have HA := Aside0.mk ha
          clear ha
          go_wp2_with (go_at_call 23; refine (atoi_ok _ (HZ.out _ (by simp)) n HA.out _ (Env.below HE.out (bl HB))).mono ?_; rintro e w4 ⟨rfl, hb⟩
                       have n0_ := Aside0.mk (below_step (bl HB) hb)
                       have n1_ := bkB BK2 hb
                       have n2_ := bkB SP hb
                       have n3_ := bkB BK5 hb
                       have n4_ := bkB PT hb
                       clear HB BK2 SP BK5 PT hb
                       have HB := n0_
                       have BK2 := n1_
                       have SP := n2_
                       have BK5 := n3_
                       have PT := n4_
                       clear n0_ n1_ n2_ n3_ n4_
                       have hxc := (blk_cell BK5.out 1).trans rfl
                       have hxf := blk_frozen BK5.out 1)
          have hp5 := put1 BK5.out 1 (.int .i64 n) rfl
          go_roundw
          case rel => (repeat apply Exists.intro); refine ⟨?_, rfl⟩; exact ⟨1, [n], by omega, by go_num, rfl, ⟨by have h_ := HN.out; simp only [readL] at h_; simp [readL, HA.out, h_]⟩, ⟨hp5.2.2 w GE5.out HB.out⟩, ⟨(hp5.2.1 _ NE25.out).trans BK2.out⟩, ⟨(hp5.2.1 _ NES5.out).trans SP.out⟩, ⟨hp5.1⟩, ⟨(hp5.2.1 _ NEP5.out).trans PT.out⟩⟩
          case measure => simp [intOf]
      · obtain ⟨n1, rfl⟩ : ∃ n1, ns = [n1] := by
            match ns, hlen with
            | [n1], _ => exact ⟨n1, rfl⟩
        clear hlen
        have hcp : wr.cell? ⟨NP, 1, none⟩ = some (.pointer (some ⟨g5, 2, none⟩)) := (blk_cell PT.out 1).trans rfl
        have hcs : wr.cell? ⟨N, 2, none⟩ = some (.string b2) := (blk_cell SP.out 2).trans rfl
        cases ha : atoiO b2 with
        | none =>
          have HA := Aside0.mk ha
          clear ha
          go_wp2_with (go_at_call 23; refine (atoi_no _ (HZ.out _ (by simp)) HA.out _ (Env.below HE.out (bl HB))).mono ?_; rintro e w4 ⟨v, te, pe, rfl, hb⟩
                       have n0_ := Aside0.mk (below_step (bl HB) hb)
                       have n1_ := bkB BK2 hb
                       clear HB BK2 hb
                       have HB := n0_
                       have BK2 := n1_
                       clear n0_ n1_
                       have hxc0 := (blk_cell BK2.out 0).trans rfl
                       have hxf0 := blk_frozen BK2.out 0
                       have hxc1 := (blk_cell BK2.out 1).trans rfl
                       have hxf1 := blk_frozen BK2.out 1
                       have hxc2 := (blk_cell BK2.out 2).trans rfl
                       have hxf2 := blk_frozen BK2.out 2
                       have hxc3 := (blk_cell BK2.out 3).trans rfl
                       have hxf3 := blk_frozen BK2.out 3
                       have hxc4 := (blk_cell BK2.out 4).trans rfl
                       have hxf4 := blk_frozen BK2.out 4
                       have hxc5 := (blk_cell BK2.out 5).trans rfl
                       have hxf5 := blk_frozen BK2.out 5
                       have hxc6 := (blk_cell BK2.out 6).trans rfl
                       have hxf6 := blk_frozen BK2.out 6)
          have hp2 := put7 BK2.out (.bool false) (.int .i64 0) (.int .i64 0) (.int .i64 0) (.int .i64 0) (.int .i64 0) (.int .i64 0) rfl
          refine bodyPost_ret (results_ct rfl _ _ g2 25 #[.bool false, .int .i64 0, .int .i64 0, .int .i64 0, .int .i64 0, .int .i64 0, .int .i64 0] (0, 0) _ rfl hp2.1 Tryd.underlying25 rfl (by kernel_rfl)) rfl ?_
          exact ⟨retZ (by rw [← HR.out]; have h_ := HN.out; simp only [readL] at h_; simp [rulReadW, HA.out, h_]), hp2.2.2 w GE2.out HB.out⟩
        | some n =>
          have HA := Aside0.mk ha
          clear ha
          go_wp2_with (go_at_call 23; refine (atoi_ok _ (HZ.out _ (by simp)) n HA.out _ (Env.below HE.out (bl HB))).mono ?_; rintro e w4 ⟨rfl, hb⟩
                       have n0_ := Aside0.mk (below_step (bl HB) hb)
                       have n1_ := bkB BK2 hb
                       have n2_ := bkB SP hb
                       have n3_ := bkB BK5 hb
                       have n4_ := bkB PT hb
                       clear HB BK2 SP BK5 PT hb
                       have HB := n0_
                       have BK2 := n1_
                       have SP := n2_
                       have BK5 := n3_
                       have PT := n4_
                       clear n0_ n1_ n2_ n3_ n4_
                       have hxc := (blk_cell BK5.out 2).trans rfl
                       have hxf := blk_frozen BK5.out 2)
          have hp5 := put1 BK5.out 2 (.int .i64 n) rfl
          go_roundw
          case rel => (repeat apply Exists.intro); refine ⟨?_, rfl⟩; exact ⟨2, [n1, n], by omega, by go_num, rfl, ⟨by have h_ := HN.out; simp only [readL] at h_; simp [readL, HA.out, h_]⟩, ⟨hp5.2.2 w GE5.out HB.out⟩, ⟨(hp5.2.1 _ NE25.out).trans BK2.out⟩, ⟨(hp5.2.1 _ NES5.out).trans SP.out⟩, ⟨hp5.1⟩, ⟨(hp5.2.1 _ NEP5.out).trans PT.out⟩⟩
          case measure => simp [intOf]
      · obtain ⟨n1, n2, rfl⟩ : ∃ n1 n2, ns = [n1, n2] := by
            match ns, hlen with
            | [n1, n2], _ => exact ⟨n1, n2, rfl⟩
        clear hlen
        have hcp : wr.cell? ⟨NP, 2, none⟩ = some (.pointer (some ⟨g5, 3, none⟩)) := (blk_cell PT.out 2).trans rfl
        have hcs : wr.cell? ⟨N, 3, none⟩ = some (.string b3) := (blk_cell SP.out 3).trans rfl
        cases ha : atoiO b3 with
        | none =>
          have HA := Aside0.mk ha
          clear ha
          go_wp2_with (go_at_call 23; refine (atoi_no _ (HZ.out _ (by simp)) HA.out _ (Env.below HE.out (bl HB))).mono ?_; rintro e w4 ⟨v, te, pe, rfl, hb⟩
                       have n0_ := Aside0.mk (below_step (bl HB) hb)
                       have n1_ := bkB BK2 hb
                       clear HB BK2 hb
                       have HB := n0_
                       have BK2 := n1_
                       clear n0_ n1_
                       have hxc0 := (blk_cell BK2.out 0).trans rfl
                       have hxf0 := blk_frozen BK2.out 0
                       have hxc1 := (blk_cell BK2.out 1).trans rfl
                       have hxf1 := blk_frozen BK2.out 1
                       have hxc2 := (blk_cell BK2.out 2).trans rfl
                       have hxf2 := blk_frozen BK2.out 2
                       have hxc3 := (blk_cell BK2.out 3).trans rfl
                       have hxf3 := blk_frozen BK2.out 3
                       have hxc4 := (blk_cell BK2.out 4).trans rfl
                       have hxf4 := blk_frozen BK2.out 4
                       have hxc5 := (blk_cell BK2.out 5).trans rfl
                       have hxf5 := blk_frozen BK2.out 5
                       have hxc6 := (blk_cell BK2.out 6).trans rfl
                       have hxf6 := blk_frozen BK2.out 6)
          have hp2 := put7 BK2.out (.bool false) (.int .i64 0) (.int .i64 0) (.int .i64 0) (.int .i64 0) (.int .i64 0) (.int .i64 0) rfl
          refine bodyPost_ret (results_ct rfl _ _ g2 25 #[.bool false, .int .i64 0, .int .i64 0, .int .i64 0, .int .i64 0, .int .i64 0, .int .i64 0] (0, 0) _ rfl hp2.1 Tryd.underlying25 rfl (by kernel_rfl)) rfl ?_
          exact ⟨retZ (by rw [← HR.out]; have h_ := HN.out; simp only [readL] at h_; simp [rulReadW, HA.out, h_]), hp2.2.2 w GE2.out HB.out⟩
        | some n =>
          have HA := Aside0.mk ha
          clear ha
          go_wp2_with (go_at_call 23; refine (atoi_ok _ (HZ.out _ (by simp)) n HA.out _ (Env.below HE.out (bl HB))).mono ?_; rintro e w4 ⟨rfl, hb⟩
                       have n0_ := Aside0.mk (below_step (bl HB) hb)
                       have n1_ := bkB BK2 hb
                       have n2_ := bkB SP hb
                       have n3_ := bkB BK5 hb
                       have n4_ := bkB PT hb
                       clear HB BK2 SP BK5 PT hb
                       have HB := n0_
                       have BK2 := n1_
                       have SP := n2_
                       have BK5 := n3_
                       have PT := n4_
                       clear n0_ n1_ n2_ n3_ n4_
                       have hxc := (blk_cell BK5.out 3).trans rfl
                       have hxf := blk_frozen BK5.out 3)
          have hp5 := put1 BK5.out 3 (.int .i64 n) rfl
          go_roundw
          case rel => (repeat apply Exists.intro); refine ⟨?_, rfl⟩; exact ⟨3, [n1, n2, n], by omega, by go_num, rfl, ⟨by have h_ := HN.out; simp only [readL] at h_; simp [readL, HA.out, h_]⟩, ⟨hp5.2.2 w GE5.out HB.out⟩, ⟨(hp5.2.1 _ NE25.out).trans BK2.out⟩, ⟨(hp5.2.1 _ NES5.out).trans SP.out⟩, ⟨hp5.1⟩, ⟨(hp5.2.1 _ NEP5.out).trans PT.out⟩⟩
          case measure => simp [intOf]
      · obtain ⟨n1, n2, n3, rfl⟩ : ∃ n1 n2 n3, ns = [n1, n2, n3] := by
            match ns, hlen with
            | [n1, n2, n3], _ => exact ⟨n1, n2, n3, rfl⟩
        clear hlen
        have hcp : wr.cell? ⟨NP, 3, none⟩ = some (.pointer (some ⟨g5, 4, none⟩)) := (blk_cell PT.out 3).trans rfl
        have hcs : wr.cell? ⟨N, 4, none⟩ = some (.string b4) := (blk_cell SP.out 4).trans rfl
        cases ha : atoiO b4 with
        | none =>
          have HA := Aside0.mk ha
          clear ha
          go_wp2_with (go_at_call 23; refine (atoi_no _ (HZ.out _ (by simp)) HA.out _ (Env.below HE.out (bl HB))).mono ?_; rintro e w4 ⟨v, te, pe, rfl, hb⟩
                       have n0_ := Aside0.mk (below_step (bl HB) hb)
                       have n1_ := bkB BK2 hb
                       clear HB BK2 hb
                       have HB := n0_
                       have BK2 := n1_
                       clear n0_ n1_
                       have hxc0 := (blk_cell BK2.out 0).trans rfl
                       have hxf0 := blk_frozen BK2.out 0
                       have hxc1 := (blk_cell BK2.out 1).trans rfl
                       have hxf1 := blk_frozen BK2.out 1
                       have hxc2 := (blk_cell BK2.out 2).trans rfl
                       have hxf2 := blk_frozen BK2.out 2
                       have hxc3 := (blk_cell BK2.out 3).trans rfl
                       have hxf3 := blk_frozen BK2.out 3
                       have hxc4 := (blk_cell BK2.out 4).trans rfl
                       have hxf4 := blk_frozen BK2.out 4
                       have hxc5 := (blk_cell BK2.out 5).trans rfl
                       have hxf5 := blk_frozen BK2.out 5
                       have hxc6 := (blk_cell BK2.out 6).trans rfl
                       have hxf6 := blk_frozen BK2.out 6)
          have hp2 := put7 BK2.out (.bool false) (.int .i64 0) (.int .i64 0) (.int .i64 0) (.int .i64 0) (.int .i64 0) (.int .i64 0) rfl
          refine bodyPost_ret (results_ct rfl _ _ g2 25 #[.bool false, .int .i64 0, .int .i64 0, .int .i64 0, .int .i64 0, .int .i64 0, .int .i64 0] (0, 0) _ rfl hp2.1 Tryd.underlying25 rfl (by kernel_rfl)) rfl ?_
          exact ⟨retZ (by rw [← HR.out]; have h_ := HN.out; simp only [readL] at h_; simp [rulReadW, HA.out, h_]), hp2.2.2 w GE2.out HB.out⟩
        | some n =>
          have HA := Aside0.mk ha
          clear ha
          go_wp2_with (go_at_call 23; refine (atoi_ok _ (HZ.out _ (by simp)) n HA.out _ (Env.below HE.out (bl HB))).mono ?_; rintro e w4 ⟨rfl, hb⟩
                       have n0_ := Aside0.mk (below_step (bl HB) hb)
                       have n1_ := bkB BK2 hb
                       have n2_ := bkB SP hb
                       have n3_ := bkB BK5 hb
                       have n4_ := bkB PT hb
                       clear HB BK2 SP BK5 PT hb
                       have HB := n0_
                       have BK2 := n1_
                       have SP := n2_
                       have BK5 := n3_
                       have PT := n4_
                       clear n0_ n1_ n2_ n3_ n4_
                       have hxc := (blk_cell BK5.out 4).trans rfl
                       have hxf := blk_frozen BK5.out 4)
          have hp5 := put1 BK5.out 4 (.int .i64 n) rfl
          go_roundw
          case rel => (repeat apply Exists.intro); refine ⟨?_, rfl⟩; exact ⟨4, [n1, n2, n3, n], by omega, by go_num, rfl, ⟨by have h_ := HN.out; simp only [readL] at h_; simp [readL, HA.out, h_]⟩, ⟨hp5.2.2 w GE5.out HB.out⟩, ⟨(hp5.2.1 _ NE25.out).trans BK2.out⟩, ⟨(hp5.2.1 _ NES5.out).trans SP.out⟩, ⟨hp5.1⟩, ⟨(hp5.2.1 _ NEP5.out).trans PT.out⟩⟩
          case measure => simp [intOf]
      · obtain ⟨n1, n2, n3, n4, rfl⟩ : ∃ n1 n2 n3 n4, ns = [n1, n2, n3, n4] := by
            match ns, hlen with
            | [n1, n2, n3, n4], _ => exact ⟨n1, n2, n3, n4, rfl⟩
        clear hlen
        have hcp : wr.cell? ⟨NP, 4, none⟩ = some (.pointer (some ⟨g5, 5, none⟩)) := (blk_cell PT.out 4).trans rfl
        have hcs : wr.cell? ⟨N, 5, none⟩ = some (.string b5) := (blk_cell SP.out 5).trans rfl
        cases ha : atoiO b5 with
        | none =>
          have HA := Aside0.mk ha
          clear ha
          go_wp2_with (go_at_call 23; refine (atoi_no _ (HZ.out _ (by simp)) HA.out _ (Env.below HE.out (bl HB))).mono ?_; rintro e w4 ⟨v, te, pe, rfl, hb⟩
                       have n0_ := Aside0.mk (below_step (bl HB) hb)
                       have n1_ := bkB BK2 hb
                       clear HB BK2 hb
                       have HB := n0_
                       have BK2 := n1_
                       clear n0_ n1_
                       have hxc0 := (blk_cell BK2.out 0).trans rfl
                       have hxf0 := blk_frozen BK2.out 0
                       have hxc1 := (blk_cell BK2.out 1).trans rfl
                       have hxf1 := blk_frozen BK2.out 1
                       have hxc2 := (blk_cell BK2.out 2).trans rfl
                       have hxf2 := blk_frozen BK2.out 2
                       have hxc3 := (blk_cell BK2.out 3).trans rfl
                       have hxf3 := blk_frozen BK2.out 3
                       have hxc4 := (blk_cell BK2.out 4).trans rfl
                       have hxf4 := blk_frozen BK2.out 4
                       have hxc5 := (blk_cell BK2.out 5).trans rfl
                       have hxf5 := blk_frozen BK2.out 5
                       have hxc6 := (blk_cell BK2.out 6).trans rfl
                       have hxf6 := blk_frozen BK2.out 6)
          have hp2 := put7 BK2.out (.bool false) (.int .i64 0) (.int .i64 0) (.int .i64 0) (.int .i64 0) (.int .i64 0) (.int .i64 0) rfl
          refine bodyPost_ret (results_ct rfl _ _ g2 25 #[.bool false, .int .i64 0, .int .i64 0, .int .i64 0, .int .i64 0, .int .i64 0, .int .i64 0] (0, 0) _ rfl hp2.1 Tryd.underlying25 rfl (by kernel_rfl)) rfl ?_
          exact ⟨retZ (by rw [← HR.out]; have h_ := HN.out; simp only [readL] at h_; simp [rulReadW, HA.out, h_]), hp2.2.2 w GE2.out HB.out⟩
        | some n =>
          have HA := Aside0.mk ha
          clear ha
          go_wp2_with (go_at_call 23; refine (atoi_ok _ (HZ.out _ (by simp)) n HA.out _ (Env.below HE.out (bl HB))).mono ?_; rintro e w4 ⟨rfl, hb⟩
                       have n0_ := Aside0.mk (below_step (bl HB) hb)
                       have n1_ := bkB BK2 hb
                       have n2_ := bkB SP hb
                       have n3_ := bkB BK5 hb
                       have n4_ := bkB PT hb
                       clear HB BK2 SP BK5 PT hb
                       have HB := n0_
                       have BK2 := n1_
                       have SP := n2_
                       have BK5 := n3_
                       have PT := n4_
                       clear n0_ n1_ n2_ n3_ n4_
                       have hxc := (blk_cell BK5.out 5).trans rfl
                       have hxf := blk_frozen BK5.out 5)
          have hp5 := put1 BK5.out 5 (.int .i64 n) rfl
          go_roundw
          case rel => (repeat apply Exists.intro); refine ⟨?_, rfl⟩; exact ⟨5, [n1, n2, n3, n4, n], by omega, by go_num, rfl, ⟨by have h_ := HN.out; simp only [readL] at h_; simp [readL, HA.out, h_]⟩, ⟨hp5.2.2 w GE5.out HB.out⟩, ⟨(hp5.2.1 _ NE25.out).trans BK2.out⟩, ⟨(hp5.2.1 _ NES5.out).trans SP.out⟩, ⟨hp5.1⟩, ⟨(hp5.2.1 _ NEP5.out).trans PT.out⟩⟩
          case measure => simp [intOf]
      · obtain ⟨n1, n2, n3, n4, n5, rfl⟩ : ∃ n1 n2 n3 n4 n5, ns = [n1, n2, n3, n4, n5] := by
            match ns, hlen with
            | [n1, n2, n3, n4, n5], _ => exact ⟨n1, n2, n3, n4, n5, rfl⟩
        clear hlen
        have hcp : wr.cell? ⟨NP, 5, none⟩ = some (.pointer (some ⟨g5, 6, none⟩)) := (blk_cell PT.out 5).trans rfl
        have hcs : wr.cell? ⟨N, 6, none⟩ = some (.string b6) := (blk_cell SP.out 6).trans rfl
        cases ha : atoiO b6 with
        | none =>
          have HA := Aside0.mk ha
          clear ha
          go_wp2_with (go_at_call 23; refine (atoi_no _ (HZ.out _ (by simp)) HA.out _ (Env.below HE.out (bl HB))).mono ?_; rintro e w4 ⟨v, te, pe, rfl, hb⟩
                       have n0_ := Aside0.mk (below_step (bl HB) hb)
                       have n1_ := bkB BK2 hb
                       clear HB BK2 hb
                       have HB := n0_
                       have BK2 := n1_
                       clear n0_ n1_
                       have hxc0 := (blk_cell BK2.out 0).trans rfl
                       have hxf0 := blk_frozen BK2.out 0
                       have hxc1 := (blk_cell BK2.out 1).trans rfl
                       have hxf1 := blk_frozen BK2.out 1
                       have hxc2 := (blk_cell BK2.out 2).trans rfl
                       have hxf2 := blk_frozen BK2.out 2
                       have hxc3 := (blk_cell BK2.out 3).trans rfl
                       have hxf3 := blk_frozen BK2.out 3
                       have hxc4 := (blk_cell BK2.out 4).trans rfl
                       have hxf4 := blk_frozen BK2.out 4
                       have hxc5 := (blk_cell BK2.out 5).trans rfl
                       have hxf5 := blk_frozen BK2.out 5
                       have hxc6 := (blk_cell BK2.out 6).trans rfl
                       have hxf6 := blk_frozen BK2.out 6)
          have hp2 := put7 BK2.out (.bool false) (.int .i64 0) (.int .i64 0) (.int .i64 0) (.int .i64 0) (.int .i64 0) (.int .i64 0) rfl
          refine bodyPost_ret (results_ct rfl _ _ g2 25 #[.bool false, .int .i64 0, .int .i64 0, .int .i64 0, .int .i64 0, .int .i64 0, .int .i64 0] (0, 0) _ rfl hp2.1 Tryd.underlying25 rfl (by kernel_rfl)) rfl ?_
          exact ⟨retZ (by rw [← HR.out]; have h_ := HN.out; simp only [readL] at h_; simp [rulReadW, HA.out, h_]), hp2.2.2 w GE2.out HB.out⟩
        | some n =>
          have HA := Aside0.mk ha
          clear ha
          go_wp2_with (go_at_call 23; refine (atoi_ok _ (HZ.out _ (by simp)) n HA.out _ (Env.below HE.out (bl HB))).mono ?_; rintro e w4 ⟨rfl, hb⟩
                       have n0_ := Aside0.mk (below_step (bl HB) hb)
                       have n1_ := bkB BK2 hb
                       have n2_ := bkB SP hb
                       have n3_ := bkB BK5 hb
                       have n4_ := bkB PT hb
                       clear HB BK2 SP BK5 PT hb
                       have HB := n0_
                       have BK2 := n1_
                       have SP := n2_
                       have BK5 := n3_
                       have PT := n4_
                       clear n0_ n1_ n2_ n3_ n4_
                       have hxc := (blk_cell BK5.out 6).trans rfl
                       have hxf := blk_frozen BK5.out 6)
          have hp5 := put1 BK5.out 6 (.int .i64 n) rfl
          go_roundw
          case rel => (repeat apply Exists.intro); refine ⟨?_, rfl⟩; exact ⟨6, [n1, n2, n3, n4, n5, n], by omega, by go_num, rfl, ⟨by have h_ := HN.out; simp only [readL] at h_; simp [readL, HA.out, h_]⟩, ⟨hp5.2.2 w GE5.out HB.out⟩, ⟨(hp5.2.1 _ NE25.out).trans BK2.out⟩, ⟨(hp5.2.1 _ NES5.out).trans SP.out⟩, ⟨hp5.1⟩, ⟨(hp5.2.1 _ NEP5.out).trans PT.out⟩⟩
          case measure => simp [intOf]
      · obtain ⟨n1, n2, n3, n4, n5, n6, rfl⟩ : ∃ n1 n2 n3 n4 n5 n6, ns = [n1, n2, n3, n4, n5, n6] := by
            match ns, hlen with
            | [n1, n2, n3, n4, n5, n6], _ => exact ⟨n1, n2, n3, n4, n5, n6, rfl⟩
        clear hlen
        obtain ⟨T, hT⟩ : ∃ T, impl_RulText.f al n1 n2 n3 n4 n5 n6 = some T := ⟨_, rfl⟩
        have HT := Aside0.mk hT
        clear hT
        have BK5' : Aside0 (wr.heap[g5]? = some (.cells #[.bool al, .int .i64 n1, .int .i64 n2, .int .i64 n3, .int .i64 n4, .int .i64 n5, .int .i64 n6] 25 (0, 0))) := ⟨BK5.out⟩
        clear BK5
        have BK5 := BK5'
        clear BK5'
        have hcc0 := (blk_cell BK5.out 0).trans rfl
        have hcf0 := blk_frozen BK5.out 0
        have hcc1 := (blk_cell BK5.out 1).trans rfl
        have hcf1 := blk_frozen BK5.out 1
        have hcc2 := (blk_cell BK5.out 2).trans rfl
        have hcf2 := blk_frozen BK5.out 2
        have hcc3 := (blk_cell BK5.out 3).trans rfl
        have hcf3 := blk_frozen BK5.out 3
        have hcc4 := (blk_cell BK5.out 4).trans rfl
        have hcf4 := blk_frozen BK5.out 4
        have hcc5 := (blk_cell BK5.out 5).trans rfl
        have hcf5 := blk_frozen BK5.out 5
        have hcc6 := (blk_cell BK5.out 6).trans rfl
        have hcf6 := blk_frozen BK5.out 6
        by_cases hq : T = a0
        · have hq1 : (T.toList == a0.toList) = true := by rw [hq]; exact beq_self_eq_true _
          have hq2 : (T.toList != a0.toList) = false := by rw [bne, hq1]; rfl
          have HQ := Aside0.mk hq
          clear hq
          go_wp2_with (go_at_call 8; refine (impl_RulText.calls _ _ _ _ _ _ _ T _ HT.out (EnvT.below HE.out.t (bl HB))).mono ?_; rintro e w4 ⟨rfl, hb⟩
                       have n0_ := Aside0.mk (below_step (bl HB) hb)
                       have n1_ := bkB BK2 hb
                       have n3_ := bkB BK5 hb
                       clear HB BK2 BK5 hb hcc0 hcc1 hcc2 hcc3 hcc4 hcc5 hcc6 hcf0 hcf1 hcf2 hcf3 hcf4 hcf5 hcf6
                       have HB := n0_
                       have BK2 := n1_
                       have BK5 := n3_
                       clear n0_ n1_ n3_
                       have hxc0 := (blk_cell BK2.out 0).trans rfl
                       have hxf0 := blk_frozen BK2.out 0
                       have hxc1 := (blk_cell BK2.out 1).trans rfl
                       have hxf1 := blk_frozen BK2.out 1
                       have hxc2 := (blk_cell BK2.out 2).trans rfl
                       have hxf2 := blk_frozen BK2.out 2
                       have hxc3 := (blk_cell BK2.out 3).trans rfl
                       have hxf3 := blk_frozen BK2.out 3
                       have hxc4 := (blk_cell BK2.out 4).trans rfl
                       have hxf4 := blk_frozen BK2.out 4
                       have hxc5 := (blk_cell BK2.out 5).trans rfl
                       have hxf5 := blk_frozen BK2.out 5
                       have hxc6 := (blk_cell BK2.out 6).trans rfl
                       have hxf6 := blk_frozen BK2.out 6
                       have hcc0 := (blk_cell BK5.out 0).trans rfl
                       have hcf0 := blk_frozen BK5.out 0
                       have hcc1 := (blk_cell BK5.out 1).trans rfl
                       have hcf1 := blk_frozen BK5.out 1
                       have hcc2 := (blk_cell BK5.out 2).trans rfl
                       have hcf2 := blk_frozen BK5.out 2
                       have hcc3 := (blk_cell BK5.out 3).trans rfl
                       have hcf3 := blk_frozen BK5.out 3
                       have hcc4 := (blk_cell BK5.out 4).trans rfl
                       have hcf4 := blk_frozen BK5.out 4
                       have hcc5 := (blk_cell BK5.out 5).trans rfl
                       have hcf5 := blk_frozen BK5.out 5
                       have hcc6 := (blk_cell BK5.out 6).trans rfl
                       have hcf6 := blk_frozen BK5.out 6)
          have hp2 := put7 BK2.out (.bool al) (.int .i64 n1) (.int .i64 n2) (.int .i64 n3) (.int .i64 n4) (.int .i64 n5) (.int .i64 n6) rfl
          refine bodyPost_ret (results_ct rfl _ _ g2 25 #[.bool al, .int .i64 n1, .int .i64 n2, .int .i64 n3, .int .i64 n4, .int .i64 n5, .int .i64 n6] (0, 0) _ rfl hp2.1 Tryd.underlying25 rfl (by kernel_rfl)) rfl ?_
          exact ⟨retV (by rw [← HR.out]; have h_ := HN.out; simp only [readL] at h_; simp [rulReadW, AL.out, HT.out, HQ.out, h_]), hp2.2.2 w GE2.out HB.out⟩
        · have hq1 : (T.toList == a0.toList) = false := beq_eq_false_iff_ne.mpr (fun e => hq (toList_inj e))
          have hq2 : (T.toList != a0.toList) = true := by rw [bne, hq1]; rfl
          have HQ := Aside0.mk hq
          clear hq
          go_wp2_with (go_at_call 8; refine (impl_RulText.calls _ _ _ _ _ _ _ T _ HT.out (EnvT.below HE.out.t (bl HB))).mono ?_; rintro e w4 ⟨rfl, hb⟩
                       have n0_ := Aside0.mk (below_step (bl HB) hb)
                       have n1_ := bkB BK2 hb
                       have n3_ := bkB BK5 hb
                       clear HB BK2 BK5 hb hcc0 hcc1 hcc2 hcc3 hcc4 hcc5 hcc6 hcf0 hcf1 hcf2 hcf3 hcf4 hcf5 hcf6
                       have HB := n0_
                       have BK2 := n1_
                       have BK5 := n3_
                       clear n0_ n1_ n3_
                       have hxc0 := (blk_cell BK2.out 0).trans rfl
                       have hxf0 := blk_frozen BK2.out 0
                       have hxc1 := (blk_cell BK2.out 1).trans rfl
                       have hxf1 := blk_frozen BK2.out 1
                       have hxc2 := (blk_cell BK2.out 2).trans rfl
                       have hxf2 := blk_frozen BK2.out 2
                       have hxc3 := (blk_cell BK2.out 3).trans rfl
                       have hxf3 := blk_frozen BK2.out 3
                       have hxc4 := (blk_cell BK2.out 4).trans rfl
                       have hxf4 := blk_frozen BK2.out 4
                       have hxc5 := (blk_cell BK2.out 5).trans rfl
                       have hxf5 := blk_frozen BK2.out 5
                       have hxc6 := (blk_cell BK2.out 6).trans rfl
                       have hxf6 := blk_frozen BK2.out 6
                       have hcc0 := (blk_cell BK5.out 0).trans rfl
                       have hcf0 := blk_frozen BK5.out 0
                       have hcc1 := (blk_cell BK5.out 1).trans rfl
                       have hcf1 := blk_frozen BK5.out 1
                       have hcc2 := (blk_cell BK5.out 2).trans rfl
                       have hcf2 := blk_frozen BK5.out 2
                       have hcc3 := (blk_cell BK5.out 3).trans rfl
                       have hcf3 := blk_frozen BK5.out 3
                       have hcc4 := (blk_cell BK5.out 4).trans rfl
                       have hcf4 := blk_frozen BK5.out 4
                       have hcc5 := (blk_cell BK5.out 5).trans rfl
                       have hcf5 := blk_frozen BK5.out 5
                       have hcc6 := (blk_cell BK5.out 6).trans rfl
                       have hcf6 := blk_frozen BK5.out 6)
          have hp2 := put7 BK2.out (.bool false) (.int .i64 0) (.int .i64 0) (.int .i64 0) (.int .i64 0) (.int .i64 0) (.int .i64 0) rfl
          refine bodyPost_ret (results_ct rfl _ _ g2 25 #[.bool false, .int .i64 0, .int .i64 0, .int .i64 0, .int .i64 0, .int .i64 0, .int .i64 0] (0, 0) _ rfl hp2.1 Tryd.underlying25 rfl (by kernel_rfl)) rfl ?_
          exact ⟨retZ (by rw [← HR.out]; have h_ := HN.out; simp only [readL] at h_; simp [rulReadW, AL.out, HT.out, HQ.out, h_]), hp2.2.2 w GE2.out HB.out⟩
end Go.Proofs.YtiocgkggegahhaaDoor.P

-- written by hw.py for this claim
namespace Go.Proofs.YtiocgkggegahhaaDoor.P
open Go.RowKit Go.Proofs.YtiocgkggegahhaaDoorUFnExactRulRead.PrintWords Go.Proofs.YtiocgkggegahhaaDoorUFnExactRulRead.PrintLast Go.Proofs.YtiocgkggegahhaaDoorUFnExactRulRead.PrintMore
attribute [local go_sem] max2_int min2_int max_two min_two max_three min_three max_four min_four
set_option linter.unusedVariables false
set_option linter.unusedSimpArgs false

/-! ### laws_FnExactRulRead: function 4 -/
def laws_FnExactRulRead.f (k : Nat) (a0 : ByteArray) : Option (Bool) := if (a0.size : Int) > 1048576 then (some true) else ((spec_RulRead.f k a0).bind fun bt219 => ((impl_RulRead.f a0).bind fun bt228 => ((laws_eqRulRule.f bt228.1 bt228.2.1 bt228.2.2.1 bt228.2.2.2.1 bt228.2.2.2.2.1 bt228.2.2.2.2.2.1 bt228.2.2.2.2.2.2.1 bt219.1 bt219.2.1 bt219.2.2.1 bt219.2.2.2.1 bt219.2.2.2.2.1 bt219.2.2.2.2.2.1 bt219.2.2.2.2.2.2.1).bind fun t237 => (if t237 = true then (if (bt228.2.2.2.2.2.2.2 != bt219.2.2.2.2.2.2.2) = true then (some false) else (some true)) else (some false)))))
theorem laws_FnExactRulRead.mono : ∀ a0 k, LeO (laws_FnExactRulRead.f k a0) (laws_FnExactRulRead.f (k + 1) a0) := by
  intro a0 k
  unfold laws_FnExactRulRead.f
  repeat' first
      | (with_reducible exact spec_RulRead.mono _ _)
      | (with_reducible exact LeO.refl _)
      | (with_reducible exact LeO.none _)
      | (with_reducible refine LeO.ite ?_ ?_)
      | (with_reducible refine LeO.bind ?_ (fun _ => ?_))
      | exact spec_RulRead.mono _ _
      | exact LeO.none _
      | refine LeO.ite ?_ ?_
      | refine LeO.bind ?_ (fun _ => ?_)
set_option maxHeartbeats 8000000 in
set_option maxRecDepth 100000 in
theorem laws_FnExactRulRead.calls (k : Nat) (a0 : ByteArray) (r : Bool) (w : World) (h : laws_FnExactRulRead.f k a0 = some r) (hrt : Aside0 (r = true)) (hE : Env w) :
    Calls Tryd.prog 4 #[.string a0] w fun e w' => e = .returned (.bool r) ∧ Below w.heap.size w w' := by
  have hu25 := Tryd.underlying25
  have HB := Aside0.mk (Below.refl w.heap.size w)
  have H : (if (a0.size : Int) > 1048576 then (some true) else ((spec_RulRead.f k a0).bind fun bt219 => ((impl_RulRead.f a0).bind fun bt228 => ((laws_eqRulRule.f bt228.1 bt228.2.1 bt228.2.2.1 bt228.2.2.2.1 bt228.2.2.2.2.1 bt228.2.2.2.2.2.1 bt228.2.2.2.2.2.2.1 bt219.1 bt219.2.1 bt219.2.2.1 bt219.2.2.2.1 bt219.2.2.2.2.1 bt219.2.2.2.2.2.1 bt219.2.2.2.2.2.2.1).bind fun t237 => (if t237 = true then (if (bt228.2.2.2.2.2.2.2 != bt219.2.2.2.2.2.2.2) = true then (some false) else (some true)) else (some false)))))) = some r := h
  clear h
  by_cases c2 : (a0.size : Int) > 1048576
  · rw [if_pos c2] at H
    have c2b0 : decide (1048576 < (a0.size : Int)) = true := decide_eq_true c2
    have c2b1 : decide (1048576 < a0.size) = true := decide_eq_true (by omega)
    clear c2
    obtain rfl := Option.some.inj H
    go_enter Tryd.func4, Tryd.ntmps4
    go_wp2
    go_ret
    exact ⟨by first | rfl | (simp [errW_none, errW_some] <;> rfl) | (simp [*, errW_none, errW_some] <;> rfl), by repeat (first | (with_reducible first | exact HB.out | apply below_alloc | apply pw_below_drewN | apply below_drew1) | exact HB.out)⟩
  · rw [if_neg c2] at H
    have c2b0 : decide (1048576 < (a0.size : Int)) = false := decide_eq_false c2
    have c2b1 : decide (1048576 < a0.size) = false := decide_eq_false (by omega)
    clear c2
    replace H := Option.bind_eq_some_iff.mp H
    obtain ⟨⟨t219, t220, t221, t222, t223, t224, t225, t226⟩, A30, H⟩ := H
    replace H : ((impl_RulRead.f a0).bind fun bt228 => ((laws_eqRulRule.f bt228.1 bt228.2.1 bt228.2.2.1 bt228.2.2.2.1 bt228.2.2.2.2.1 bt228.2.2.2.2.2.1 bt228.2.2.2.2.2.2.1 t219 t220 t221 t222 t223 t224 t225).bind fun t237 => (if t237 = true then (if (bt228.2.2.2.2.2.2.2 != t226) = true then (some false) else (some true)) else (some false)))) = some r := H
    have A3 := Aside0.mk A30
    clear A30
    replace H := Option.bind_eq_some_iff.mp H
    obtain ⟨⟨t228, t229, t230, t231, t232, t233, t234, t235⟩, A40, H⟩ := H
    replace H : ((laws_eqRulRule.f t228 t229 t230 t231 t232 t233 t234 t219 t220 t221 t222 t223 t224 t225).bind fun t237 => (if t237 = true then (if (t235 != t226) = true then (some false) else (some true)) else (some false))) = some r := H
    have A4 := Aside0.mk A40
    clear A40
    replace H := Option.bind_eq_some_iff.mp H
    obtain ⟨t237, A50, H⟩ := H
    replace H : (if t237 = true then (if (t235 != t226) = true then (some false) else (some true)) else (some false)) = some r := H
    have A5 := Aside0.mk A50
    clear A50
    by_cases c6 : t237 = true
    · subst c6
      have H1 : (if (t235 != t226) = true then (some false) else (some true)) = some r := by rw [if_pos rfl] at H; exact H
      clear H
      have H := H1
      clear H1
      by_cases c7 : (t235 != t226) = true
      · rw [if_pos c7] at H
        have c7b0 : (t235 != t226) = true := c7
        (try (have c7b1 : decide (t235 = t226) = false := by simpa using c7))
        (try (have c7b2 : (t235 == t226) = false := by simpa using c7))
        (try (have c7b3 : ¬ (t235 = t226) := by simpa using c7))
        clear c7
        exact absurd ((Option.some.inj H).trans hrt.out) (by decide)
      · rw [if_neg c7] at H
        have c7b0 : (t235 != t226) = false := by simpa using c7
        (try (have c7b1 : decide (t235 = t226) = true := by simpa using c7))
        (try (have c7b2 : (t235 == t226) = true := by simpa using c7))
        clear c7
        obtain rfl := Option.some.inj H
        go_enter Tryd.func4, Tryd.ntmps4
        go_wp2_with (first | ((with_reducible refine gate_callee (f := 9) rfl ?_); refine goesL_ (some 12) rfl rfl Tryd.func9 (by kernel_rfl) rfl #[.string a0] rfl (by (try simp only [List.map_toArray, List.map_cons, List.map_nil]); first | done | rfl | (simp only [List.length_drop, List.length_take]; rfl)) ?_; (with_reducible refine (spec_RulRead.calls k a0 t219 t220 t221 t222 t223 t224 t225 t226 _ A3.out).mono ?_); rintro e w8 ⟨rfl, hb⟩; refine ⟨_, rfl, ?_⟩; have n0_ := Aside0.mk (below_step (bl HB) hb); clear HB; have HB := n0_; clear n0_; (try clear hb); (try clear hb2); (try clear hk); (try clear hi)) | ((with_reducible refine gate_dst (N := 3) rfl ?_); refine box_event ?hg (N := 3) ?hd (cs := #[.bool false, .int .i64 0, .int .i64 0, .int .i64 0, .int .i64 0, .int .i64 0, .int .i64 0]) (t := 25) ?hr ?_; (case hd => rfl); (case hg => rfl); (case hr => first | (go_simp; done) | (go_simp; rfl)); intro gb227 hg w9 hbox hb; have n0_ := Aside0.mk (below_step (bl HB) hb); have n1_ := Aside0.mk (hbox); have n2_ := Aside0.mk ((by rw [hg]; exact (below_size (bl HB)) : w.heap.size ≤ gb227)); have n3_ := Aside0.mk ((by rw [hg]; exact (below_size (bl HB)) : w.heap.size ≤ gb227)); clear HB; have HB := n0_; have BK227 := n1_; have GW227 := n2_; have GE227 := n3_; clear n0_ n1_ n2_ n3_; clear hb hbox hg; have hcz10_0 : w9.cell? ⟨gb227, 0, none⟩ = some (.bool false) := (blk_cell BK227.out 0).trans rfl; have hcz10_1 : w9.cell? ⟨gb227, 1, none⟩ = some (.int .i64 0) := (blk_cell BK227.out 1).trans rfl; have hcz10_2 : w9.cell? ⟨gb227, 2, none⟩ = some (.int .i64 0) := (blk_cell BK227.out 2).trans rfl; have hcz10_3 : w9.cell? ⟨gb227, 3, none⟩ = some (.int .i64 0) := (blk_cell BK227.out 3).trans rfl; have hcz10_4 : w9.cell? ⟨gb227, 4, none⟩ = some (.int .i64 0) := (blk_cell BK227.out 4).trans rfl; have hcz10_5 : w9.cell? ⟨gb227, 5, none⟩ = some (.int .i64 0) := (blk_cell BK227.out 5).trans rfl; have hcz10_6 : w9.cell? ⟨gb227, 6, none⟩ = some (.int .i64 0) := (blk_cell BK227.out 6).trans rfl; have hfz10_0 := blk_frozen BK227.out 0; have hfz10_1 := blk_frozen BK227.out 1; have hfz10_2 := blk_frozen BK227.out 2; have hfz10_3 := blk_frozen BK227.out 3; have hfz10_4 := blk_frozen BK227.out 4; have hfz10_5 := blk_frozen BK227.out 5; have hfz10_6 := blk_frozen BK227.out 6) | ((with_reducible refine gate_callee (f := 10) rfl ?_); refine goesL_ (some 17) rfl rfl Tryd.func10 (by kernel_rfl) rfl #[.string a0] rfl (by (try simp only [List.map_toArray, List.map_cons, List.map_nil]); first | done | rfl | (simp only [List.length_drop, List.length_take]; rfl)) ?_; (with_reducible refine (impl_RulRead.calls a0 t228 t229 t230 t231 t232 t233 t234 t235 _ A4.out (Env.below hE (bl HB))).mono ?_); rintro e w11 ⟨rfl, hb⟩; refine ⟨_, rfl, ?_⟩; have n0_ := Aside0.mk (blk_below (g := gb227) (o := .cells #[.bool t219, .int .i64 t220, .int .i64 t221, .int .i64 t222, .int .i64 t223, .int .i64 t224, .int .i64 t225] 25 (0, 0)) (by (with_reducible repeat refine bu ?_); refine blk_put (cs := #[.bool t219, .int .i64 t220, .int .i64 t221, .int .i64 t222, .int .i64 t223, .int .i64 t224, .int .i64 0]) ?_ 6 _ rfl; (with_reducible repeat refine bu ?_); refine blk_put (cs := #[.bool t219, .int .i64 t220, .int .i64 t221, .int .i64 t222, .int .i64 t223, .int .i64 0, .int .i64 0]) ?_ 5 _ rfl; (with_reducible repeat refine bu ?_); refine blk_put (cs := #[.bool t219, .int .i64 t220, .int .i64 t221, .int .i64 t222, .int .i64 0, .int .i64 0, .int .i64 0]) ?_ 4 _ rfl; (with_reducible repeat refine bu ?_); refine blk_put (cs := #[.bool t219, .int .i64 t220, .int .i64 t221, .int .i64 0, .int .i64 0, .int .i64 0, .int .i64 0]) ?_ 3 _ rfl; (with_reducible repeat refine bu ?_); refine blk_put (cs := #[.bool t219, .int .i64 t220, .int .i64 0, .int .i64 0, .int .i64 0, .int .i64 0, .int .i64 0]) ?_ 2 _ rfl; (with_reducible repeat refine bu ?_); refine blk_put (cs := #[.bool t219, .int .i64 0, .int .i64 0, .int .i64 0, .int .i64 0, .int .i64 0, .int .i64 0]) ?_ 1 _ rfl; (with_reducible repeat refine bu ?_); refine blk_put (cs := #[.bool false, .int .i64 0, .int .i64 0, .int .i64 0, .int .i64 0, .int .i64 0, .int .i64 0]) ?_ 0 _ rfl; (with_reducible repeat refine bu ?_); exact BK227.out) hb); have n1_ := Aside0.mk (below_step (bl HB) hb); clear BK227; clear HB; have BK227 := n0_; have HB := n1_; clear n0_ n1_; (try clear hb); (try clear hb2); (try clear hk); (try clear hi)) | ((with_reducible refine gate_dst (N := 5) rfl ?_); refine box_event ?hg (N := 5) ?hd (cs := #[.bool false, .int .i64 0, .int .i64 0, .int .i64 0, .int .i64 0, .int .i64 0, .int .i64 0]) (t := 25) ?hr ?_; (case hd => rfl); (case hg => rfl); (case hr => first | (go_simp; done) | (go_simp; rfl)); intro gb236 hg w12 hbox hb; have n0_ := bkB BK227 hb; have n1_ := Aside0.mk (below_step (bl HB) hb); have n2_ := Aside0.mk (hbox); have n3_ := Aside0.mk ((by rw [hg]; exact (below_size (bl HB)) : w.heap.size ≤ gb236)); have n4_ := Aside0.mk ((by rw [hg]; exact (below_size (bl HB)) : w.heap.size ≤ gb236)); have n5_ := Aside0.mk ((by rw [hg]; exact Nat.ne_of_lt (bkL BK227) : gb227 ≠ gb236)); have n6_ := Aside0.mk ((by rw [hg]; exact Nat.ne_of_gt (bkL BK227) : gb236 ≠ gb227)); clear BK227; clear HB; have BK227 := n0_; have HB := n1_; have BK236 := n2_; have GW236 := n3_; have GE236 := n4_; have NB227_236 := n5_; have NB236_227 := n6_; clear n0_ n1_ n2_ n3_ n4_ n5_ n6_; clear hb hbox hg; have hnb13 := NB236_227.out; have hnc13 := NB227_236.out; have hcz14_0 : w12.cell? ⟨gb236, 0, none⟩ = some (.bool false) := (blk_cell BK236.out 0).trans rfl; have hcz14_1 : w12.cell? ⟨gb236, 1, none⟩ = some (.int .i64 0) := (blk_cell BK236.out 1).trans rfl; have hcz14_2 : w12.cell? ⟨gb236, 2, none⟩ = some (.int .i64 0) := (blk_cell BK236.out 2).trans rfl; have hcz14_3 : w12.cell? ⟨gb236, 3, none⟩ = some (.int .i64 0) := (blk_cell BK236.out 3).trans rfl; have hcz14_4 : w12.cell? ⟨gb236, 4, none⟩ = some (.int .i64 0) := (blk_cell BK236.out 4).trans rfl; have hcz14_5 : w12.cell? ⟨gb236, 5, none⟩ = some (.int .i64 0) := (blk_cell BK236.out 5).trans rfl; have hcz14_6 : w12.cell? ⟨gb236, 6, none⟩ = some (.int .i64 0) := (blk_cell BK236.out 6).trans rfl; have hfz14_0 := blk_frozen BK236.out 0; have hfz14_1 := blk_frozen BK236.out 1; have hfz14_2 := blk_frozen BK236.out 2; have hfz14_3 := blk_frozen BK236.out 3; have hfz14_4 := blk_frozen BK236.out 4; have hfz14_5 := blk_frozen BK236.out 5; have hfz14_6 := blk_frozen BK236.out 6; have hcz15_0 : w12.cell? ⟨gb227, 0, none⟩ = some (.bool t219) := (blk_cell BK227.out 0).trans rfl; have hcz15_1 : w12.cell? ⟨gb227, 1, none⟩ = some (.int .i64 t220) := (blk_cell BK227.out 1).trans rfl; have hcz15_2 : w12.cell? ⟨gb227, 2, none⟩ = some (.int .i64 t221) := (blk_cell BK227.out 2).trans rfl; have hcz15_3 : w12.cell? ⟨gb227, 3, none⟩ = some (.int .i64 t222) := (blk_cell BK227.out 3).trans rfl; have hcz15_4 : w12.cell? ⟨gb227, 4, none⟩ = some (.int .i64 t223) := (blk_cell BK227.out 4).trans rfl; have hcz15_5 : w12.cell? ⟨gb227, 5, none⟩ = some (.int .i64 t224) := (blk_cell BK227.out 5).trans rfl; have hcz15_6 : w12.cell? ⟨gb227, 6, none⟩ = some (.int .i64 t225) := (blk_cell BK227.out 6).trans rfl; have hfz15_0 := blk_frozen BK227.out 0; have hfz15_1 := blk_frozen BK227.out 1; have hfz15_2 := blk_frozen BK227.out 2; have hfz15_3 := blk_frozen BK227.out 3; have hfz15_4 := blk_frozen BK227.out 4; have hfz15_5 := blk_frozen BK227.out 5; have hfz15_6 := blk_frozen BK227.out 6) | ((with_reducible refine gate_callee (f := 11) rfl ?_); refine goesL_ (some 22) rfl rfl Tryd.func11 (by kernel_rfl) rfl #[.agg #[.bool t228, .int .i64 t229, .int .i64 t230, .int .i64 t231, .int .i64 t232, .int .i64 t233, .int .i64 t234], .agg #[.bool t219, .int .i64 t220, .int .i64 t221, .int .i64 t222, .int .i64 t223, .int .i64 t224, .int .i64 t225]] rfl (by (try simp only [List.map_toArray, List.map_cons, List.map_nil]); first | done | rfl | (simp only [List.length_drop, List.length_take]; rfl)) ?_; (with_reducible refine (laws_eqRulRule.calls t228 t229 t230 t231 t232 t233 t234 t219 t220 t221 t222 t223 t224 t225 true _ A5.out).mono ?_); rintro e w16 ⟨rfl, hb⟩; refine ⟨_, rfl, ?_⟩; have n0_ := Aside0.mk (blk_below (g := gb227) (o := .cells #[.bool t219, .int .i64 t220, .int .i64 t221, .int .i64 t222, .int .i64 t223, .int .i64 t224, .int .i64 t225] 25 (0, 0)) (by (with_reducible repeat refine bu ?_); refine blk_far ?_ NB227_236.out _; (with_reducible repeat refine bu ?_); refine blk_far ?_ NB227_236.out _; (with_reducible repeat refine bu ?_); refine blk_far ?_ NB227_236.out _; (with_reducible repeat refine bu ?_); refine blk_far ?_ NB227_236.out _; (with_reducible repeat refine bu ?_); refine blk_far ?_ NB227_236.out _; (with_reducible repeat refine bu ?_); refine blk_far ?_ NB227_236.out _; (with_reducible repeat refine bu ?_); refine blk_far ?_ NB227_236.out _; (with_reducible repeat refine bu ?_); exact BK227.out) hb); have n1_ := Aside0.mk (blk_below (g := gb236) (o := .cells #[.bool t228, .int .i64 t229, .int .i64 t230, .int .i64 t231, .int .i64 t232, .int .i64 t233, .int .i64 t234] 25 (0, 0)) (by (with_reducible repeat refine bu ?_); refine blk_put (cs := #[.bool t228, .int .i64 t229, .int .i64 t230, .int .i64 t231, .int .i64 t232, .int .i64 t233, .int .i64 0]) ?_ 6 _ rfl; (with_reducible repeat refine bu ?_); refine blk_put (cs := #[.bool t228, .int .i64 t229, .int .i64 t230, .int .i64 t231, .int .i64 t232, .int .i64 0, .int .i64 0]) ?_ 5 _ rfl; (with_reducible repeat refine bu ?_); refine blk_put (cs := #[.bool t228, .int .i64 t229, .int .i64 t230, .int .i64 t231, .int .i64 0, .int .i64 0, .int .i64 0]) ?_ 4 _ rfl; (with_reducible repeat refine bu ?_); refine blk_put (cs := #[.bool t228, .int .i64 t229, .int .i64 t230, .int .i64 0, .int .i64 0, .int .i64 0, .int .i64 0]) ?_ 3 _ rfl; (with_reducible repeat refine bu ?_); refine blk_put (cs := #[.bool t228, .int .i64 t229, .int .i64 0, .int .i64 0, .int .i64 0, .int .i64 0, .int .i64 0]) ?_ 2 _ rfl; (with_reducible repeat refine bu ?_); refine blk_put (cs := #[.bool t228, .int .i64 0, .int .i64 0, .int .i64 0, .int .i64 0, .int .i64 0, .int .i64 0]) ?_ 1 _ rfl; (with_reducible repeat refine bu ?_); refine blk_put (cs := #[.bool false, .int .i64 0, .int .i64 0, .int .i64 0, .int .i64 0, .int .i64 0, .int .i64 0]) ?_ 0 _ rfl; (with_reducible repeat refine bu ?_); exact BK236.out) hb); have n2_ := Aside0.mk (below_step (bl HB) hb); clear BK227; clear BK236; clear HB; have BK227 := n0_; have BK236 := n1_; have HB := n2_; clear n0_ n1_ n2_; (try clear hb); (try clear hb2); (try clear hk); (try clear hi)))
        go_ret
        exact ⟨by first | rfl | (simp [errW_none, errW_some] <;> rfl) | (simp [*, errW_none, errW_some] <;> rfl), by repeat (first | (with_reducible first | exact HB.out | apply below_alloc | apply pw_below_drewN | apply below_drew1 | refine below_set ?_ GE227.out | refine below_set ?_ GE236.out) | exact HB.out)⟩
    · replace c6 := Bool.eq_false_iff.mpr c6
      subst c6
      have H1 : (some false) = some r := by rw [if_neg (show ¬ (false = true) by decide)] at H; exact H
      clear H
      have H := H1
      clear H1
      exact absurd ((Option.some.inj H).trans hrt.out) (by decide)

/-- THE ONE PURE STATEMENT of laws_FnExactRulRead: yours. -/
def laws_FnExactRulRead.Pure : Prop := ∀ (a0 : ByteArray), a0.size ≤ 140737488351232 → ∃ k, laws_FnExactRulRead.f k a0 = some true
theorem laws_FnExactRulRead.walk (P : laws_FnExactRulRead.Pure) (a0 : ByteArray) (w : World) (w0 : a0.size ≤ 140737488351232) (hE : Env w) :
    Calls Tryd.prog 4 #[.string a0] w fun e w' => e = .returned (.bool true) ∧ Below w.heap.size w w' := by
  obtain ⟨k, h⟩ := P a0 w0
  refine (laws_FnExactRulRead.calls k a0 true w h ⟨rfl⟩ hE).mono ?_
  rintro e w' ⟨rfl, hd⟩
  exact ⟨rfl, hd⟩

end Go.Proofs.YtiocgkggegahhaaDoor.P

-- written by hw.py for this claim
namespace Go.Proofs.YtiocgkggegahhaaDoor.P
open Go.RowKit Go.Proofs.YtiocgkggegahhaaDoorUFnExactRulRead.PrintWords Go.Proofs.YtiocgkggegahhaaDoorUFnExactRulRead.PrintLast Go.Proofs.YtiocgkggegahhaaDoorUFnExactRulRead.PrintMore
attribute [local go_sem] max2_int min2_int max_two min_two max_three min_three max_four min_four
set_option linter.unusedVariables false
set_option linter.unusedSimpArgs false

/-- A state of type 62 at block g of W; what its slices lead to came in by w0. -/
def IsS62 (w0 W : World) (g : Nat) (f0 : List Int) (f1 : Int) : Prop := ∃ A0 c0, W.heap[g]? = some (.cells #[.slice A0 f0.length c0, .int .i64 f1] 62 (0, 0)) ∧ w0.heap.size ≤ g ∧ Kd.C (Kd.int .u8) w0 A0 f0.length f0
theorem IsS62.grown {w0 W : World} {g : Nat} {f0 : List Int} {f1 : Int} {W1 : World} {row : Option Nat} (h : IsS62 w0 W g f0 f1) (hw : W.grownBy W1 row) (hne : some g ≠ row) : IsS62 w0 W1 g f0 f1 := by
  obtain ⟨A0, c0, hb, hg, hr0⟩ := h
  exact ⟨A0, c0, blk_grown hb hw hne, hg, hr0⟩
theorem IsS62.own_neN {w0 W : World} {g : Nat} {f0 : List Int} {f1 : Int} {α : Type} {d : Kd α} {e : Nat} {base : Nat} {ok : Nat → Prop} {v : Value} {xs : List α} (h : IsS62 w0 W g f0 f1) (ho : Kd.N d e W base ok v xs) (ht : e ≠ 62) : some g ≠ v.ownBlock := by
  obtain ⟨A0, c0, hb, hg, hr0⟩ := h
  exact Kd.N_ne ho hb ht
theorem IsS62.fresh {w0 W : World} {g : Nat} {f0 : List Int} {f1 : Int} (h : IsS62 w0 W g f0 f1) : ∀ k, W.heap.size ≤ k → k ≠ g := by
  obtain ⟨A0, c0, hb, hg, hr0⟩ := h
  exact Kd.freshB hb
theorem IsS62.kept {w0 W : World} {g : Nat} {f0 : List Int} {f1 : Int} {W1 : World} {S : Nat → Prop} (h : IsS62 w0 W g f0 f1) (hk : Kept W W1 S) (hne : ¬ S g) : IsS62 w0 W1 g f0 f1 := by
  obtain ⟨A0, c0, hb, hg, hr0⟩ := h
  exact ⟨A0, c0, blk_kept hb hk hne, hg, hr0⟩
theorem IsS62.below {w0 W : World} {g : Nat} {f0 : List Int} {f1 : Int} {W1 : World} (h : IsS62 w0 W g f0 f1) (hw : Below W.heap.size W W1) : IsS62 w0 W1 g f0 f1 := h.grown (grown_of_below hw none) (by simp)
theorem IsS62.alloc {w0 W : World} {g : Nat} {f0 : List Int} {f1 : Int} (h : IsS62 w0 W g f0 f1) (o : Obj) : IsS62 w0 (W.alloc o) g f0 f1 := h.below (below_alloc (Below.refl _ _) o)
theorem IsS62.drewN {w0 W : World} {g : Nat} {f0 : List Int} {f1 : Int} (h : IsS62 w0 W g f0 f1) (m : Nat) : IsS62 w0 (W.drewN m) g f0 f1 := h
theorem IsS62.drew {w0 W : World} {g : Nat} {f0 : List Int} {f1 : Int} (h : IsS62 w0 W g f0 f1) : IsS62 w0 W.drew g f0 f1 := h
theorem IsS62.at_ {w0 W : World} {g : Nat} {f0 : List Int} {f1 : Int} {w' : World} {m : Nat} (hq : W.drewN m = w') (h : IsS62 w0 W g f0 f1) : IsS62 w0 w' g f0 f1 := by subst hq; exact IsS62.drewN h m
theorem IsS62.apart {w0 W : World} {g : Nat} {f0 : List Int} {f1 : Int} {α : Type} {d : Kd α} {e : Nat} {base : Nat} {ok : Nat → Prop} {v : Value} {xs : List α} (h : IsS62 w0 W g f0 f1) (ho : d.R e W base ok v xs) (ht : ∀ q, q ∈ e :: d.E → q ≠ 62) : d.R e W base (fun k => ok k ∧ k ≠ g) v xs := by
  obtain ⟨A0, c0, hb, hg, hr0⟩ := h
  exact Kd.R_types ho hb ht
theorem IsS62.own_ne {w0 W : World} {g : Nat} {f0 : List Int} {f1 : Int} {α : Type} {d : Kd α} {e : Nat} {base : Nat} {ok : Nat → Prop} {v : Value} {xs : List α} (h : IsS62 w0 W g f0 f1) (ho : d.R e W base ok v xs) (ht : e ≠ 62) : some g ≠ v.ownBlock := by
  obtain ⟨A0, c0, hb, hg, hr0⟩ := h
  exact Kd.R_ne ho hb ht
theorem IsS62.apartQ {w0 W : World} {g : Nat} {f0 : List Int} {f1 : Int} {α : Type} {d : Kd α} {e : Nat} {base : Nat} {ok : Nat → Prop} {v : Value} {xs : List α} (h : IsS62 w0 W g f0 f1) (ho : d.Q e W base ok v xs) (ht : ∀ q, q ∈ e :: d.E → q ≠ 62) : d.Q e W base (fun k => ok k ∧ k ≠ g) v xs := by
  obtain ⟨A0, c0, hb, hg, hr0⟩ := h
  exact Kd.Q_types ho hb ht
theorem IsS62.own_neQ {w0 W : World} {g : Nat} {f0 : List Int} {f1 : Int} {α : Type} {d : Kd α} {e : Nat} {base : Nat} {ok : Nat → Prop} {v : Value} {xs : List α} (h : IsS62 w0 W g f0 f1) (ho : d.Q e W base ok v xs) (ht : e ≠ 62) : some g ≠ v.ownBlock := by
  obtain ⟨A0, c0, hb, hg, hr0⟩ := h
  exact Kd.Q_ne ho hb ht
theorem IsS62.apartS {w0 W : World} {g : Nat} {f0 : List Int} {f1 : Int} {α : Type} {d : Kd α} {e : Nat} {base : Nat} {ok : Nat → Prop} {v : Value} {xs : List α} (h : IsS62 w0 W g f0 f1) (ho : d.S e W base ok v xs) (ht : ∀ q, q ∈ e :: d.E → q ≠ 62) : d.S e W base (fun k => ok k ∧ k ≠ g) v xs := by
  obtain ⟨A0, c0, hb, hg, hr0⟩ := h
  exact Kd.S_types ho hb ht
theorem IsS62.own_neS {w0 W : World} {g : Nat} {f0 : List Int} {f1 : Int} {α : Type} {d : Kd α} {e : Nat} {base : Nat} {ok : Nat → Prop} {v : Value} {xs : List α} (h : IsS62 w0 W g f0 f1) (ho : d.S e W base ok v xs) (ht : e ≠ 62) : some g ≠ v.ownBlock := by
  obtain ⟨A0, c0, hb, hg, hr0⟩ := h
  exact Kd.S_ne ho hb ht
theorem IsS62.lt {w0 W : World} {g : Nat} {f0 : List Int} {f1 : Int} (h : IsS62 w0 W g f0 f1) : g < W.heap.size := by
  obtain ⟨A0, c0, hb, hg, hr0⟩ := h
  exact blk_lt hb
theorem IsS62.ge {w0 W : World} {g : Nat} {f0 : List Int} {f1 : Int} (h : IsS62 w0 W g f0 f1) : w0.heap.size ≤ g := by
  obtain ⟨A0, c0, hb, hg, hr0⟩ := h
  exact hg
theorem IsS62.ne_blk {w0 W : World} {g : Nat} {f0 : List Int} {f1 : Int} {a : Nat} {cs : Array Value} {t : TypeId} {fr : Nat × Nat} (h : IsS62 w0 W g f0 f1) (hb2 : W.heap[a]? = some (.cells cs t fr)) (ht : t ≠ 62) : g ≠ a := by
  obtain ⟨A0, c0, hb, hg, hr0⟩ := h
  rintro rfl
  rw [hb] at hb2
  injection hb2 with hb2
  injection hb2 with _ ht2
  exact ht ht2.symm
theorem IsS62.far {w0 W : World} {g : Nat} {f0 : List Int} {f1 : Int} {p : Addr} (h : IsS62 w0 W g f0 f1) (hne : g ≠ p.block) (u : Value) : IsS62 w0 (W.setCell p u) g f0 f1 := by
  obtain ⟨A0, c0, hb, hg, hr0⟩ := h
  exact ⟨A0, c0, blk_far hb hne u, hg, hr0⟩
theorem cellS62_0 {W : World} {g : Nat} {A0 : Option Addr} {c0 : Nat} {f0 : List Int} {f1 : Int} (h : W.heap[g]? = some (.cells #[.slice A0 f0.length c0, .int .i64 f1] 62 (0, 0))) : W.cell? ⟨g, 0, none⟩ = some (.slice A0 f0.length c0) := (blk_cell h 0).trans rfl
theorem cellS62_1 {W : World} {g : Nat} {A0 : Option Addr} {c0 : Nat} {f0 : List Int} {f1 : Int} (h : W.heap[g]? = some (.cells #[.slice A0 f0.length c0, .int .i64 f1] 62 (0, 0))) : W.cell? ⟨g, 1, none⟩ = some (.int .i64 f1) := (blk_cell h 1).trans rfl
theorem IsS62.set_1 {w0 W : World} {g : Nat} {f0 : List Int} {f1 : Int} (h : IsS62 w0 W g f0 f1) (x : Int) : IsS62 w0 (W.setCell ⟨g, 1, none⟩ (.int .i64 x)) g f0 x := by
  obtain ⟨A0, c0, hb, hg, hr0⟩ := h
  exact ⟨A0, c0, by simpa using blk_set hb 1 (.int .i64 x), hg, hr0⟩
theorem IsS62.new (w0 W : World) (A0 : Option Addr) (c0 : Nat) (f0 : List Int) (f1 : Int) (hB : Below w0.heap.size w0 W) (hr0 : Kd.C (Kd.int .u8) w0 A0 f0.length f0) : IsS62 w0 (W.alloc (.cells #[.slice A0 f0.length c0, .int .i64 f1] 62)) W.heap.size f0 f1 := ⟨A0, c0, by simpa using heap_alloc_new W _, hB.size, hr0⟩

/-! ### spec_l20Rd_pick: function 26 -/
def spec_l20Rd_pick.j0 : Nat → Int → Bool → List Int → Int → Option (Int × Int)
  | 0, _, _, _, _ => none
  | k + 1, x1, x24, x1000, x1001 => if x24 = true then (some (0, x1001)) else (if (wrap64 (x1001 - 1)) < (x1000.length : Int) then (if 0 ≤ (wrap64 (x1001 - 1)) then (if x1 = 0 then (none) else (some (Int.tmod (wrap64 (rd x1000 (wrap64 (x1001 - 1)))) x1, x1001))) else (none)) else (if (x1000.length : Int) = 0 then (none) else (if 0 ≤ (Int.tmod (wrap64 (x1001 - 1)) (x1000.length : Int)) then (if (Int.tmod (wrap64 (x1001 - 1)) (x1000.length : Int)) < (x1000.length : Int) then (if 0 ≤ (Int.tmod (wrap64 ((wrap64 ((wrap64 (x1001 - 1)) * 7)) + 3)) (x1000.length : Int)) then (if (Int.tmod (wrap64 ((wrap64 ((wrap64 (x1001 - 1)) * 7)) + 3)) (x1000.length : Int)) < (x1000.length : Int) then (if x1 = 0 then (none) else (some (Int.tmod (Go.bits .xor .i64 (wrap64 ((wrap64 ((wrap64 ((wrap64 ((wrap64 (rd x1000 (Int.tmod (wrap64 (x1001 - 1)) (x1000.length : Int)))) * 131)) + (wrap64 ((wrap64 (rd x1000 (Int.tmod (wrap64 ((wrap64 ((wrap64 (x1001 - 1)) * 7)) + 3)) (x1000.length : Int)))) * 1117)))) + (wrap64 ((wrap64 (x1001 - 1)) * 29)))) + (wrap64 ((wrap64 (Int.tdiv (wrap64 (x1001 - 1)) (x1000.length : Int))) * 53)))) (wrap64 (Int.tdiv (wrap64 ((wrap64 ((wrap64 ((wrap64 ((wrap64 (rd x1000 (Int.tmod (wrap64 (x1001 - 1)) (x1000.length : Int)))) * 131)) + (wrap64 ((wrap64 (rd x1000 (Int.tmod (wrap64 ((wrap64 ((wrap64 (x1001 - 1)) * 7)) + 3)) (x1000.length : Int)))) * 1117)))) + (wrap64 ((wrap64 (x1001 - 1)) * 29)))) + (wrap64 ((wrap64 (Int.tdiv (wrap64 (x1001 - 1)) (x1000.length : Int))) * 53)))) 64))) x1, x1001))) else (none)) else (none)) else (none)) else (none))))
def spec_l20Rd_pick.f (k : Nat) (s0_0 : List Int) (s0_1 : Int) (a1 : Int) : Option (Int × Int) := if a1 < 1 then (spec_l20Rd_pick.j0 k a1 true s0_0 (wrap64 (s0_1 + 1))) else (spec_l20Rd_pick.j0 k a1 ((s0_0.length : Int) == 0) s0_0 (wrap64 (s0_1 + 1)))
theorem spec_l20Rd_pick.mono_l : ∀ k, (∀ y0 y1 y2 y3, LeO (spec_l20Rd_pick.j0 k y0 y1 y2 y3) (spec_l20Rd_pick.j0 (k + 1) y0 y1 y2 y3))
  | 0 => fun _ _ _ _ r h => by simp [spec_l20Rd_pick.j0] at h
  | k + 1 => by
    have ih0 := spec_l20Rd_pick.mono_l k
    · intro y0 y1 y2 y3
      unfold spec_l20Rd_pick.j0
      repeat' first
      | (with_reducible exact ih0 _ _ _ _)
      | (with_reducible exact LeO.refl _)
      | (with_reducible exact LeO.none _)
      | (with_reducible refine LeO.ite ?_ ?_)
      | (with_reducible refine LeO.bind ?_ (fun _ => ?_))
      | exact ih0 _ _ _ _
      | exact LeO.none _
      | refine LeO.ite ?_ ?_
      | refine LeO.bind ?_ (fun _ => ?_)
theorem spec_l20Rd_pick.mono : ∀ a0 a1 a2 k, LeO (spec_l20Rd_pick.f k a0 a1 a2) (spec_l20Rd_pick.f (k + 1) a0 a1 a2) := by
  intro a0 a1 a2 k
  have ih0 := spec_l20Rd_pick.mono_l k
  unfold spec_l20Rd_pick.f
  repeat' first
      | (with_reducible exact ih0 _ _ _ _)
      | (with_reducible exact LeO.refl _)
      | (with_reducible exact LeO.none _)
      | (with_reducible refine LeO.ite ?_ ?_)
      | (with_reducible refine LeO.bind ?_ (fun _ => ?_))
      | exact ih0 _ _ _ _
      | exact LeO.none _
      | refine LeO.ite ?_ ?_
      | refine LeO.bind ?_ (fun _ => ?_)
set_option maxHeartbeats 8000000 in
set_option maxRecDepth 100000 in
theorem spec_l20Rd_pick.calls (k : Nat) (g : Nat) (s0_0 : List Int) (s0_1 : Int) (a1 : Int) (r1 : Int) (r2 : Int) (w0 w : World) (hI : IsS62 w0 w g s0_0 s0_1) (hB : Below w0.heap.size w0 w) (h : spec_l20Rd_pick.f k s0_0 s0_1 a1 = some (r1, r2)) :
    Calls Tryd.prog 26 #[.pointer (some ⟨g, 0, none⟩), .int .i64 a1] w fun e w' => e = .returned (.int .i64 r1) ∧ IsS62 w0 w' g s0_0 r2 ∧ Below w0.heap.size w0 w' ∧ KeepBut w w' g none := by
  have HI0 := Aside0.mk hI
  have HK := Aside0.mk (KeepBut.refl w g none)
  have HL := Aside0.mk hB.size
  clear hI
  have HW0 := Aside0.mk hB.size
  have HB := Aside0.mk hB
  clear hB
  have H : (if a1 < 1 then (spec_l20Rd_pick.j0 k a1 true s0_0 (wrap64 (s0_1 + 1))) else (spec_l20Rd_pick.j0 k a1 ((s0_0.length : Int) == 0) s0_0 (wrap64 (s0_1 + 1)))) = some (r1, r2) := h
  clear h
  have HC3 := Aside0.mk H
  clear H
  obtain ⟨ASz4_0, cSz4_0, HGz4, hgz4, HSz4_0⟩ := HI0.out
  have hcz4_0 := cellS62_0 HGz4
  have hcz4_1 := cellS62_1 HGz4
  have hfz4_1 := blk_frozen HGz4 1
  clear HGz4 hgz4
  go_enter Tryd.func26, Tryd.ntmps26
  go_upto_region 2 with (fail)
  repeat (go_quiet (fail); go_upto_region 2 with (fail))
  go_cut [24] (fun v24 wc => ∃ (kq : Nat) (x24_2 : Bool), v24 = .bool x24_2 ∧ Aside0 (spec_l20Rd_pick.j0 kq a1 x24_2 s0_0 (wrap64 (s0_1 + 1)) = some (r1, r2)) ∧ Aside0 (kq ≤ k) ∧ Aside0 (IsS62 w0 wc g s0_0 (wrap64 (s0_1 + 1))) ∧ Aside0 (KeepBut w wc g none) ∧ Aside0 (Below w0.heap.size w0 wc))
  case first =>
    have H := HC3.out
    clear HC3
    by_cases c5 : a1 < 1
    · rw [if_pos c5] at H
      have c5b0 : decide (a1 < 1) = true := decide_eq_true c5
      clear c5
      (first | rw [c5b0] | (simp only [i64_w, i32_w]; rw [c5b0]) | skip)
      have H' := Aside0.mk H
      clear H
      go_wp2
      repeat (go_quiet (fail); try go_wp2)
      go_meet
      case rel => exact ⟨_, (true), (by first | rfl | (simp; done) | (simp [*]; done)), H', ⟨by first | omega | exact Nat.le_refl _⟩, ⟨by repeat (first | (with_reducible first | exact HI0.out | apply IsS62.alloc | apply IsS62.drewN | apply IsS62.drew | apply IsS62.set_1) | exact HI0.out)⟩, ⟨by repeat (first | (with_reducible first | exact HK.out | apply KeepBut.set_ | apply keep_drewN | apply keep_drew | apply keep_alloc) | exact HK.out)⟩, ⟨by repeat (first | (with_reducible first | exact HB.out | apply below_alloc | apply pw_below_drewN | apply below_drew1 | refine below_set ?_ (IsS62.ge HI0.out)) | exact HB.out)⟩⟩
    · rw [if_neg c5] at H
      have c5b0 : decide (a1 < 1) = false := decide_eq_false c5
      clear c5
      (first | rw [c5b0] | (simp only [i64_w, i32_w]; rw [c5b0]) | skip)
      have H' := Aside0.mk H
      clear H
      obtain ⟨ASz6_0, cSz6_0, HGz6, hgz6, HSz6_0⟩ := HI0.out
      have hcz6_0 := cellS62_0 HGz6
      have hcz6_1 := cellS62_1 HGz6
      have hfz6_1 := blk_frozen HGz6 1
      clear HGz6 hgz6
      go_wp2
      repeat (go_quiet (fail); try go_wp2)
      go_meet
      case rel => exact ⟨_, (((s0_0.length : Int) == 0)), (by first | rfl | (simp; done) | (simp [*]; done)), H', ⟨by first | omega | exact Nat.le_refl _⟩, ⟨by repeat (first | (with_reducible first | exact HI0.out | apply IsS62.alloc | apply IsS62.drewN | apply IsS62.drew | apply IsS62.set_1) | exact HI0.out)⟩, ⟨by repeat (first | (with_reducible first | exact HK.out | apply KeepBut.set_ | apply keep_drewN | apply keep_drew | apply keep_alloc) | exact HK.out)⟩, ⟨by repeat (first | (with_reducible first | exact HB.out | apply below_alloc | apply pw_below_drewN | apply below_drew1 | refine below_set ?_ (IsS62.ge HI0.out)) | exact HB.out)⟩⟩
  case rest =>
    clear HC3
    try clear c2
    try clear p2
    try clear c5
    try clear c5b0
    try clear p6
    try clear hcz4_0
    try clear hcz4_1
    try clear hcz6_0
    try clear hcz6_1
    try clear hfz4_1
    try clear hfz6_1
    obtain ⟨kq, x24_2, rfl, HA, HJ2, HI0, HK, HB⟩ := hcut
    cases kq with
    | zero => exact absurd HA.out (by simp [spec_l20Rd_pick.j0])
    | succ kj2 =>
      have H := HA.out
      clear HA
      simp only [spec_l20Rd_pick.j0] at H
      by_cases c7 : x24_2 = true
      · subst c7
        have H1 : (some (0, (wrap64 (s0_1 + 1)))) = some (r1, r2) := by rw [if_pos rfl] at H; exact H
        clear H
        have H := H1
        clear H1
        simp only [Option.some.injEq, Prod.mk.injEq] at H
        obtain ⟨rfl, rfl⟩ := H
        go_wp2
        repeat (go_quiet (fail); try go_wp2)
        go_ret
        exact ⟨by first | rfl | (simp [errW_none, errW_some] <;> rfl) | (simp [*, errW_none, errW_some] <;> rfl), by repeat (first | (with_reducible first | exact HI0.out | apply IsS62.alloc | apply IsS62.drewN | apply IsS62.drew | apply IsS62.set_1) | exact HI0.out), by repeat (first | (with_reducible first | exact HB.out | apply below_alloc | apply pw_below_drewN | apply below_drew1 | refine below_set ?_ (IsS62.ge HI0.out)) | exact HB.out), by repeat (first | (with_reducible first | exact HK.out | apply KeepBut.set_ | apply keep_drewN | apply keep_drew | apply keep_alloc) | exact HK.out)⟩
      · replace c7 := Bool.eq_false_iff.mpr c7
        subst c7
        have H1 : (if (wrap64 ((wrap64 (s0_1 + 1)) - 1)) < (s0_0.length : Int) then (if 0 ≤ (wrap64 ((wrap64 (s0_1 + 1)) - 1)) then (if a1 = 0 then (none) else (some (Int.tmod (wrap64 (rd s0_0 (wrap64 ((wrap64 (s0_1 + 1)) - 1)))) a1, (wrap64 (s0_1 + 1))))) else (none)) else (if (s0_0.length : Int) = 0 then (none) else (if 0 ≤ (Int.tmod (wrap64 ((wrap64 (s0_1 + 1)) - 1)) (s0_0.length : Int)) then (if (Int.tmod (wrap64 ((wrap64 (s0_1 + 1)) - 1)) (s0_0.length : Int)) < (s0_0.length : Int) then (if 0 ≤ (Int.tmod (wrap64 ((wrap64 ((wrap64 ((wrap64 (s0_1 + 1)) - 1)) * 7)) + 3)) (s0_0.length : Int)) then (if (Int.tmod (wrap64 ((wrap64 ((wrap64 ((wrap64 (s0_1 + 1)) - 1)) * 7)) + 3)) (s0_0.length : Int)) < (s0_0.length : Int) then (if a1 = 0 then (none) else (some (Int.tmod (Go.bits .xor .i64 (wrap64 ((wrap64 ((wrap64 ((wrap64 ((wrap64 (rd s0_0 (Int.tmod (wrap64 ((wrap64 (s0_1 + 1)) - 1)) (s0_0.length : Int)))) * 131)) + (wrap64 ((wrap64 (rd s0_0 (Int.tmod (wrap64 ((wrap64 ((wrap64 ((wrap64 (s0_1 + 1)) - 1)) * 7)) + 3)) (s0_0.length : Int)))) * 1117)))) + (wrap64 ((wrap64 ((wrap64 (s0_1 + 1)) - 1)) * 29)))) + (wrap64 ((wrap64 (Int.tdiv (wrap64 ((wrap64 (s0_1 + 1)) - 1)) (s0_0.length : Int))) * 53)))) (wrap64 (Int.tdiv (wrap64 ((wrap64 ((wrap64 ((wrap64 ((wrap64 (rd s0_0 (Int.tmod (wrap64 ((wrap64 (s0_1 + 1)) - 1)) (s0_0.length : Int)))) * 131)) + (wrap64 ((wrap64 (rd s0_0 (Int.tmod (wrap64 ((wrap64 ((wrap64 ((wrap64 (s0_1 + 1)) - 1)) * 7)) + 3)) (s0_0.length : Int)))) * 1117)))) + (wrap64 ((wrap64 ((wrap64 (s0_1 + 1)) - 1)) * 29)))) + (wrap64 ((wrap64 (Int.tdiv (wrap64 ((wrap64 (s0_1 + 1)) - 1)) (s0_0.length : Int))) * 53)))) 64))) a1, (wrap64 (s0_1 + 1))))) else (none)) else (none)) else (none)) else (none)))) = some (r1, r2) := by rw [if_neg (show ¬ (false = true) by decide)] at H; exact H
        clear H
        have H := H1
        clear H1
        by_cases c8 : (wrap64 ((wrap64 (s0_1 + 1)) - 1)) < (s0_0.length : Int)
        · rw [if_pos c8] at H
          have c8b0 : decide ((wrap64 ((wrap64 (s0_1 + 1)) - 1)) < (s0_0.length : Int)) = true := decide_eq_true c8
          clear c8
          obtain ⟨ji9, hji9⟩ : ∃ j_ : Int, (wrap64 ((wrap64 (s0_1 + 1)) - 1)) = j_ := ⟨_, rfl⟩
          replace H : (if 0 ≤ (ji9) then (if a1 = 0 then (none) else (some (Int.tmod (wrap64 (rd s0_0 (ji9))) a1, (wrap64 (s0_1 + 1))))) else (none)) = some (r1, r2) := by first | (rw [hji9] at H; exact H) | (simp only [hji9] at H ⊢; exact H)
          (try rw [hji9] at c8b0)
          have hji9w : (IntKind.i64.wrap ((wrap64 (s0_1 + 1)) - 1)) = ji9 := (i64_w _).trans hji9
          by_cases c10 : 0 ≤ (ji9)
          · rw [if_pos c10] at H
            have c10b0 : decide (0 ≤ (ji9)) = true := decide_eq_true c10
            clear c10
            by_cases c11 : a1 = 0
            · rw [if_pos c11] at H
              exact absurd H (by simp)
            · rw [if_neg c11] at H
              have c11b0 : (a1 == 0) = false := beq_eq_false_iff_ne.mpr c11
              have c11b1 : (a1 != 0) = true := bne_iff_ne.mpr c11
              simp only [Option.some.injEq, Prod.mk.injEq] at H
              obtain ⟨rfl, rfl⟩ := H
              obtain ⟨ASz12_0, cSz12_0, HGz12, hgz12, HSz12_0⟩ := HI0.out
              have hcz12_0 := cellS62_0 HGz12
              have hcz12_1 := cellS62_1 HGz12
              have hfz12_1 := blk_frozen HGz12 1
              clear HGz12 hgz12
              have p238 : 0 ≤ ((ji9) : Int) := of_decide_eq_true (by first | (with_reducible assumption) | assumption)
              have q238 : (ji9) < (s0_0.length : Int) := of_decide_eq_true (by first | (with_reducible assumption) | assumption)
              obtain ⟨ad238, e238, hx238_0⟩ := Kd.at_int HSz12_0 (ji9) p238 q238
              cases e238
              replace hx238_0 := pw_cell_below HB.out hx238_0
              replace p238 := eq_true p238
              replace q238 := eq_true q238
              go_wp2
              repeat (go_quiet (fail); try go_wp2)
              go_ret
              exact ⟨by first | rfl | (simp [errW_none, errW_some] <;> rfl) | (simp only [← hji9]; first | rfl | (simp [errW_none, errW_some] <;> rfl)) | (simp [*, errW_none, errW_some] <;> rfl), by repeat (first | (with_reducible first | exact HI0.out | apply IsS62.alloc | apply IsS62.drewN | apply IsS62.drew | apply IsS62.set_1) | exact HI0.out), by repeat (first | (with_reducible first | exact HB.out | apply below_alloc | apply pw_below_drewN | apply below_drew1 | refine below_set ?_ (IsS62.ge HI0.out)) | exact HB.out), by repeat (first | (with_reducible first | exact HK.out | apply KeepBut.set_ | apply keep_drewN | apply keep_drew | apply keep_alloc) | exact HK.out)⟩
          · rw [if_neg c10] at H
            exact absurd H (by simp)
        · rw [if_neg c8] at H
          have c8b0 : decide ((wrap64 ((wrap64 (s0_1 + 1)) - 1)) < (s0_0.length : Int)) = false := decide_eq_false c8
          clear c8
          by_cases c13 : (s0_0.length : Int) = 0
          · rw [if_pos c13] at H
            exact absurd H (by simp)
          · rw [if_neg c13] at H
            have c13b0 : ((s0_0.length : Int) == 0) = false := beq_eq_false_iff_ne.mpr c13
            have c13b1 : ((s0_0.length : Int) != 0) = true := bne_iff_ne.mpr c13
            have c13b2 : ¬ (s0_0 = []) := fun h_ => c13 (by rw [h_]; rfl)
            obtain ⟨ji14, hji14⟩ : ∃ j_ : Int, (Int.tmod (wrap64 ((wrap64 (s0_1 + 1)) - 1)) (s0_0.length : Int)) = j_ := ⟨_, rfl⟩
            replace H : (if 0 ≤ (ji14) then (if (ji14) < (s0_0.length : Int) then (if 0 ≤ (Int.tmod (wrap64 ((wrap64 ((wrap64 ((wrap64 (s0_1 + 1)) - 1)) * 7)) + 3)) (s0_0.length : Int)) then (if (Int.tmod (wrap64 ((wrap64 ((wrap64 ((wrap64 (s0_1 + 1)) - 1)) * 7)) + 3)) (s0_0.length : Int)) < (s0_0.length : Int) then (if a1 = 0 then (none) else (some (Int.tmod (Go.bits .xor .i64 (wrap64 ((wrap64 ((wrap64 ((wrap64 ((wrap64 (rd s0_0 (ji14))) * 131)) + (wrap64 ((wrap64 (rd s0_0 (Int.tmod (wrap64 ((wrap64 ((wrap64 ((wrap64 (s0_1 + 1)) - 1)) * 7)) + 3)) (s0_0.length : Int)))) * 1117)))) + (wrap64 ((wrap64 ((wrap64 (s0_1 + 1)) - 1)) * 29)))) + (wrap64 ((wrap64 (Int.tdiv (wrap64 ((wrap64 (s0_1 + 1)) - 1)) (s0_0.length : Int))) * 53)))) (wrap64 (Int.tdiv (wrap64 ((wrap64 ((wrap64 ((wrap64 ((wrap64 (rd s0_0 (ji14))) * 131)) + (wrap64 ((wrap64 (rd s0_0 (Int.tmod (wrap64 ((wrap64 ((wrap64 ((wrap64 (s0_1 + 1)) - 1)) * 7)) + 3)) (s0_0.length : Int)))) * 1117)))) + (wrap64 ((wrap64 ((wrap64 (s0_1 + 1)) - 1)) * 29)))) + (wrap64 ((wrap64 (Int.tdiv (wrap64 ((wrap64 (s0_1 + 1)) - 1)) (s0_0.length : Int))) * 53)))) 64))) a1, (wrap64 (s0_1 + 1))))) else (none)) else (none)) else (none)) else (none)) = some (r1, r2) := by first | (rw [hji14] at H; exact H) | (simp only [hji14] at H ⊢; exact H)
            by_cases c15 : 0 ≤ (ji14)
            · rw [if_pos c15] at H
              have c15b0 : decide (0 ≤ (ji14)) = true := decide_eq_true c15
              clear c15
              by_cases c16 : (ji14) < (s0_0.length : Int)
              · rw [if_pos c16] at H
                have c16b0 : decide ((ji14) < (s0_0.length : Int)) = true := decide_eq_true c16
                clear c16
                obtain ⟨ji17, hji17⟩ : ∃ j_ : Int, (Int.tmod (wrap64 ((wrap64 ((wrap64 ((wrap64 (s0_1 + 1)) - 1)) * 7)) + 3)) (s0_0.length : Int)) = j_ := ⟨_, rfl⟩
                replace H : (if 0 ≤ (ji17) then (if (ji17) < (s0_0.length : Int) then (if a1 = 0 then (none) else (some (Int.tmod (Go.bits .xor .i64 (wrap64 ((wrap64 ((wrap64 ((wrap64 ((wrap64 (rd s0_0 (ji14))) * 131)) + (wrap64 ((wrap64 (rd s0_0 (ji17))) * 1117)))) + (wrap64 ((wrap64 ((wrap64 (s0_1 + 1)) - 1)) * 29)))) + (wrap64 ((wrap64 (Int.tdiv (wrap64 ((wrap64 (s0_1 + 1)) - 1)) (s0_0.length : Int))) * 53)))) (wrap64 (Int.tdiv (wrap64 ((wrap64 ((wrap64 ((wrap64 ((wrap64 (rd s0_0 (ji14))) * 131)) + (wrap64 ((wrap64 (rd s0_0 (ji17))) * 1117)))) + (wrap64 ((wrap64 ((wrap64 (s0_1 + 1)) - 1)) * 29)))) + (wrap64 ((wrap64 (Int.tdiv (wrap64 ((wrap64 (s0_1 + 1)) - 1)) (s0_0.length : Int))) * 53)))) 64))) a1, (wrap64 (s0_1 + 1))))) else (none)) else (none)) = some (r1, r2) := by first | (rw [hji17] at H; exact H) | (simp only [hji17] at H ⊢; exact H)
                by_cases c18 : 0 ≤ (ji17)
                · rw [if_pos c18] at H
                  have c18b0 : decide (0 ≤ (ji17)) = true := decide_eq_true c18
                  clear c18
                  by_cases c19 : (ji17) < (s0_0.length : Int)
                  · rw [if_pos c19] at H
                    have c19b0 : decide ((ji17) < (s0_0.length : Int)) = true := decide_eq_true c19
                    clear c19
                    by_cases c20 : a1 = 0
                    · rw [if_pos c20] at H
                      exact absurd H (by simp)
                    · rw [if_neg c20] at H
                      have c20b0 : (a1 == 0) = false := beq_eq_false_iff_ne.mpr c20
                      have c20b1 : (a1 != 0) = true := bne_iff_ne.mpr c20
                      simp only [Option.some.injEq, Prod.mk.injEq] at H
                      obtain ⟨rfl, rfl⟩ := H
                      obtain ⟨ASz21_0, cSz21_0, HGz21, hgz21, HSz21_0⟩ := HI0.out
                      have hcz21_0 := cellS62_0 HGz21
                      have hcz21_1 := cellS62_1 HGz21
                      have hfz21_1 := blk_frozen HGz21 1
                      clear HGz21 hgz21
                      have p239 : 0 ≤ ((ji14) : Int) := of_decide_eq_true (by first | (with_reducible assumption) | assumption)
                      have q239 : (ji14) < (s0_0.length : Int) := of_decide_eq_true (by first | (with_reducible assumption) | assumption)
                      obtain ⟨ad239, e239, hx239_0⟩ := Kd.at_int HSz21_0 (ji14) p239 q239
                      cases e239
                      replace hx239_0 := pw_cell_below HB.out hx239_0
                      replace p239 := eq_true p239
                      replace q239 := eq_true q239
                      have p240 : 0 ≤ ((ji17) : Int) := of_decide_eq_true (by first | (with_reducible assumption) | assumption)
                      have q240 : (ji17) < (s0_0.length : Int) := of_decide_eq_true (by first | (with_reducible assumption) | assumption)
                      obtain ⟨ad240, e240, hx240_0⟩ := Kd.at_int HSz21_0 (ji17) p240 q240
                      obtain rfl : ad239 = ad240 := (by injection e240)
                      replace hx240_0 := pw_cell_below HB.out hx240_0
                      replace p240 := eq_true p240
                      replace q240 := eq_true q240
                      go_wp2
                      repeat (go_quiet (fail); try go_wp2)
                      go_ret
                      exact ⟨by first | rfl | (simp [errW_none, errW_some] <;> rfl) | (simp only [← hji14, ← hji17]; first | rfl | (simp [errW_none, errW_some] <;> rfl)) | (simp [*, errW_none, errW_some] <;> rfl), by repeat (first | (with_reducible first | exact HI0.out | apply IsS62.alloc | apply IsS62.drewN | apply IsS62.drew | apply IsS62.set_1) | exact HI0.out), by repeat (first | (with_reducible first | exact HB.out | apply below_alloc | apply pw_below_drewN | apply below_drew1 | refine below_set ?_ (IsS62.ge HI0.out)) | exact HB.out), by repeat (first | (with_reducible first | exact HK.out | apply KeepBut.set_ | apply keep_drewN | apply keep_drew | apply keep_alloc) | exact HK.out)⟩
                  · rw [if_neg c19] at H
                    exact absurd H (by simp)
                · rw [if_neg c18] at H
                  exact absurd H (by simp)
              · rw [if_neg c16] at H
                exact absurd H (by simp)
            · rw [if_neg c15] at H
              exact absurd H (by simp)

end Go.Proofs.YtiocgkggegahhaaDoor.P
