import Derived.Test.YtffmbccgcaghjaaGreatDoorGLawFnExactRwrLinex7
-- written by hw.py for this claim
namespace Go.Proofs.YtffmbccgcaghjaaGreatDoor.P
open Go.RowKit Go.Proofs.YtffmbccgcaghjaaGreatDoorUFnExactRwrLine.PrintWords Go.Proofs.YtffmbccgcaghjaaGreatDoorUFnExactRwrLine.PrintLast Go.Proofs.YtffmbccgcaghjaaGreatDoorUFnExactRwrLine.PrintMore
attribute [local go_sem] max2_int min2_int max_two min_two max_three min_three max_four min_four
set_option linter.unusedVariables false
set_option linter.unusedSimpArgs false

/-! ### impl_RwrLine: function 13 -/
def impl_RwrLine.f (k : Nat) (l0_0 : List (S34)) (a1 : ByteArray) : Option ((List (S34)) × ByteArray) := (impl_MapOk.f k l0_0).bind fun t401 => (if t401 = true then ((impl_LinOk.f a1).bind fun t402 => (if t402 = true then ((impl_MapTab_goesOut.f l0_0 a1).bind fun bt403 => (some (bt403.1, bt403.2))) else (some (([] : List (S34)), (⟨#[]⟩ : ByteArray))))) else (some (([] : List (S34)), (⟨#[]⟩ : ByteArray))))
theorem impl_RwrLine.mono : ∀ a0 a1 k, LeO (impl_RwrLine.f k a0 a1) (impl_RwrLine.f (k + 1) a0 a1) := by
  intro a0 a1 k
  unfold impl_RwrLine.f
  repeat' first
      | (with_reducible exact impl_MapOk.mono _ _)
      | (with_reducible exact LeO.refl _)
      | (with_reducible exact LeO.none _)
      | (with_reducible refine LeO.ite ?_ ?_)
      | (with_reducible refine LeO.bind ?_ (fun _ => ?_))
      | exact impl_MapOk.mono _ _
      | exact LeO.none _
      | refine LeO.ite ?_ ?_
      | refine LeO.bind ?_ (fun _ => ?_)
set_option maxHeartbeats 8000000 in
set_option maxRecDepth 100000 in
theorem impl_RwrLine.calls (k : Nat) (A0_0 : Option Addr) (c0_0 : Nat) (l0_0 : List (S34)) (a1 : ByteArray) (r1 : List (S34)) (r2 : ByteArray) (w : World) (hr0_0 : Kd.C k34 w A0_0 l0_0.length l0_0) (hc0_0 : l0_0.length ≤ c0_0) (h : impl_RwrLine.f k l0_0 a1 = some (r1, r2)) (hE : EnvE w) :
    Calls Tryz.prog 13 #[.agg #[.slice A0_0 l0_0.length c0_0], .string a1] w fun e w' => ∃ v0_ : Value, e = .returned (.tuple #[.agg #[v0_], .string r2]) ∧ Kd.R k34 34 w' w.heap.size (fun _ => True) v0_ r1 ∧ Below w.heap.size w w' := by
  have hu25 := Tryz.underlying25
  have HR0_0 := Aside0.mk hr0_0
  have HC0_0 := Aside0.mk hc0_0
  clear hr0_0 hc0_0
  have HB := Aside0.mk (Below.refl w.heap.size w)
  have H : ((impl_MapOk.f k l0_0).bind fun t401 => (if t401 = true then ((impl_LinOk.f a1).bind fun t402 => (if t402 = true then ((impl_MapTab_goesOut.f l0_0 a1).bind fun bt403 => (some (bt403.1, bt403.2))) else (some (([] : List (S34)), (⟨#[]⟩ : ByteArray))))) else (some (([] : List (S34)), (⟨#[]⟩ : ByteArray))))) = some (r1, r2) := h
  clear h
  replace H := Option.bind_eq_some_iff.mp H
  obtain ⟨t401, A30, H⟩ := H
  replace H : (if t401 = true then ((impl_LinOk.f a1).bind fun t402 => (if t402 = true then ((impl_MapTab_goesOut.f l0_0 a1).bind fun bt403 => (some (bt403.1, bt403.2))) else (some (([] : List (S34)), (⟨#[]⟩ : ByteArray))))) else (some (([] : List (S34)), (⟨#[]⟩ : ByteArray)))) = some (r1, r2) := H
  have A3 := Aside0.mk A30
  clear A30
  by_cases c4 : t401 = true
  · subst c4
    have H1 : ((impl_LinOk.f a1).bind fun t402 => (if t402 = true then ((impl_MapTab_goesOut.f l0_0 a1).bind fun bt403 => (some (bt403.1, bt403.2))) else (some (([] : List (S34)), (⟨#[]⟩ : ByteArray))))) = some (r1, r2) := by rw [if_pos rfl] at H; exact H
    clear H
    have H := H1
    clear H1
    replace H := Option.bind_eq_some_iff.mp H
    obtain ⟨t402, A50, H⟩ := H
    replace H : (if t402 = true then ((impl_MapTab_goesOut.f l0_0 a1).bind fun bt403 => (some (bt403.1, bt403.2))) else (some (([] : List (S34)), (⟨#[]⟩ : ByteArray)))) = some (r1, r2) := H
    have A5 := Aside0.mk A50
    clear A50
    by_cases c6 : t402 = true
    · subst c6
      have H1 : ((impl_MapTab_goesOut.f l0_0 a1).bind fun bt403 => (some (bt403.1, bt403.2))) = some (r1, r2) := by rw [if_pos rfl] at H; exact H
      clear H
      have H := H1
      clear H1
      replace H := Option.bind_eq_some_iff.mp H
      obtain ⟨⟨t403, t406⟩, A70, H⟩ := H
      replace H : (some (t403, t406)) = some (r1, r2) := H
      have A7 := Aside0.mk A70
      clear A70
      simp only [Option.some.injEq, Prod.mk.injEq] at H
      obtain ⟨rfl, rfl⟩ := H
      go_enter Tryz.func13, Tryz.ntmps13
      go_wp2_with (first | ((with_reducible refine gate_dst (N := 2) rfl ?_); refine box_event ?hg (N := 2) ?hd (cs := #[.slice A0_0 l0_0.length c0_0]) (t := 25) ?hr ?_; (case hd => rfl); (case hg => rfl); (case hr => first | (go_simp; done) | (go_simp; rfl)); intro gb399 hg w8 hbox hb; have n0_ := Aside0.mk (below_step (bl HB) hb); have n1_ := Aside0.mk (hbox); have n2_ := Aside0.mk ((by rw [hg]; exact (below_size (bl HB)) : w.heap.size ≤ gb399)); have n3_ := Aside0.mk ((by rw [hg]; exact (below_size (bl HB)) : w.heap.size ≤ gb399)); clear HB; have HB := n0_; have BK399 := n1_; have GW399 := n2_; have GE399 := n3_; clear n0_ n1_ n2_ n3_; clear hb hbox hg) | ((with_reducible refine gate_dst (N := 4) rfl ?_); refine box_event ?hg (N := 4) ?hd (cs := #[.slice none 0 0]) (t := 25) ?hr ?_; (case hd => rfl); (case hg => rfl); (case hr => first | (go_simp; done) | (go_simp; rfl)); intro gb400 hg w9 hbox hb; have n0_ := bkB BK399 hb; have n1_ := Aside0.mk (below_step (bl HB) hb); have n2_ := Aside0.mk (hbox); have n3_ := Aside0.mk ((by rw [hg]; exact (below_size (bl HB)) : w.heap.size ≤ gb400)); have n4_ := Aside0.mk ((by rw [hg]; exact (below_size (bl HB)) : w.heap.size ≤ gb400)); have n5_ := Aside0.mk ((by rw [hg]; exact Nat.ne_of_lt (bkL BK399) : gb399 ≠ gb400)); have n6_ := Aside0.mk ((by rw [hg]; exact Nat.ne_of_gt (bkL BK399) : gb400 ≠ gb399)); clear BK399; clear HB; have BK399 := n0_; have HB := n1_; have BK400 := n2_; have GW400 := n3_; have GE400 := n4_; have NB399_400 := n5_; have NB400_399 := n6_; clear n0_ n1_ n2_ n3_ n4_ n5_ n6_; clear hb hbox hg; have hnb10 := NB399_400.out; have hnc10 := NB400_399.out; have hcz11_0 : w9.cell? ⟨gb399, 0, none⟩ = some (.slice A0_0 l0_0.length c0_0) := (blk_cell BK399.out 0).trans rfl; have hfz11_0 := blk_frozen BK399.out 0) | ((with_reducible refine gate_callee (f := 20) rfl ?_); refine goesL_ (some 7) rfl rfl Tryz.func20 (by kernel_rfl) rfl #[.agg #[.slice A0_0 l0_0.length c0_0]] rfl (by (try simp only [List.map_toArray, List.map_cons, List.map_nil]); first | done | rfl | (simp only [List.length_drop, List.length_take]; rfl)) ?_; (with_reducible refine (impl_MapOk.calls k _ _ l0_0 true _ ?side1 ?side2 A3.out).mono ?_); (case side1 => repeat (first | exact (Kd.C_below HR0_0.out HB.out) | (with_reducible refine Kd.C_alloc ?_ _) | (with_reducible refine Kd.C_drewN ?_ _) | (with_reducible refine Kd.C_drew ?_))); (case side2 => exact HC0_0.out); rintro e w12 ⟨rfl, hb⟩; refine ⟨_, rfl, ?_⟩; have n0_ := bkB BK399 hb; have n1_ := bkB BK400 hb; have n2_ := Aside0.mk (below_step (bl HB) hb); clear BK399; clear BK400; clear HB; have BK399 := n0_; have BK400 := n1_; have HB := n2_; clear n0_ n1_ n2_; (try clear hb); (try clear hb2); (try clear hk); (try clear hi)) | (go_at_call 22; (with_reducible refine (impl_LinOk.calls a1 true _ A5.out).mono ?_); rintro e w13 ⟨rfl, hb⟩; have n0_ := bkB BK399 hb; have n1_ := bkB BK400 hb; have n2_ := Aside0.mk (below_step (bl HB) hb); clear BK399; clear BK400; clear HB; have BK399 := n0_; have BK400 := n1_; have HB := n2_; clear n0_ n1_ n2_; (try clear hb); (try clear hb2); (try clear hk); (try clear hi); have hcz14_0 : w13.cell? ⟨gb399, 0, none⟩ = some (.slice A0_0 l0_0.length c0_0) := (blk_cell BK399.out 0).trans rfl; have hfz14_0 := blk_frozen BK399.out 0) | ((with_reducible refine gate_callee (f := 45) rfl ?_); refine goesL_ (some 17) rfl rfl Tryz.func45 (by kernel_rfl) rfl #[.agg #[.slice A0_0 l0_0.length c0_0], .string a1] rfl (by (try simp only [List.map_toArray, List.map_cons, List.map_nil]); first | done | rfl | (simp only [List.length_drop, List.length_take]; rfl)) ?_; (with_reducible refine (impl_MapTab_goesOut.calls _ _ l0_0 a1 t403 t406 _ ?side1 ?side2 A7.out (EnvE.below hE (bl HB))).mono ?_); (case side1 => repeat (first | exact (Kd.C_below HR0_0.out HB.out) | (with_reducible refine Kd.C_alloc ?_ _) | (with_reducible refine Kd.C_drewN ?_ _) | (with_reducible refine Kd.C_drew ?_))); (case side2 => exact HC0_0.out); rintro e w15 ⟨v404, rfl, ho0, hb⟩; refine ⟨_, rfl, ?_⟩; have n0_ := Aside0.mk (Kd.R_lower ho0 (below_size (bl HB))); have n1_ := bkB BK399 hb; have n2_ := bkB BK400 hb; have n3_ := Aside0.mk (below_step (bl HB) hb); clear BK399; clear BK400; clear HB; have HO405 := n0_; have BK399 := n1_; have BK400 := n2_; have HB := n3_; clear n0_ n1_ n2_ n3_; (try clear hb); (try clear hb2); (try clear hk); (try clear hi); (try clear ho0); obtain ⟨Ao16, co16, eo16⟩ := Kd.R_slice HO405.out; subst eo16; have hcz17_0 : w15.cell? ⟨gb400, 0, none⟩ = some (.slice none 0 0) := (blk_cell BK400.out 0).trans rfl; have hfz17_0 := blk_frozen BK400.out 0))
      refine bodyPost_ret (results_ct rfl _ _ gb400 25 #[.slice Ao16 t403.length co16] (0, 0) _ rfl (by (with_reducible repeat refine bu ?_); refine blk_put (cs := #[.slice none 0 0]) ?_ 0 _ rfl; (with_reducible repeat refine bu ?_); exact BK400.out) Tryz.underlying25 rfl (by kernel_rfl)) rfl ?_
      exact ⟨_, by first | rfl | (simp [errW_none, errW_some] <;> rfl) | (simp [*, errW_none, errW_some] <;> rfl), by (with_reducible repeat apply ru); exact Kd.R_mono (Kd.R_far (p := ⟨gb400, 0, none⟩) (Kd.R_types HO405.out BK400.out (by decide)) (fun _ hk => hk.2) (.slice Ao16 t403.length co16)) (fun _ hk => trivial), by repeat (first | (with_reducible first | exact HB.out | apply below_alloc | apply pw_below_drewN | apply below_drew1 | refine below_set ?_ GE399.out | refine below_set ?_ GE400.out) | exact HB.out)⟩
    · replace c6 := Bool.eq_false_iff.mpr c6
      subst c6
      have H1 : (some (([] : List (S34)), (⟨#[]⟩ : ByteArray))) = some (r1, r2) := by rw [if_neg (show ¬ (false = true) by decide)] at H; exact H
      clear H
      have H := H1
      clear H1
      simp only [Option.some.injEq, Prod.mk.injEq] at H
      obtain ⟨rfl, rfl⟩ := H
      go_enter Tryz.func13, Tryz.ntmps13
      go_wp2_with (first | ((with_reducible refine gate_dst (N := 2) rfl ?_); refine box_event ?hg (N := 2) ?hd (cs := #[.slice A0_0 l0_0.length c0_0]) (t := 25) ?hr ?_; (case hd => rfl); (case hg => rfl); (case hr => first | (go_simp; done) | (go_simp; rfl)); intro gb399 hg w18 hbox hb; have n0_ := Aside0.mk (below_step (bl HB) hb); have n1_ := Aside0.mk (hbox); have n2_ := Aside0.mk ((by rw [hg]; exact (below_size (bl HB)) : w.heap.size ≤ gb399)); have n3_ := Aside0.mk ((by rw [hg]; exact (below_size (bl HB)) : w.heap.size ≤ gb399)); clear HB; have HB := n0_; have BK399 := n1_; have GW399 := n2_; have GE399 := n3_; clear n0_ n1_ n2_ n3_; clear hb hbox hg) | ((with_reducible refine gate_dst (N := 4) rfl ?_); refine box_event ?hg (N := 4) ?hd (cs := #[.slice none 0 0]) (t := 25) ?hr ?_; (case hd => rfl); (case hg => rfl); (case hr => first | (go_simp; done) | (go_simp; rfl)); intro gb400 hg w19 hbox hb; have n0_ := bkB BK399 hb; have n1_ := Aside0.mk (below_step (bl HB) hb); have n2_ := Aside0.mk (hbox); have n3_ := Aside0.mk ((by rw [hg]; exact (below_size (bl HB)) : w.heap.size ≤ gb400)); have n4_ := Aside0.mk ((by rw [hg]; exact (below_size (bl HB)) : w.heap.size ≤ gb400)); have n5_ := Aside0.mk ((by rw [hg]; exact Nat.ne_of_lt (bkL BK399) : gb399 ≠ gb400)); have n6_ := Aside0.mk ((by rw [hg]; exact Nat.ne_of_gt (bkL BK399) : gb400 ≠ gb399)); clear BK399; clear HB; have BK399 := n0_; have HB := n1_; have BK400 := n2_; have GW400 := n3_; have GE400 := n4_; have NB399_400 := n5_; have NB400_399 := n6_; clear n0_ n1_ n2_ n3_ n4_ n5_ n6_; clear hb hbox hg; have hnb20 := NB399_400.out; have hnc20 := NB400_399.out; have hcz21_0 : w19.cell? ⟨gb399, 0, none⟩ = some (.slice A0_0 l0_0.length c0_0) := (blk_cell BK399.out 0).trans rfl; have hfz21_0 := blk_frozen BK399.out 0) | ((with_reducible refine gate_callee (f := 20) rfl ?_); refine goesL_ (some 7) rfl rfl Tryz.func20 (by kernel_rfl) rfl #[.agg #[.slice A0_0 l0_0.length c0_0]] rfl (by (try simp only [List.map_toArray, List.map_cons, List.map_nil]); first | done | rfl | (simp only [List.length_drop, List.length_take]; rfl)) ?_; (with_reducible refine (impl_MapOk.calls k _ _ l0_0 true _ ?side1 ?side2 A3.out).mono ?_); (case side1 => repeat (first | exact (Kd.C_below HR0_0.out HB.out) | (with_reducible refine Kd.C_alloc ?_ _) | (with_reducible refine Kd.C_drewN ?_ _) | (with_reducible refine Kd.C_drew ?_))); (case side2 => exact HC0_0.out); rintro e w22 ⟨rfl, hb⟩; refine ⟨_, rfl, ?_⟩; have n0_ := bkB BK399 hb; have n1_ := bkB BK400 hb; have n2_ := Aside0.mk (below_step (bl HB) hb); clear BK399; clear BK400; clear HB; have BK399 := n0_; have BK400 := n1_; have HB := n2_; clear n0_ n1_ n2_; (try clear hb); (try clear hb2); (try clear hk); (try clear hi)) | (go_at_call 22; (with_reducible refine (impl_LinOk.calls a1 false _ A5.out).mono ?_); rintro e w23 ⟨rfl, hb⟩; have n0_ := bkB BK399 hb; have n1_ := bkB BK400 hb; have n2_ := Aside0.mk (below_step (bl HB) hb); clear BK399; clear BK400; clear HB; have BK399 := n0_; have BK400 := n1_; have HB := n2_; clear n0_ n1_ n2_; (try clear hb); (try clear hb2); (try clear hk); (try clear hi); have hcz24_0 : w23.cell? ⟨gb400, 0, none⟩ = some (.slice none 0 0) := (blk_cell BK400.out 0).trans rfl; have hfz24_0 := blk_frozen BK400.out 0))
      refine bodyPost_ret (results_ct rfl _ _ gb400 25 #[.slice none 0 0] (0, 0) _ rfl (by (with_reducible repeat refine bu ?_); refine blk_put (cs := #[.slice none 0 0]) ?_ 0 _ rfl; (with_reducible repeat refine bu ?_); exact BK400.out) Tryz.underlying25 rfl (by kernel_rfl)) rfl ?_
      exact ⟨_, by first | rfl | (simp [errW_none, errW_some] <;> rfl) | (simp [*, errW_none, errW_some] <;> rfl), by first | exact Kd.R_nil _ _ _ _ _ | exact Kd.N_nil _ _ _ _ _ | exact Kd.V_nil _ _ _ _ _ | exact Kd.Q_nil _ _ _ _ _ | exact Kd.S_nil _ _ _ _ _, by repeat (first | (with_reducible first | exact HB.out | apply below_alloc | apply pw_below_drewN | apply below_drew1 | refine below_set ?_ GE399.out | refine below_set ?_ GE400.out) | exact HB.out)⟩
  · replace c4 := Bool.eq_false_iff.mpr c4
    subst c4
    have H1 : (some (([] : List (S34)), (⟨#[]⟩ : ByteArray))) = some (r1, r2) := by rw [if_neg (show ¬ (false = true) by decide)] at H; exact H
    clear H
    have H := H1
    clear H1
    simp only [Option.some.injEq, Prod.mk.injEq] at H
    obtain ⟨rfl, rfl⟩ := H
    go_enter Tryz.func13, Tryz.ntmps13
    go_wp2_with (first | ((with_reducible refine gate_dst (N := 2) rfl ?_); refine box_event ?hg (N := 2) ?hd (cs := #[.slice A0_0 l0_0.length c0_0]) (t := 25) ?hr ?_; (case hd => rfl); (case hg => rfl); (case hr => first | (go_simp; done) | (go_simp; rfl)); intro gb399 hg w25 hbox hb; have n0_ := Aside0.mk (below_step (bl HB) hb); have n1_ := Aside0.mk (hbox); have n2_ := Aside0.mk ((by rw [hg]; exact (below_size (bl HB)) : w.heap.size ≤ gb399)); have n3_ := Aside0.mk ((by rw [hg]; exact (below_size (bl HB)) : w.heap.size ≤ gb399)); clear HB; have HB := n0_; have BK399 := n1_; have GW399 := n2_; have GE399 := n3_; clear n0_ n1_ n2_ n3_; clear hb hbox hg) | ((with_reducible refine gate_dst (N := 4) rfl ?_); refine box_event ?hg (N := 4) ?hd (cs := #[.slice none 0 0]) (t := 25) ?hr ?_; (case hd => rfl); (case hg => rfl); (case hr => first | (go_simp; done) | (go_simp; rfl)); intro gb400 hg w26 hbox hb; have n0_ := bkB BK399 hb; have n1_ := Aside0.mk (below_step (bl HB) hb); have n2_ := Aside0.mk (hbox); have n3_ := Aside0.mk ((by rw [hg]; exact (below_size (bl HB)) : w.heap.size ≤ gb400)); have n4_ := Aside0.mk ((by rw [hg]; exact (below_size (bl HB)) : w.heap.size ≤ gb400)); have n5_ := Aside0.mk ((by rw [hg]; exact Nat.ne_of_lt (bkL BK399) : gb399 ≠ gb400)); have n6_ := Aside0.mk ((by rw [hg]; exact Nat.ne_of_gt (bkL BK399) : gb400 ≠ gb399)); clear BK399; clear HB; have BK399 := n0_; have HB := n1_; have BK400 := n2_; have GW400 := n3_; have GE400 := n4_; have NB399_400 := n5_; have NB400_399 := n6_; clear n0_ n1_ n2_ n3_ n4_ n5_ n6_; clear hb hbox hg; have hnb27 := NB399_400.out; have hnc27 := NB400_399.out; have hcz28_0 : w26.cell? ⟨gb399, 0, none⟩ = some (.slice A0_0 l0_0.length c0_0) := (blk_cell BK399.out 0).trans rfl; have hfz28_0 := blk_frozen BK399.out 0) | ((with_reducible refine gate_callee (f := 20) rfl ?_); refine goesL_ (some 7) rfl rfl Tryz.func20 (by kernel_rfl) rfl #[.agg #[.slice A0_0 l0_0.length c0_0]] rfl (by (try simp only [List.map_toArray, List.map_cons, List.map_nil]); first | done | rfl | (simp only [List.length_drop, List.length_take]; rfl)) ?_; (with_reducible refine (impl_MapOk.calls k _ _ l0_0 false _ ?side1 ?side2 A3.out).mono ?_); (case side1 => repeat (first | exact (Kd.C_below HR0_0.out HB.out) | (with_reducible refine Kd.C_alloc ?_ _) | (with_reducible refine Kd.C_drewN ?_ _) | (with_reducible refine Kd.C_drew ?_))); (case side2 => exact HC0_0.out); rintro e w29 ⟨rfl, hb⟩; refine ⟨_, rfl, ?_⟩; have n0_ := bkB BK399 hb; have n1_ := bkB BK400 hb; have n2_ := Aside0.mk (below_step (bl HB) hb); clear BK399; clear BK400; clear HB; have BK399 := n0_; have BK400 := n1_; have HB := n2_; clear n0_ n1_ n2_; (try clear hb); (try clear hb2); (try clear hk); (try clear hi); have hcz30_0 : w29.cell? ⟨gb400, 0, none⟩ = some (.slice none 0 0) := (blk_cell BK400.out 0).trans rfl; have hfz30_0 := blk_frozen BK400.out 0))
    refine bodyPost_ret (results_ct rfl _ _ gb400 25 #[.slice none 0 0] (0, 0) _ rfl (by (with_reducible repeat refine bu ?_); refine blk_put (cs := #[.slice none 0 0]) ?_ 0 _ rfl; (with_reducible repeat refine bu ?_); exact BK400.out) Tryz.underlying25 rfl (by kernel_rfl)) rfl ?_
    exact ⟨_, by first | rfl | (simp [errW_none, errW_some] <;> rfl) | (simp [*, errW_none, errW_some] <;> rfl), by first | exact Kd.R_nil _ _ _ _ _ | exact Kd.N_nil _ _ _ _ _ | exact Kd.V_nil _ _ _ _ _ | exact Kd.Q_nil _ _ _ _ _ | exact Kd.S_nil _ _ _ _ _, by repeat (first | (with_reducible first | exact HB.out | apply below_alloc | apply pw_below_drewN | apply below_drew1 | refine below_set ?_ GE399.out | refine below_set ?_ GE400.out) | exact HB.out)⟩

end Go.Proofs.YtffmbccgcaghjaaGreatDoor.P

/- Lines and tables in plain words: what spec's and impl's functions of lines answer. -/
namespace Go.Proofs.YtffmbccgcaghjaaGreatDoor.P
open Go.RowKit Go.Proofs.YtffmbccgcaghjaaGreatDoorUFnExactRwrLine.PrintWords Go.Proofs.YtffmbccgcaghjaaGreatDoorUFnExactRwrLine.PrintLast Go.Proofs.YtffmbccgcaghjaaGreatDoorUFnExactRwrLine.PrintMore
set_option linter.unusedVariables false
set_option linter.unusedSimpArgs false
theorem specEndOk_f (a p : Int) : spec_EndOk.f a p = some (endOkB a p) := by
  unfold spec_EndOk.f endOkB
  rw [specEndInside_f, specEndOutside_f, l1In_f]
  unfold endIn endOut
  by_cases h3 : a = 50 <;> cases inB a 1 9 <;> cases inB a 100 109 <;> cases inB p 1 999 <;> simp [h3]
theorem specEndRead_a (s : ByteArray) (hs : s.size ≤ 1048576) : Ans (fun k => spec_EndRead.f k s) (fun r => r = match readEndW s with | some (a, p) => (a, p, true) | none => (0, 0, false)) := by
  unfold spec_EndRead.f
  refine Ans.bind (words_a s hs) ?_
  rintro v rfl
  by_cases h2 : (wordsB s).length = 2
  · obtain ⟨b1, b2, hw⟩ : ∃ b1 b2, wordsB s = [b1, b2] := by
      generalize wordsB s = l at h2
      match l, h2 with
      | [b1, b2], _ => exact ⟨b1, b2, rfl⟩
    rw [hw]
    refine Ans.pos (by simp) (Ans.pos (by simp) ?_)
    refine Ans.bind (num_a _) ?_
    intro x1 h1
    refine Ans.pos (by simp) (Ans.bind (num_a _) ?_)
    intro x2 h2
    rw [specEndOk_f]
    have hk := endW_key hw (x1 := x1) (x2 := x2) h1 h2
    refine Ans.bsome ?_
    cases hb : endOkB x1 x2 with
    | true => rw [hb] at hk; refine Ans.pos rfl (Ans.pure ?_); rw [hk]; rfl
    | false => rw [hb] at hk; refine Ans.neg (by simp) (Ans.pure ?_); rw [hk]; rfl
  · refine Ans.neg (by omega) (Ans.pure ?_)
    rw [endW_len h2]
/-- The end inside that a line names. -/
def saysW (s : ByteArray) : Option (Int × Int) := if Lib.hasPrefix s.data.toList portL = true then (match readEndW (trimW s) with | some (a, p) => if endIn a p then some (a, p) else none | none => none) else none
def saysT (s : ByteArray) : Int × Int × Bool := match saysW s with | some (a, p) => (a, p, true) | none => (0, 0, false)
theorem pre_split (s : ByteArray) : Lib.hasPrefix s.data.toList portL = true ↔ (5 ≤ s.size ∧ (s.extract 0 5).toList = [112, 111, 114, 116, 32]) := by
  have hl : s.data.toList.length = s.size := by rw [Array.length_toList]; rfl
  unfold Lib.hasPrefix portL
  rw [List.isPrefixOf_iff_prefix, List.prefix_iff_eq_take]
  rw [ByteArray.toList_eq, Lib.extract_data]
  simp only [List.drop_zero, List.length_cons, List.length_nil]
  constructor
  · intro h
    have := congrArg List.length h
    simp only [List.length_take, List.length_cons, List.length_nil] at this
    exact ⟨by omega, h.symm⟩
  · rintro ⟨_, h⟩; exact h.symm
theorem trim_extract {s : ByteArray} (h : Lib.hasPrefix s.data.toList portL = true) : s.extract 5 s.size = trimW s := by
  have hl : s.data.toList.length = s.size := by rw [Array.length_toList]; rfl
  apply ba_ext
  unfold trimW Lib.trimPrefix
  rw [if_pos h, Lib.extract_data]
  simp only [portL, List.length_cons, List.length_nil]
  rw [List.take_of_length_le (by rw [List.length_drop]; omega)]
theorem implLinSays_f {s : ByteArray} (hs : s.size ≤ 1048576) : impl_LinSays.f s = some (saysT s) := by
  unfold impl_LinSays.f impl_said.f
  rw [if_pos (by omega), Option.bind_some]
  unfold saysT saysW saidW
  cases hr : readEndW (trimW s) with
  | none => simp
  | some r =>
    obtain ⟨a, p⟩ := r
    simp only
    cases hp : Lib.hasPrefix s.data.toList portL with
    | false => simp
    | true =>
      simp only [if_true]
      rw [EndInside_f, Option.bind_some]
      cases hi : endIn a p <;> simp
theorem specLinSays_a (s : ByteArray) (hs : s.size ≤ 1048576) : Ans (fun k => spec_LinSays.f k s) (fun r => r = saysT s) := by
  unfold spec_LinSays.f
  have J : ∀ (c : Bool), (c = true → Lib.hasPrefix s.data.toList portL = false) → (c = false → Lib.hasPrefix s.data.toList portL = true) → Ans (fun k => spec_LinSays.j0 k s c) (fun r => r = saysT s) := by
    intro c h1 h2
    refine Ans.succ ?_
    unfold spec_LinSays.j0
    cases c with
    | true =>
      refine Ans.pos rfl (Ans.pure ?_)
      unfold saysT saysW
      rw [h1 rfl]; rfl
    | false =>
      have hp := h2 rfl
      have h5 := ((pre_split s).mp hp).1
      refine Ans.neg (by simp) (Ans.pos (by omega) ?_)
      rw [trim_extract hp]
      refine Ans.bind (specEndRead_a (trimW s) (Nat.le_trans (trim_size s) hs)) ?_
      rintro v rfl
      unfold saysT saysW
      rw [if_pos hp]
      cases hr : readEndW (trimW s) with
      | none => exact Ans.neg (by simp) (Ans.pure rfl)
      | some r =>
        obtain ⟨a, p⟩ := r
        simp only
        rw [specEndInside_f]
        cases hi : endIn a p with
        | true => exact Ans.pos (by simp) (Ans.bsome (Ans.pos rfl (Ans.pure (by simp [hi]))))
        | false => exact Ans.pos (by simp) (Ans.bsome (Ans.neg (by simp) (Ans.pure (by simp [hi]))))
  refine Ans.ite (fun h => ?_) (fun h => ?_)
  · refine J true (fun _ => ?_) (fun h => by cases h)
    cases hp : Lib.hasPrefix s.data.toList portL with
    | false => rfl
    | true => have := ((pre_split s).mp hp).1; omega
  · refine Ans.pos (by omega) (Ans.pos (by omega) (J _ (fun hc => ?_) (fun hc => ?_)))
    · cases hp : Lib.hasPrefix s.data.toList portL with
      | false => rfl
      | true => rw [((pre_split s).mp hp).2] at hc; simp at hc
    · exact (pre_split s).mpr ⟨by omega, bne_eq_false_iff_eq.mp hc⟩
/-- The line that says an end. -/
def lportW (a p : Int) : ByteArray := if endOkB a p then (⟨#[112, 111, 114, 116, 32]⟩ : ByteArray) ++ etext a p else ⟨#[]⟩
theorem etext_size (a p : Int) : (etext a p).size ≤ 7 := by
  unfold etext
  cases hk : endOkB a p with
  | false => exact Nat.zero_le _
  | true =>
    have hb := endOkB_le hk
    have h1 := numB_size (n := a) (by omega) (by omega)
    have h2 := numB_size (n := p) (by omega) (by omega)
    have h3 : ((⟨#[32]⟩ : ByteArray)).size = 1 := rfl
    simp only [if_true, ByteArray.size_append]
    omega
theorem implLinPort_f (a p : Int) : impl_LinPort.f a p = some (lportW a p) := by
  unfold impl_LinPort.f lportW
  rw [EndOk_f, Option.bind_some]
  have hz := etext_size a p
  cases hk : endOkB a p with
  | false => simp
  | true =>
    simp only [if_true]
    rw [EndText_f, Option.bind_some, if_pos (by omega)]
theorem specEndText_a (a p : Int) : Ans (fun k => spec_EndText.f k a p) (fun r => r = etext a p) := by
  unfold spec_EndText.f etext
  rw [specEndOk_f]
  refine Ans.bsome ?_
  cases hk : endOkB a p with
  | false => exact Ans.neg (by simp) (Ans.pure (by simp))
  | true =>
    have hb := endOkB_le hk
    obtain ⟨m, rfl⟩ : ∃ m : Nat, a = m := ⟨a.toNat, by omega⟩
    obtain ⟨n, rfl⟩ : ∃ n : Nat, p = n := ⟨p.toNat, by omega⟩
    have h1 := numB_size (n := (m : Int)) (by omega) (by omega)
    have h2 := numB_size (n := (n : Int)) (by omega) (by omega)
    have h3 : ((⟨#[32]⟩ : ByteArray)).size = 1 := rfl
    refine Ans.pos rfl (Ans.bind (plain_a (n := m) (by omega)) ?_)
    rintro v rfl
    refine Ans.pos (by omega) (Ans.bind (plain_a (n := n) (by omega)) ?_)
    rintro v rfl
    exact Ans.pos (by rw [ByteArray.size_append]; omega) (Ans.pure (by simp))
theorem specLinPort_a (a p : Int) : Ans (fun k => spec_LinPort.f k a p) (fun r => r = lportW a p) := by
  unfold spec_LinPort.f lportW
  rw [specEndOk_f]
  refine Ans.bsome ?_
  have hz := etext_size a p
  cases hk : endOkB a p with
  | false => exact Ans.neg (by simp) (Ans.pure (by simp))
  | true =>
    refine Ans.pos rfl (Ans.bind (specEndText_a a p) ?_)
    rintro v rfl
    exact Ans.pos (by omega) (Ans.pure (by simp))
def noneB : ByteArray := ⟨#[110, 111, 110, 101]⟩
/-- A line as it goes outside, and the table behind it. -/
def lineW (l : List S34) (s : ByteArray) : List S34 × ByteArray := match saysW s with
  | none => (l, s)
  | some (a, p) => if (putV l a p).2 = 0 then ((putV l a p).1, noneB) else ((putV l a p).1, lportW 50 (putV l a p).2)
theorem saysW_in {s : ByteArray} {a p : Int} (h : saysW s = some (a, p)) : endIn a p = true := by
  unfold saysW at h
  cases hp : Lib.hasPrefix s.data.toList portL with
  | false => rw [hp] at h; simp at h
  | true =>
    rw [hp] at h
    simp only [if_true] at h
    cases hr : readEndW (trimW s) with
    | none => rw [hr] at h; cases h
    | some r =>
      obtain ⟨a', p'⟩ := r
      rw [hr] at h
      simp only at h
      cases hi : endIn a' p' with
      | false => rw [hi] at h; simp at h
      | true => rw [hi] at h; simp at h; obtain ⟨rfl, rfl⟩ := h; exact hi
theorem implGoesOut_f {l : List S34} (c : okT l = true) {s : ByteArray} (hs : s.size ≤ 1048576) : impl_MapTab_goesOut.f l s = some (lineW l s) := by
  have hl := okT_le c
  unfold impl_MapTab_goesOut.f
  rw [implLinSays_f hs, Option.bind_some]
  unfold saysT lineW
  cases hr : saysW s with
  | none =>
    simp only
    have e : impl_MapTab_copied.f l = some l := by
      unfold impl_MapTab_copied.f impl_EndPoint_106.f impl_EndPoint_105.f
      rw [if_pos (by omega)]; rfl
    rw [e]
    simp
  | some r =>
    obtain ⟨a, p⟩ := r
    simp only
    rw [implPut_f c (saysW_in hr), Option.bind_some]
    simp only [if_true]
    by_cases h0 : (putV l a p).2 = 0
    · simp [h0, noneB]
    · simp only [h0, if_false]
      rw [implLinPort_f, Option.bind_some]
theorem specLine_a {l : List S34} (hl : l.length ≤ 2000000) {s : ByteArray} (hs : s.size ≤ 1048576) : Ans (fun k => spec_l3Line.f k l s) (fun r => r = lineW l s) := by
  unfold spec_l3Line.f
  refine Ans.bind (specLinSays_a s hs) ?_
  rintro v rfl
  unfold saysT lineW
  cases hr : saysW s with
  | none => exact Ans.neg (by simp) (Ans.pure rfl)
  | some r =>
    obtain ⟨a, p⟩ := r
    simp only
    refine Ans.pos (by simp) (Ans.bind (l3Put_a l hl a p) ?_)
    rintro v rfl
    refine Ans.ite (fun h => Ans.pure ?_) (fun h => ?_)
    · simp [h, noneB]
    · refine Ans.bind (specLinPort_a 50 (putV l a p).2) ?_
      rintro v rfl
      exact Ans.pure (by simp [h])
/-- May it stand in a line? -/
theorem specLinOk_a (s : ByteArray) : Ans (fun k => spec_LinOk.f k s) (fun r => r = linOk s) := by
  have hb : ∀ b : Int, spec_l2Byte.f b = some (lb b) := by
    intro b
    unfold spec_l2Byte.f lb
    by_cases h1 : 97 ≤ b <;> by_cases h2 : b ≤ 122 <;> by_cases h3 : 48 ≤ b <;> by_cases h4 : b ≤ 57 <;> simp [h1, h2, h3, h4]
  have L : s.size ≤ 16 → ∀ (m i : Nat), s.size - i = m → i ≤ s.size → Ans (fun k => spec_LinOk.l0 k s i) (fun r => r = ((bys s).drop i).all lb) := by
    intro hs m
    induction m with
    | zero =>
      intro i hm hi
      refine Ans.succ ?_
      unfold spec_LinOk.l0
      refine Ans.neg (by omega) (Ans.pure ?_)
      have hl : (bys s).length = s.size := by unfold bys; rw [List.length_map]; exact len_size s
      rw [List.drop_eq_nil_of_le (by omega)]; rfl
    | succ m ih =>
      intro i hm hi
      have hlt : i < s.size := by omega
      have hl : (bys s).length = s.size := by unfold bys; rw [List.length_map]; exact len_size s
      have hw : wrap64 ((i : Int) + 1) = ((i + 1 : Nat) : Int) := w64 _ (by omega)
      have hd : (bys s).drop i = (bys s)[i]'(by omega) :: (bys s).drop (i + 1) := List.drop_eq_getElem_cons (by omega)
      have hbt : bt s i = (bys s)[i]'(by omega) := by rw [bt_get s i hlt]; simp [bys]
      refine Ans.succ ?_
      unfold spec_LinOk.l0
      refine Ans.pos (by omega) (Ans.pos (by omega) ?_)
      rw [hbt, hb, hw]
      refine Ans.bsome ?_
      cases hq : lb ((bys s)[i]'(by omega)) with
      | true => exact Ans.pos rfl ((ih (i + 1) (by omega) (by omega)).mono (by rintro v rfl; rw [hd, List.all_cons, hq, Bool.true_and]))
      | false => exact Ans.neg (by simp) (Ans.pure (by rw [hd, List.all_cons, hq, Bool.false_and]))
  unfold spec_LinOk.f linOk
  refine Ans.ite (fun h => Ans.pure ?_) (fun h => ?_)
  · have : ¬ s.size ≤ 16 := by omega
    simp [this]
  · have hs : s.size ≤ 16 := by omega
    refine (L hs _ 0 rfl (Nat.zero_le _)).mono ?_
    rintro v rfl
    simp [hs]
/-- What RwrLine answers. -/
def rwrLineW (l : List S34) (s : ByteArray) : List S34 × ByteArray := if okT l && linOk s then lineW l s else ([], ⟨#[]⟩)
theorem linOk_size {s : ByteArray} (h : linOk s = true) : s.size ≤ 16 := by
  unfold linOk at h; simp at h; exact h.2
theorem implRwrLine_a (l : List S34) (hl : l.length ≤ 2000000) (s : ByteArray) (hs : s.size ≤ 1048576) : Ans (fun k => impl_RwrLine.f k l s) (fun r => r = rwrLineW l s) := by
  unfold impl_RwrLine.f rwrLineW
  refine Ans.bind (implMapOk_a l hl) ?_
  rintro _ rfl
  cases c : okT l with
  | false => exact Ans.neg (by simp) (Ans.pure (by simp))
  | true =>
    refine Ans.pos rfl ?_
    have e : impl_LinOk.f s = some (linOk s) := by unfold impl_LinOk.f; rw [if_pos (by omega)]
    rw [e]
    refine Ans.bsome ?_
    cases c2 : linOk s with
    | false => exact Ans.neg (by simp) (Ans.pure (by simp))
    | true =>
      rw [implGoesOut_f c hs]
      exact Ans.pos rfl (Ans.bsome (Ans.pure (by simp)))
theorem specRwrLine_a (l : List S34) (hl : l.length ≤ 2000000) (s : ByteArray) (hs : s.size ≤ 1048576) : Ans (fun k => spec_RwrLine.f k l s) (fun r => r = rwrLineW l s) := by
  unfold spec_RwrLine.f rwrLineW
  refine Ans.bind (specMapOk_a l hl) ?_
  rintro _ rfl
  have J0 : Ans (fun k => spec_RwrLine.j0 k s true l) (fun r => r = ([], ⟨#[]⟩)) := by
    refine Ans.succ ?_
    unfold spec_RwrLine.j0
    exact Ans.pos rfl (Ans.pure rfl)
  cases c : okT l with
  | false => exact Ans.neg (by simp) (by simpa using J0)
  | true =>
    refine Ans.pos rfl (Ans.bind (specLinOk_a s) ?_)
    rintro _ rfl
    cases c2 : linOk s with
    | false => simpa using J0
    | true =>
      refine Ans.succ ?_
      unfold spec_RwrLine.j0
      refine Ans.neg (by simp) ?_
      have hl6 := okT_le c
      have hc : spec_l3Copy.f l = some l := by
        unfold spec_l3Copy.f
        rw [Option.bind_some, if_pos (by simp; omega)]
        rfl
      rw [hc]
      refine Ans.bsome (Ans.bind (specLine_a hl hs) ?_)
      rintro v rfl
      exact Ans.pure (by simp)
end Go.Proofs.YtffmbccgcaghjaaGreatDoor.P

-- written by hw.py for this claim
namespace Go.Proofs.YtffmbccgcaghjaaGreatDoor.P
open Go.RowKit Go.Proofs.YtffmbccgcaghjaaGreatDoorUFnExactRwrLine.PrintWords Go.Proofs.YtffmbccgcaghjaaGreatDoorUFnExactRwrLine.PrintLast Go.Proofs.YtffmbccgcaghjaaGreatDoorUFnExactRwrLine.PrintMore
attribute [local go_sem] max2_int min2_int max_two min_two max_three min_three max_four min_four
set_option linter.unusedVariables false
set_option linter.unusedSimpArgs false

/-! ### laws_FnExactRwrLine: function 4 -/
mutual
def laws_FnExactRwrLine.j0 : Nat → ByteArray → ByteArray → ByteArray → Bool → List (S102) → List (S34) → List (S34) → List (S34) → Option (Bool)
  | 0, _, _, _, _, _, _, _, _ => none
  | k + 1, x1, x7, x10, x47, x534000, x543000, x547000, x552000 => if x47 = true then (some false) else ((laws_toMapTab.f k x534000).bind fun t553 => ((laws_eqMapTab.f k x547000 t553).bind fun t556 => (if t556 = true then ((laws_markMapTab.f k x547000 1).bind fun bt557 => (if bt557.1 < 0 then (laws_FnExactRwrLine.j1 k x1 x7 true x534000 x543000 x552000) else ((laws_eqMapTab.f k x552000 x543000).bind fun t559 => (if t559 = true then (laws_FnExactRwrLine.j1 k x1 x7 (x10.toList != x7.toList) x534000 x543000 x552000) else (laws_FnExactRwrLine.j1 k x1 x7 true x534000 x543000 x552000))))) else (some false))))
def laws_FnExactRwrLine.j1 : Nat → ByteArray → ByteArray → Bool → List (S102) → List (S34) → List (S34) → Option (Bool)
  | 0, _, _, _, _, _, _ => none
  | k + 1, x1, x7, x68, x534000, x543000, x552000 => if x68 = true then (some false) else ((laws_markMapTab.f k x552000 1).bind fun bt560 => ((laws_heldMapTab.f k bt560.2 1).bind fun t562 => (if t562 < 0 then (some false) else (if t562 = bt560.1 then ((laws_toMapTab.f k x534000).bind fun t563 => ((impl_RwrLine.f k t563 x1).bind fun bt566 => ((laws_eqMapTab.f k bt566.1 x543000).bind fun t571 => (if t571 = true then (laws_FnExactRwrLine.j2 k bt560.1 (bt566.2.toList != x7.toList) bt560.2) else (laws_FnExactRwrLine.j2 k bt560.1 true bt560.2))))) else (some false)))))
def laws_FnExactRwrLine.j2 : Nat → Int → Bool → List (S34) → Option (Bool)
  | 0, _, _, _ => none
  | k + 1, x12, x95, x552000 => if x95 = true then (some false) else ((laws_heldMapTab.f k x552000 1).bind fun t572 => (if t572 < 0 then (some false) else (if t572 = x12 then (some true) else (some false))))
end
def laws_FnExactRwrLine.f (k : Nat) (l0_0 : List (S102)) (a1 : ByteArray) : Option (Bool) := if (a1.size : Int) > 1048576 then (some true) else ((laws_szMapTab.f l0_0 1048576).bind fun t534 => (if t534 < 0 then (some true) else ((laws_toMapTab.f k l0_0).bind fun t535 => ((spec_RwrLine.f k t535 a1).bind fun bt538 => ((laws_toMapTab.f k l0_0).bind fun t543 => ((impl_RwrLine.f k t543 a1).bind fun bt547 => ((laws_eqMapTab.f k bt547.1 bt538.1).bind fun t552 => (if t552 = true then (laws_FnExactRwrLine.j0 k a1 bt538.2 bt547.2 (bt547.2.toList != bt538.2.toList) l0_0 bt538.1 t543 bt547.1) else (laws_FnExactRwrLine.j0 k a1 bt538.2 bt547.2 true l0_0 bt538.1 t543 bt547.1)))))))))
theorem laws_FnExactRwrLine.mono_l : ∀ k, (∀ y0 y1 y2 y3 y4 y5 y6 y7, LeO (laws_FnExactRwrLine.j0 k y0 y1 y2 y3 y4 y5 y6 y7) (laws_FnExactRwrLine.j0 (k + 1) y0 y1 y2 y3 y4 y5 y6 y7)) ∧ (∀ y0 y1 y2 y3 y4 y5, LeO (laws_FnExactRwrLine.j1 k y0 y1 y2 y3 y4 y5) (laws_FnExactRwrLine.j1 (k + 1) y0 y1 y2 y3 y4 y5)) ∧ (∀ y0 y1 y2, LeO (laws_FnExactRwrLine.j2 k y0 y1 y2) (laws_FnExactRwrLine.j2 (k + 1) y0 y1 y2))
  | 0 => ⟨fun _ _ _ _ _ _ _ _ r h => by simp [laws_FnExactRwrLine.j0] at h, fun _ _ _ _ _ _ r h => by simp [laws_FnExactRwrLine.j1] at h, fun _ _ _ r h => by simp [laws_FnExactRwrLine.j2] at h⟩
  | k + 1 => by
    obtain ⟨ih0, ih1, ih2⟩ := laws_FnExactRwrLine.mono_l k
    refine ⟨?_, ?_, ?_⟩
    · intro y0 y1 y2 y3 y4 y5 y6 y7
      unfold laws_FnExactRwrLine.j0
      repeat' first
      | (with_reducible exact ih0 _ _ _ _ _ _ _ _)
      | (with_reducible exact ih1 _ _ _ _ _ _)
      | (with_reducible exact ih2 _ _ _)
      | (with_reducible exact impl_RwrLine.mono _ _ _)
      | (with_reducible exact laws_eqMapTab.mono _ _ _)
      | (with_reducible exact laws_heldMapTab.mono _ _ _)
      | (with_reducible exact laws_markMapTab.mono _ _ _)
      | (with_reducible exact laws_toMapTab.mono _ _)
      | (with_reducible exact spec_RwrLine.mono _ _ _)
      | (with_reducible exact LeO.refl _)
      | (with_reducible exact LeO.none _)
      | (with_reducible refine LeO.ite ?_ ?_)
      | (with_reducible refine LeO.bind ?_ (fun _ => ?_))
      | exact ih0 _ _ _ _ _ _ _ _
      | exact ih1 _ _ _ _ _ _
      | exact ih2 _ _ _
      | exact impl_RwrLine.mono _ _ _
      | exact laws_eqMapTab.mono _ _ _
      | exact laws_heldMapTab.mono _ _ _
      | exact laws_markMapTab.mono _ _ _
      | exact laws_toMapTab.mono _ _
      | exact spec_RwrLine.mono _ _ _
      | exact LeO.none _
      | refine LeO.ite ?_ ?_
      | refine LeO.bind ?_ (fun _ => ?_)
    · intro y0 y1 y2 y3 y4 y5
      unfold laws_FnExactRwrLine.j1
      repeat' first
      | (with_reducible exact ih0 _ _ _ _ _ _ _ _)
      | (with_reducible exact ih1 _ _ _ _ _ _)
      | (with_reducible exact ih2 _ _ _)
      | (with_reducible exact impl_RwrLine.mono _ _ _)
      | (with_reducible exact laws_eqMapTab.mono _ _ _)
      | (with_reducible exact laws_heldMapTab.mono _ _ _)
      | (with_reducible exact laws_markMapTab.mono _ _ _)
      | (with_reducible exact laws_toMapTab.mono _ _)
      | (with_reducible exact spec_RwrLine.mono _ _ _)
      | (with_reducible exact LeO.refl _)
      | (with_reducible exact LeO.none _)
      | (with_reducible refine LeO.ite ?_ ?_)
      | (with_reducible refine LeO.bind ?_ (fun _ => ?_))
      | exact ih0 _ _ _ _ _ _ _ _
      | exact ih1 _ _ _ _ _ _
      | exact ih2 _ _ _
      | exact impl_RwrLine.mono _ _ _
      | exact laws_eqMapTab.mono _ _ _
      | exact laws_heldMapTab.mono _ _ _
      | exact laws_markMapTab.mono _ _ _
      | exact laws_toMapTab.mono _ _
      | exact spec_RwrLine.mono _ _ _
      | exact LeO.none _
      | refine LeO.ite ?_ ?_
      | refine LeO.bind ?_ (fun _ => ?_)
    · intro y0 y1 y2
      unfold laws_FnExactRwrLine.j2
      repeat' first
      | (with_reducible exact ih0 _ _ _ _ _ _ _ _)
      | (with_reducible exact ih1 _ _ _ _ _ _)
      | (with_reducible exact ih2 _ _ _)
      | (with_reducible exact impl_RwrLine.mono _ _ _)
      | (with_reducible exact laws_eqMapTab.mono _ _ _)
      | (with_reducible exact laws_heldMapTab.mono _ _ _)
      | (with_reducible exact laws_markMapTab.mono _ _ _)
      | (with_reducible exact laws_toMapTab.mono _ _)
      | (with_reducible exact spec_RwrLine.mono _ _ _)
      | (with_reducible exact LeO.refl _)
      | (with_reducible exact LeO.none _)
      | (with_reducible refine LeO.ite ?_ ?_)
      | (with_reducible refine LeO.bind ?_ (fun _ => ?_))
      | exact ih0 _ _ _ _ _ _ _ _
      | exact ih1 _ _ _ _ _ _
      | exact ih2 _ _ _
      | exact impl_RwrLine.mono _ _ _
      | exact laws_eqMapTab.mono _ _ _
      | exact laws_heldMapTab.mono _ _ _
      | exact laws_markMapTab.mono _ _ _
      | exact laws_toMapTab.mono _ _
      | exact spec_RwrLine.mono _ _ _
      | exact LeO.none _
      | refine LeO.ite ?_ ?_
      | refine LeO.bind ?_ (fun _ => ?_)
theorem laws_FnExactRwrLine.mono : ∀ a0 a1 k, LeO (laws_FnExactRwrLine.f k a0 a1) (laws_FnExactRwrLine.f (k + 1) a0 a1) := by
  intro a0 a1 k
  obtain ⟨ih0, ih1, ih2⟩ := laws_FnExactRwrLine.mono_l k
  unfold laws_FnExactRwrLine.f
  repeat' first
      | (with_reducible exact ih0 _ _ _ _ _ _ _ _)
      | (with_reducible exact ih1 _ _ _ _ _ _)
      | (with_reducible exact ih2 _ _ _)
      | (with_reducible exact impl_RwrLine.mono _ _ _)
      | (with_reducible exact laws_eqMapTab.mono _ _ _)
      | (with_reducible exact laws_heldMapTab.mono _ _ _)
      | (with_reducible exact laws_markMapTab.mono _ _ _)
      | (with_reducible exact laws_toMapTab.mono _ _)
      | (with_reducible exact spec_RwrLine.mono _ _ _)
      | (with_reducible exact LeO.refl _)
      | (with_reducible exact LeO.none _)
      | (with_reducible refine LeO.ite ?_ ?_)
      | (with_reducible refine LeO.bind ?_ (fun _ => ?_))
      | exact ih0 _ _ _ _ _ _ _ _
      | exact ih1 _ _ _ _ _ _
      | exact ih2 _ _ _
      | exact impl_RwrLine.mono _ _ _
      | exact laws_eqMapTab.mono _ _ _
      | exact laws_heldMapTab.mono _ _ _
      | exact laws_markMapTab.mono _ _ _
      | exact laws_toMapTab.mono _ _
      | exact spec_RwrLine.mono _ _ _
      | exact LeO.none _
      | refine LeO.ite ?_ ?_
      | refine LeO.bind ?_ (fun _ => ?_)
set_option maxHeartbeats 8000000 in
set_option maxRecDepth 100000 in
theorem laws_FnExactRwrLine.calls (k : Nat) (A0_0 : Option Addr) (c0_0 : Nat) (l0_0 : List (S102)) (a1 : ByteArray) (r : Bool) (w : World) (hr0_0 : Kd.C k102 w A0_0 l0_0.length l0_0) (hc0_0 : l0_0.length ≤ c0_0) (h : laws_FnExactRwrLine.f k l0_0 a1 = some r) (hrt : Aside0 (r = true)) (hE : EnvE w) :
    Calls Tryz.prog 4 #[.agg #[.slice A0_0 l0_0.length c0_0], .string a1] w fun e w' => e = .returned (.bool r) ∧ Below w.heap.size w w' := by
  have hu42 := Tryz.underlying42
  have hu25 := Tryz.underlying25
  have HR0_0 := Aside0.mk hr0_0
  have HC0_0 := Aside0.mk hc0_0
  clear hr0_0 hc0_0
  have HB := Aside0.mk (Below.refl w.heap.size w)
  have H : (if (a1.size : Int) > 1048576 then (some true) else ((laws_szMapTab.f l0_0 1048576).bind fun t534 => (if t534 < 0 then (some true) else ((laws_toMapTab.f k l0_0).bind fun t535 => ((spec_RwrLine.f k t535 a1).bind fun bt538 => ((laws_toMapTab.f k l0_0).bind fun t543 => ((impl_RwrLine.f k t543 a1).bind fun bt547 => ((laws_eqMapTab.f k bt547.1 bt538.1).bind fun t552 => (if t552 = true then (laws_FnExactRwrLine.j0 k a1 bt538.2 bt547.2 (bt547.2.toList != bt538.2.toList) l0_0 bt538.1 t543 bt547.1) else (laws_FnExactRwrLine.j0 k a1 bt538.2 bt547.2 true l0_0 bt538.1 t543 bt547.1)))))))))) = some r := h
  clear h
  by_cases c3 : (a1.size : Int) > 1048576
  · rw [if_pos c3] at H
    have c3b0 : decide (1048576 < (a1.size : Int)) = true := decide_eq_true c3
    have c3b1 : decide (1048576 < a1.size) = true := decide_eq_true (by omega)
    clear c3
    obtain rfl := Option.some.inj H
    go_enter Tryz.func4, Tryz.ntmps4
    go_wp2_with (first | ((with_reducible refine gate_dst (N := 2) rfl ?_); refine box_event ?hg (N := 2) ?hd (cs := #[.slice A0_0 l0_0.length c0_0]) (t := 42) ?hr ?_; (case hd => rfl); (case hg => rfl); (case hr => first | (go_simp; done) | (go_simp; rfl)); intro gb533 hg w4 hbox hb; have n0_ := Aside0.mk (below_step (bl HB) hb); have n1_ := Aside0.mk (hbox); have n2_ := Aside0.mk ((by rw [hg]; exact (below_size (bl HB)) : w.heap.size ≤ gb533)); have n3_ := Aside0.mk ((by rw [hg]; exact (below_size (bl HB)) : w.heap.size ≤ gb533)); clear HB; have HB := n0_; have BK533 := n1_; have GW533 := n2_; have GE533 := n3_; clear n0_ n1_ n2_ n3_; clear hb hbox hg))
    go_ret
    exact ⟨by first | rfl | (simp [errW_none, errW_some] <;> rfl) | (simp [*, errW_none, errW_some] <;> rfl), by repeat (first | (with_reducible first | exact HB.out | apply below_alloc | apply pw_below_drewN | apply below_drew1 | refine below_set ?_ GE533.out) | exact HB.out)⟩
  · rw [if_neg c3] at H
    have c3b0 : decide (1048576 < (a1.size : Int)) = false := decide_eq_false c3
    have c3b1 : decide (1048576 < a1.size) = false := decide_eq_false (by omega)
    clear c3
    replace H := Option.bind_eq_some_iff.mp H
    obtain ⟨t534, A50, H⟩ := H
    replace H : (if t534 < 0 then (some true) else ((laws_toMapTab.f k l0_0).bind fun t535 => ((spec_RwrLine.f k t535 a1).bind fun bt538 => ((laws_toMapTab.f k l0_0).bind fun t543 => ((impl_RwrLine.f k t543 a1).bind fun bt547 => ((laws_eqMapTab.f k bt547.1 bt538.1).bind fun t552 => (if t552 = true then (laws_FnExactRwrLine.j0 k a1 bt538.2 bt547.2 (bt547.2.toList != bt538.2.toList) l0_0 bt538.1 t543 bt547.1) else (laws_FnExactRwrLine.j0 k a1 bt538.2 bt547.2 true l0_0 bt538.1 t543 bt547.1)))))))) = some r := H
    have A5 := Aside0.mk A50
    clear A50
    by_cases c6 : t534 < 0
    · rw [if_pos c6] at H
      have c6b0 : decide (t534 < 0) = true := decide_eq_true c6
      clear c6
      obtain rfl := Option.some.inj H
      go_enter Tryz.func4, Tryz.ntmps4
      go_wp2_with (first | ((with_reducible refine gate_dst (N := 2) rfl ?_); refine box_event ?hg (N := 2) ?hd (cs := #[.slice A0_0 l0_0.length c0_0]) (t := 42) ?hr ?_; (case hd => rfl); (case hg => rfl); (case hr => first | (go_simp; done) | (go_simp; rfl)); intro gb533 hg w7 hbox hb; have n0_ := Aside0.mk (below_step (bl HB) hb); have n1_ := Aside0.mk (hbox); have n2_ := Aside0.mk ((by rw [hg]; exact (below_size (bl HB)) : w.heap.size ≤ gb533)); have n3_ := Aside0.mk ((by rw [hg]; exact (below_size (bl HB)) : w.heap.size ≤ gb533)); clear HB; have HB := n0_; have BK533 := n1_; have GW533 := n2_; have GE533 := n3_; clear n0_ n1_ n2_ n3_; clear hb hbox hg; have hcz8_0 : w7.cell? ⟨gb533, 0, none⟩ = some (.slice A0_0 l0_0.length c0_0) := (blk_cell BK533.out 0).trans rfl; have hfz8_0 := blk_frozen BK533.out 0) | ((with_reducible refine gate_callee (f := 25) rfl ?_); refine goesL_ (some 21) rfl rfl Tryz.func25 (by kernel_rfl) rfl #[.agg #[.slice A0_0 l0_0.length c0_0], .int .i64 1048576] rfl (by (try simp only [List.map_toArray, List.map_cons, List.map_nil]); first | done | rfl | (simp only [List.length_drop, List.length_take]; rfl)) ?_; (with_reducible refine (laws_szMapTab.calls _ _ l0_0 1048576 t534 _ ?side1 ?side2 A5.out).mono ?_); (case side1 => repeat (first | exact (Kd.C_below HR0_0.out HB.out) | (with_reducible refine Kd.C_alloc ?_ _) | (with_reducible refine Kd.C_drewN ?_ _) | (with_reducible refine Kd.C_drew ?_))); (case side2 => exact HC0_0.out); rintro e w9 ⟨rfl, hb⟩; refine ⟨_, rfl, ?_⟩; have n0_ := bkB BK533 hb; have n1_ := Aside0.mk (below_step (bl HB) hb); clear BK533; clear HB; have BK533 := n0_; have HB := n1_; clear n0_ n1_; (try clear hb); (try clear hb2); (try clear hk); (try clear hi)))
      go_ret
      exact ⟨by first | rfl | (simp [errW_none, errW_some] <;> rfl) | (simp [*, errW_none, errW_some] <;> rfl), by repeat (first | (with_reducible first | exact HB.out | apply below_alloc | apply pw_below_drewN | apply below_drew1 | refine below_set ?_ GE533.out) | exact HB.out)⟩
    · rw [if_neg c6] at H
      have c6b0 : decide (t534 < 0) = false := decide_eq_false c6
      clear c6
      replace H := Option.bind_eq_some_iff.mp H
      obtain ⟨t535, A100, H⟩ := H
      replace H : ((spec_RwrLine.f k t535 a1).bind fun bt538 => ((laws_toMapTab.f k l0_0).bind fun t543 => ((impl_RwrLine.f k t543 a1).bind fun bt547 => ((laws_eqMapTab.f k bt547.1 bt538.1).bind fun t552 => (if t552 = true then (laws_FnExactRwrLine.j0 k a1 bt538.2 bt547.2 (bt547.2.toList != bt538.2.toList) l0_0 bt538.1 t543 bt547.1) else (laws_FnExactRwrLine.j0 k a1 bt538.2 bt547.2 true l0_0 bt538.1 t543 bt547.1)))))) = some r := H
      have A10 := Aside0.mk A100
      clear A100
      replace H := Option.bind_eq_some_iff.mp H
      obtain ⟨⟨t538, t541⟩, A110, H⟩ := H
      replace H : ((laws_toMapTab.f k l0_0).bind fun t543 => ((impl_RwrLine.f k t543 a1).bind fun bt547 => ((laws_eqMapTab.f k bt547.1 t538).bind fun t552 => (if t552 = true then (laws_FnExactRwrLine.j0 k a1 t541 bt547.2 (bt547.2.toList != t541.toList) l0_0 t538 t543 bt547.1) else (laws_FnExactRwrLine.j0 k a1 t541 bt547.2 true l0_0 t538 t543 bt547.1))))) = some r := H
      have A11 := Aside0.mk A110
      clear A110
      replace H := Option.bind_eq_some_iff.mp H
      obtain ⟨t543, A120, H⟩ := H
      replace H : ((impl_RwrLine.f k t543 a1).bind fun bt547 => ((laws_eqMapTab.f k bt547.1 t538).bind fun t552 => (if t552 = true then (laws_FnExactRwrLine.j0 k a1 t541 bt547.2 (bt547.2.toList != t541.toList) l0_0 t538 t543 bt547.1) else (laws_FnExactRwrLine.j0 k a1 t541 bt547.2 true l0_0 t538 t543 bt547.1)))) = some r := H
      have A12 := Aside0.mk A120
      clear A120
      replace H := Option.bind_eq_some_iff.mp H
      obtain ⟨⟨t547, t550⟩, A130, H⟩ := H
      replace H : ((laws_eqMapTab.f k t547 t538).bind fun t552 => (if t552 = true then (laws_FnExactRwrLine.j0 k a1 t541 t550 (t550.toList != t541.toList) l0_0 t538 t543 t547) else (laws_FnExactRwrLine.j0 k a1 t541 t550 true l0_0 t538 t543 t547))) = some r := H
      have A13 := Aside0.mk A130
      clear A130
      have HC14 := Aside0.mk H
      clear H
      go_enter Tryz.func4, Tryz.ntmps4
      go_upto_region 10 with (first | ((with_reducible refine gate_dst (N := 2) rfl ?_); refine box_event ?hg (N := 2) ?hd (cs := #[.slice A0_0 l0_0.length c0_0]) (t := 42) ?hr ?_; (case hd => rfl); (case hg => rfl); (case hr => first | (go_simp; done) | (go_simp; rfl)); intro gb533 hg w15 hbox hb; have n0_ := Aside0.mk (below_step (bl HB) hb); have n1_ := Aside0.mk (hbox); have n2_ := Aside0.mk ((by rw [hg]; exact (below_size (bl HB)) : w.heap.size ≤ gb533)); have n3_ := Aside0.mk ((by rw [hg]; exact (below_size (bl HB)) : w.heap.size ≤ gb533)); clear HB; have HB := n0_; have BK533 := n1_; have GW533 := n2_; have GE533 := n3_; clear n0_ n1_ n2_ n3_; clear hb hbox hg; have hcz16_0 : w15.cell? ⟨gb533, 0, none⟩ = some (.slice A0_0 l0_0.length c0_0) := (blk_cell BK533.out 0).trans rfl; have hfz16_0 := blk_frozen BK533.out 0) | ((with_reducible refine gate_callee (f := 25) rfl ?_); refine goesL_ (some 21) rfl rfl Tryz.func25 (by kernel_rfl) rfl #[.agg #[.slice A0_0 l0_0.length c0_0], .int .i64 1048576] rfl (by (try simp only [List.map_toArray, List.map_cons, List.map_nil]); first | done | rfl | (simp only [List.length_drop, List.length_take]; rfl)) ?_; (with_reducible refine (laws_szMapTab.calls _ _ l0_0 1048576 t534 _ ?side1 ?side2 A5.out).mono ?_); (case side1 => repeat (first | exact (Kd.C_below HR0_0.out HB.out) | (with_reducible refine Kd.C_alloc ?_ _) | (with_reducible refine Kd.C_drewN ?_ _) | (with_reducible refine Kd.C_drew ?_))); (case side2 => exact HC0_0.out); rintro e w17 ⟨rfl, hb⟩; refine ⟨_, rfl, ?_⟩; have n0_ := bkB BK533 hb; have n1_ := Aside0.mk (below_step (bl HB) hb); clear BK533; clear HB; have BK533 := n0_; have HB := n1_; clear n0_ n1_; (try clear hb); (try clear hb2); (try clear hk); (try clear hi); have hcz18_0 : w17.cell? ⟨gb533, 0, none⟩ = some (.slice A0_0 l0_0.length c0_0) := (blk_cell BK533.out 0).trans rfl; have hfz18_0 := blk_frozen BK533.out 0) | ((with_reducible refine gate_callee (f := 26) rfl ?_); refine goesL_ (some 26) rfl rfl Tryz.func26 (by kernel_rfl) rfl #[.agg #[.slice A0_0 l0_0.length c0_0]] rfl (by (try simp only [List.map_toArray, List.map_cons, List.map_nil]); first | done | rfl | (simp only [List.length_drop, List.length_take]; rfl)) ?_; (with_reducible refine (laws_toMapTab.calls k _ _ l0_0 t535 _ ?side1 ?side2 A10.out).mono ?_); (case side1 => repeat (first | exact (Kd.C_below HR0_0.out HB.out) | (with_reducible refine Kd.C_alloc ?_ _) | (with_reducible refine Kd.C_drewN ?_ _) | (with_reducible refine Kd.C_drew ?_))); (case side2 => exact HC0_0.out); rintro e w19 ⟨v536, rfl, ho0, hb⟩; refine ⟨_, rfl, ?_⟩; have n0_ := Aside0.mk (Kd.R_lower ho0 (below_size (bl HB))); have n1_ := bkB BK533 hb; have n2_ := Aside0.mk (below_step (bl HB) hb); clear BK533; clear HB; have HO537 := n0_; have BK533 := n1_; have HB := n2_; clear n0_ n1_ n2_; (try clear hb); (try clear hb2); (try clear hk); (try clear hi); (try clear ho0); obtain ⟨Ao20, co20, eo20⟩ := Kd.R_slice HO537.out; subst eo20) | ((with_reducible refine gate_callee (f := 14) rfl ?_); refine goesL_ (some 28) rfl rfl Tryz.func14 (by kernel_rfl) rfl #[.agg #[.slice Ao20 t535.length co20], .string a1] rfl (by (try simp only [List.map_toArray, List.map_cons, List.map_nil]); first | done | rfl | (simp only [List.length_drop, List.length_take]; rfl)) ?_; (with_reducible refine (spec_RwrLine.calls k _ _ t535 a1 t538 t541 _ ?side1 ?side2 A11.out).mono ?_); (case side1 => repeat (first | exact (Kd.R_reads' HO537.out).2.2 | (with_reducible refine Kd.C_alloc ?_ _) | (with_reducible refine Kd.C_drewN ?_ _) | (with_reducible refine Kd.C_drew ?_))); (case side2 => exact (Kd.R_reads' HO537.out).2.1); rintro e w21 ⟨v539, rfl, ho0, hb⟩; refine ⟨_, rfl, ?_⟩; have n0_ := Aside0.mk (Kd.R_elder' (rs HO537) (Kd.R_base ho0) hb); have n1_ := Aside0.mk (Kd.R_lower (Kd.R_new' ho0 (Kd.R_lt (rs HO537))) (below_size (bl HB))); have n2_ := bkB BK533 hb; have n3_ := Aside0.mk (below_step (bl HB) hb); clear HO537; clear BK533; clear HB; have HO537 := n0_; have HO540 := n1_; have BK533 := n2_; have HB := n3_; clear n0_ n1_ n2_ n3_; (try clear hb); (try clear hb2); (try clear hk); (try clear hi); (try clear ho0)) | ((with_reducible refine gate_dst (N := 6) rfl ?_); refine box_event ?hg (N := 6) ?hd (cs := #[.slice none 0 0]) (t := 25) ?hr ?_; (case hd => rfl); (case hg => rfl); (case hr => first | (go_simp; done) | (go_simp; rfl)); intro gb542 hg w22 hbox hb; have n0_ := Aside0.mk (Kd.R_below (rs HO537) hb); have n1_ := Aside0.mk (Kd.R_below (rs HO540) hb); have n2_ := bkB BK533 hb; have n3_ := Aside0.mk (below_step (bl HB) hb); have n4_ := Aside0.mk (hbox); have n5_ := Aside0.mk ((by rw [hg]; exact (below_size (bl HB)) : w.heap.size ≤ gb542)); have n6_ := Aside0.mk ((by rw [hg]; exact (below_size (bl HB)) : w.heap.size ≤ gb542)); have n7_ := Aside0.mk ((by rw [hg]; exact Nat.ne_of_lt (bkL BK533) : gb533 ≠ gb542)); have n8_ := Aside0.mk ((by rw [hg]; exact Nat.ne_of_gt (bkL BK533) : gb542 ≠ gb533)); clear HO537; clear HO540; clear BK533; clear HB; have HO537 := n0_; have HO540 := n1_; have BK533 := n2_; have HB := n3_; have BK542 := n4_; have GW542 := n5_; have GE542 := n6_; have NB533_542 := n7_; have NB542_533 := n8_; clear n0_ n1_ n2_ n3_ n4_ n5_ n6_ n7_ n8_; clear hb hbox hg; obtain ⟨Ao23, co23, eo23⟩ := Kd.R_slice HO540.out; subst eo23; have hnb24 := NB542_533.out; have hnc24 := NB533_542.out; have hcz25_0 : w22.cell? ⟨gb542, 0, none⟩ = some (.slice none 0 0) := (blk_cell BK542.out 0).trans rfl; have hfz25_0 := blk_frozen BK542.out 0; have hcz26_0 : w22.cell? ⟨gb533, 0, none⟩ = some (.slice A0_0 l0_0.length c0_0) := (blk_cell BK533.out 0).trans rfl; have hfz26_0 := blk_frozen BK533.out 0) | ((with_reducible refine gate_callee (f := 26) rfl ?_); refine goesL_ (some 32) rfl rfl Tryz.func26 (by kernel_rfl) rfl #[.agg #[.slice A0_0 l0_0.length c0_0]] rfl (by (try simp only [List.map_toArray, List.map_cons, List.map_nil]); first | done | rfl | (simp only [List.length_drop, List.length_take]; rfl)) ?_; (with_reducible refine (laws_toMapTab.calls k _ _ l0_0 t543 _ ?side1 ?side2 A12.out).mono ?_); (case side1 => exact Kd.C_below HR0_0.out (bl HB)); (case side2 => exact HC0_0.out); rintro e w27 ⟨v544, rfl, ho0, hb⟩; refine ⟨_, rfl, ?_⟩; have n0_ := Aside0.mk (Kd.R_elder' (by (with_reducible repeat apply ru); exact (Kd.R_mono (Kd.R_far (p := ⟨gb542, 0, none⟩) (Kd.R_types HO537.out BK542.out (by decide)) (fun _ hk => hk.2) (.slice Ao23 t538.length co23)) (fun _ h_ => h_.1))) (Kd.R_base ho0) hb); have n1_ := Aside0.mk (Kd.R_elder' (by (with_reducible repeat apply ru); exact (Kd.R_mono (Kd.R_far (p := ⟨gb542, 0, none⟩) (Kd.R_types HO540.out BK542.out (by decide)) (fun _ hk => hk.2) (.slice Ao23 t538.length co23)) (fun _ h_ => h_.1))) (Kd.R_base ho0) hb); have n2_ := Aside0.mk (Kd.R_lower (Kd.R_new' (Kd.R_new' ho0 (Kd.R_lt (by (with_reducible repeat apply ru); exact (Kd.R_mono (Kd.R_far (p := ⟨gb542, 0, none⟩) (Kd.R_types HO537.out BK542.out (by decide)) (fun _ hk => hk.2) (.slice Ao23 t538.length co23)) (fun _ h_ => h_.1))))) (Kd.R_lt (by (with_reducible repeat apply ru); exact (Kd.R_mono (Kd.R_far (p := ⟨gb542, 0, none⟩) (Kd.R_types HO540.out BK542.out (by decide)) (fun _ hk => hk.2) (.slice Ao23 t538.length co23)) (fun _ h_ => h_.1))))) (below_size (bl HB))); have n3_ := Aside0.mk (blk_below (g := gb533) (o := .cells #[.slice A0_0 l0_0.length c0_0] 42 (0, 0)) (by (with_reducible repeat refine bu ?_); refine blk_far ?_ NB533_542.out _; (with_reducible repeat refine bu ?_); exact BK533.out) hb); have n4_ := Aside0.mk (blk_below (g := gb542) (o := .cells #[.slice Ao23 t538.length co23] 25 (0, 0)) (by (with_reducible repeat refine bu ?_); refine blk_put (cs := #[.slice none 0 0]) ?_ 0 _ rfl; (with_reducible repeat refine bu ?_); exact BK542.out) hb); have n5_ := Aside0.mk (below_step (bl HB) hb); clear HO537; clear HO540; clear BK533; clear BK542; clear HB; have HO537 := n0_; have HO540 := n1_; have HO545 := n2_; have BK533 := n3_; have BK542 := n4_; have HB := n5_; clear n0_ n1_ n2_ n3_ n4_ n5_; (try clear hb); (try clear hb2); (try clear hk); (try clear hi); (try clear ho0)) | ((with_reducible refine gate_dst (N := 8) rfl ?_); refine box_event ?hg (N := 8) ?hd (cs := #[.slice none 0 0]) (t := 25) ?hr ?_; (case hd => rfl); (case hg => rfl); (case hr => first | (go_simp; done) | (go_simp; rfl)); intro gb546 hg w28 hbox hb; have n0_ := Aside0.mk (Kd.R_below (rs HO537) hb); have n1_ := Aside0.mk (Kd.R_below (rs HO540) hb); have n2_ := Aside0.mk (Kd.R_below (rs HO545) hb); have n3_ := bkB BK533 hb; have n4_ := bkB BK542 hb; have n5_ := Aside0.mk (below_step (bl HB) hb); have n6_ := Aside0.mk (hbox); have n7_ := Aside0.mk ((by rw [hg]; exact (below_size (bl HB)) : w.heap.size ≤ gb546)); have n8_ := Aside0.mk ((by rw [hg]; exact (below_size (bl HB)) : w.heap.size ≤ gb546)); have n9_ := Aside0.mk ((by rw [hg]; exact Nat.ne_of_lt (bkL BK533) : gb533 ≠ gb546)); have n10_ := Aside0.mk ((by rw [hg]; exact Nat.ne_of_gt (bkL BK533) : gb546 ≠ gb533)); have n11_ := Aside0.mk ((by rw [hg]; exact Nat.ne_of_lt (bkL BK542) : gb542 ≠ gb546)); have n12_ := Aside0.mk ((by rw [hg]; exact Nat.ne_of_gt (bkL BK542) : gb546 ≠ gb542)); clear HO537; clear HO540; clear HO545; clear BK533; clear BK542; clear HB; have HO537 := n0_; have HO540 := n1_; have HO545 := n2_; have BK533 := n3_; have BK542 := n4_; have HB := n5_; have BK546 := n6_; have GW546 := n7_; have GE546 := n8_; have NB533_546 := n9_; have NB546_533 := n10_; have NB542_546 := n11_; have NB546_542 := n12_; clear n0_ n1_ n2_ n3_ n4_ n5_ n6_ n7_ n8_ n9_ n10_ n11_ n12_; clear hb hbox hg; obtain ⟨Ao29, co29, eo29⟩ := Kd.R_slice HO545.out; subst eo29; have hnb30 := NB546_533.out; have hnc30 := NB533_546.out; have hnb31 := NB546_542.out; have hnc31 := NB542_546.out; have hcz32_0 : w28.cell? ⟨gb546, 0, none⟩ = some (.slice none 0 0) := (blk_cell BK546.out 0).trans rfl; have hfz32_0 := blk_frozen BK546.out 0) | ((with_reducible refine gate_callee (f := 13) rfl ?_); refine goesL_ (some 36) rfl rfl Tryz.func13 (by kernel_rfl) rfl #[.agg #[.slice Ao29 t543.length co29], .string a1] rfl (by (try simp only [List.map_toArray, List.map_cons, List.map_nil]); first | done | rfl | (simp only [List.length_drop, List.length_take]; rfl)) ?_; (with_reducible refine (impl_RwrLine.calls k _ _ t543 a1 t547 t550 _ ?side1 ?side2 A13.out (EnvE.below hE (bl HB))).mono ?_); (case side1 => refine (Kd.R_reads' (e := 34) (base := w.heap.size) (ok := fun k_ => ((True ∧ some k_ ≠ (.slice Ao20 t535.length co20 : Value).ownBlock) ∧ some k_ ≠ (.slice Ao23 t538.length co23 : Value).ownBlock)) (n := t543.length) (c := co29) ?_).2.2; exact (by (with_reducible repeat apply ru); exact (Kd.R_mono (Kd.R_far (p := ⟨gb546, 0, none⟩) (Kd.R_types HO545.out BK546.out (by decide)) (fun _ hk => hk.2) (.slice Ao29 t543.length co29)) (fun _ h_ => h_.1)))); (case side2 => exact (Kd.R_reads' HO545.out).2.1); rintro e w33 ⟨v548, rfl, ho0, hb⟩; refine ⟨_, rfl, ?_⟩; have n0_ := Aside0.mk (Kd.R_elder' (by (with_reducible repeat apply ru); exact (Kd.R_mono (Kd.R_far (p := ⟨gb546, 0, none⟩) (Kd.R_types HO537.out BK546.out (by decide)) (fun _ hk => hk.2) (.slice Ao29 t543.length co29)) (fun _ h_ => h_.1))) (Kd.R_base ho0) hb); have n1_ := Aside0.mk (Kd.R_elder' (by (with_reducible repeat apply ru); exact (Kd.R_mono (Kd.R_far (p := ⟨gb546, 0, none⟩) (Kd.R_types HO540.out BK546.out (by decide)) (fun _ hk => hk.2) (.slice Ao29 t543.length co29)) (fun _ h_ => h_.1))) (Kd.R_base ho0) hb); have n2_ := Aside0.mk (Kd.R_elder' (by (with_reducible repeat apply ru); exact (Kd.R_mono (Kd.R_far (p := ⟨gb546, 0, none⟩) (Kd.R_types HO545.out BK546.out (by decide)) (fun _ hk => hk.2) (.slice Ao29 t543.length co29)) (fun _ h_ => h_.1))) (Kd.R_base ho0) hb); have n3_ := Aside0.mk (Kd.R_lower (Kd.R_new' (Kd.R_new' (Kd.R_new' ho0 (Kd.R_lt (by (with_reducible repeat apply ru); exact (Kd.R_mono (Kd.R_far (p := ⟨gb546, 0, none⟩) (Kd.R_types HO537.out BK546.out (by decide)) (fun _ hk => hk.2) (.slice Ao29 t543.length co29)) (fun _ h_ => h_.1))))) (Kd.R_lt (by (with_reducible repeat apply ru); exact (Kd.R_mono (Kd.R_far (p := ⟨gb546, 0, none⟩) (Kd.R_types HO540.out BK546.out (by decide)) (fun _ hk => hk.2) (.slice Ao29 t543.length co29)) (fun _ h_ => h_.1))))) (Kd.R_lt (by (with_reducible repeat apply ru); exact (Kd.R_mono (Kd.R_far (p := ⟨gb546, 0, none⟩) (Kd.R_types HO545.out BK546.out (by decide)) (fun _ hk => hk.2) (.slice Ao29 t543.length co29)) (fun _ h_ => h_.1))))) (below_size (bl HB))); have n4_ := Aside0.mk (blk_below (g := gb533) (o := .cells #[.slice A0_0 l0_0.length c0_0] 42 (0, 0)) (by (with_reducible repeat refine bu ?_); refine blk_far ?_ NB533_546.out _; (with_reducible repeat refine bu ?_); exact BK533.out) hb); have n5_ := Aside0.mk (blk_below (g := gb542) (o := .cells #[.slice Ao23 t538.length co23] 25 (0, 0)) (by (with_reducible repeat refine bu ?_); refine blk_far ?_ NB542_546.out _; (with_reducible repeat refine bu ?_); exact BK542.out) hb); have n6_ := Aside0.mk (blk_below (g := gb546) (o := .cells #[.slice Ao29 t543.length co29] 25 (0, 0)) (by (with_reducible repeat refine bu ?_); refine blk_put (cs := #[.slice none 0 0]) ?_ 0 _ rfl; (with_reducible repeat refine bu ?_); exact BK546.out) hb); have n7_ := Aside0.mk (below_step (bl HB) hb); clear HO537; clear HO540; clear HO545; clear BK533; clear BK542; clear BK546; clear HB; have HO537 := n0_; have HO540 := n1_; have HO545 := n2_; have HO549 := n3_; have BK533 := n4_; have BK542 := n5_; have BK546 := n6_; have HB := n7_; clear n0_ n1_ n2_ n3_ n4_ n5_ n6_ n7_; (try clear hb); (try clear hb2); (try clear hk); (try clear hi); (try clear ho0)) | ((with_reducible refine gate_dst (N := 9) rfl ?_); refine box_event ?hg (N := 9) ?hd (cs := #[.slice none 0 0]) (t := 25) ?hr ?_; (case hd => rfl); (case hg => rfl); (case hr => first | (go_simp; done) | (go_simp; rfl)); intro gb551 hg w34 hbox hb; have n0_ := Aside0.mk (Kd.R_below (rs HO537) hb); have n1_ := Aside0.mk (Kd.R_below (rs HO540) hb); have n2_ := Aside0.mk (Kd.R_below (rs HO545) hb); have n3_ := Aside0.mk (Kd.R_below (rs HO549) hb); have n4_ := bkB BK533 hb; have n5_ := bkB BK542 hb; have n6_ := bkB BK546 hb; have n7_ := Aside0.mk (below_step (bl HB) hb); have n8_ := Aside0.mk (hbox); have n9_ := Aside0.mk ((by rw [hg]; exact (below_size (bl HB)) : w.heap.size ≤ gb551)); have n10_ := Aside0.mk ((by rw [hg]; exact (below_size (bl HB)) : w.heap.size ≤ gb551)); have n11_ := Aside0.mk ((by rw [hg]; exact Nat.ne_of_lt (bkL BK533) : gb533 ≠ gb551)); have n12_ := Aside0.mk ((by rw [hg]; exact Nat.ne_of_gt (bkL BK533) : gb551 ≠ gb533)); have n13_ := Aside0.mk ((by rw [hg]; exact Nat.ne_of_lt (bkL BK542) : gb542 ≠ gb551)); have n14_ := Aside0.mk ((by rw [hg]; exact Nat.ne_of_gt (bkL BK542) : gb551 ≠ gb542)); have n15_ := Aside0.mk ((by rw [hg]; exact Nat.ne_of_lt (bkL BK546) : gb546 ≠ gb551)); have n16_ := Aside0.mk ((by rw [hg]; exact Nat.ne_of_gt (bkL BK546) : gb551 ≠ gb546)); clear HO537; clear HO540; clear HO545; clear HO549; clear BK533; clear BK542; clear BK546; clear HB; have HO537 := n0_; have HO540 := n1_; have HO545 := n2_; have HO549 := n3_; have BK533 := n4_; have BK542 := n5_; have BK546 := n6_; have HB := n7_; have BK551 := n8_; have GW551 := n9_; have GE551 := n10_; have NB533_551 := n11_; have NB551_533 := n12_; have NB542_551 := n13_; have NB551_542 := n14_; have NB546_551 := n15_; have NB551_546 := n16_; clear n0_ n1_ n2_ n3_ n4_ n5_ n6_ n7_ n8_ n9_ n10_ n11_ n12_ n13_ n14_ n15_ n16_; clear hb hbox hg; obtain ⟨Ao35, co35, eo35⟩ := Kd.R_slice HO549.out; subst eo35; have hnb36 := NB551_533.out; have hnc36 := NB533_551.out; have hnb37 := NB551_542.out; have hnc37 := NB542_551.out; have hnb38 := NB551_546.out; have hnc38 := NB546_551.out; have hcz39_0 : w34.cell? ⟨gb551, 0, none⟩ = some (.slice none 0 0) := (blk_cell BK551.out 0).trans rfl; have hfz39_0 := blk_frozen BK551.out 0))
      (try simp only [Act.put, List.setIfInBounds_toArray, List.set_cons_zero, List.set_cons_succ])
      go_cut [47] (fun v47 wc => ∃ (kq : Nat) (x47_13 : Bool), v47 = .bool x47_13 ∧ Aside0 (laws_FnExactRwrLine.j0 kq a1 t541 t550 x47_13 l0_0 t538 t543 t547 = some r) ∧ Aside0 (kq ≤ k) ∧ Aside0 (Kd.R k34 34 wc w.heap.size (fun k_ => some k_ ≠ ((.slice Ao29 t543.length co29) : Value).ownBlock ∧ some k_ ≠ ((.slice Ao35 t547.length co35) : Value).ownBlock) (.slice Ao23 t538.length co23) t538) ∧ Aside0 (Kd.R k34 34 wc w.heap.size (fun k_ => some k_ ≠ ((.slice Ao23 t538.length co23) : Value).ownBlock ∧ some k_ ≠ ((.slice Ao35 t547.length co35) : Value).ownBlock) (.slice Ao29 t543.length co29) t543) ∧ Aside0 (Kd.R k34 34 wc w.heap.size (fun k_ => some k_ ≠ ((.slice Ao23 t538.length co23) : Value).ownBlock ∧ some k_ ≠ ((.slice Ao29 t543.length co29) : Value).ownBlock) (.slice Ao35 t547.length co35) t547) ∧ Aside0 (wc.heap[gb533]? = some (.cells #[(.slice A0_0 l0_0.length c0_0)] 42 (0, 0))) ∧ Aside0 (wc.heap[gb542]? = some (.cells #[(.slice Ao23 t538.length co23)] 25 (0, 0))) ∧ Aside0 (wc.heap[gb546]? = some (.cells #[(.slice Ao29 t543.length co29)] 25 (0, 0))) ∧ Aside0 (wc.heap[gb551]? = some (.cells #[(.slice Ao35 t547.length co35)] 25 (0, 0))) ∧ Aside0 (Below w.heap.size w wc))
      case first =>
        have H := HC14.out
        clear HC14
        replace H := Option.bind_eq_some_iff.mp H
        obtain ⟨t552, A400, H⟩ := H
        replace H : (if t552 = true then (laws_FnExactRwrLine.j0 k a1 t541 t550 (t550.toList != t541.toList) l0_0 t538 t543 t547) else (laws_FnExactRwrLine.j0 k a1 t541 t550 true l0_0 t538 t543 t547)) = some r := H
        have A40 := Aside0.mk A400
        clear A400
        by_cases c41 : t552 = true
        · subst c41
          have H1 : (laws_FnExactRwrLine.j0 k a1 t541 t550 (t550.toList != t541.toList) l0_0 t538 t543 t547) = some r := by rw [if_pos rfl] at H; exact H
          clear H
          have H := H1
          clear H1
          have H' := Aside0.mk H
          clear H
          have hnb42 := NB551_533.out
          have hnc42 := NB533_551.out
          have hnb43 := NB551_542.out
          have hnc43 := NB542_551.out
          have hnb44 := NB551_546.out
          have hnc44 := NB546_551.out
          have hcz45_0 : w34.cell? ⟨gb551, 0, none⟩ = some (.slice none 0 0) := (blk_cell BK551.out 0).trans rfl
          have hfz45_0 := blk_frozen BK551.out 0
          have hnb46 := NB542_533.out
          have hnc46 := NB533_542.out
          have hnb47 := NB542_546.out
          have hnc47 := NB546_542.out
          have hcz48_0 : w34.cell? ⟨gb542, 0, none⟩ = some (.slice Ao23 t538.length co23) := (blk_cell BK542.out 0).trans rfl
          have hfz48_0 := blk_frozen BK542.out 0
          go_wp2_with (first | ((with_reducible refine gate_callee (f := 27) rfl ?_); refine goesL_ (some 41) rfl rfl Tryz.func27 (by kernel_rfl) rfl #[.agg #[.slice Ao35 t547.length co35], .agg #[.slice Ao23 t538.length co23]] rfl (by (try simp only [List.map_toArray, List.map_cons, List.map_nil]); first | done | rfl | (simp only [List.length_drop, List.length_take]; rfl)) ?_; (with_reducible refine (laws_eqMapTab.calls k _ _ t547 _ _ t538 true _ ?side1 ?side2 ?side3 ?side4 A40.out).mono ?_); (case side1 => refine (Kd.R_reads' (e := 34) (base := w.heap.size) (ok := fun k_ => (((True ∧ some k_ ≠ (.slice Ao20 t535.length co20 : Value).ownBlock) ∧ some k_ ≠ (.slice Ao23 t538.length co23 : Value).ownBlock) ∧ some k_ ≠ (.slice Ao29 t543.length co29 : Value).ownBlock)) (n := t547.length) (c := co35) ?_).2.2; exact (by (with_reducible repeat apply ru); exact (Kd.R_mono (Kd.R_far (p := ⟨gb551, 0, none⟩) (Kd.R_types HO549.out BK551.out (by decide)) (fun _ hk => hk.2) (.slice Ao35 t547.length co35)) (fun _ h_ => h_.1)))); (case side2 => exact (Kd.R_reads' HO549.out).2.1); (case side3 => refine (Kd.R_reads' (e := 34) (base := w.heap.size) (ok := fun k_ => (((True ∧ some k_ ≠ (.slice Ao20 t535.length co20 : Value).ownBlock) ∧ some k_ ≠ (.slice Ao29 t543.length co29 : Value).ownBlock) ∧ some k_ ≠ (.slice Ao35 t547.length co35 : Value).ownBlock)) (n := t538.length) (c := co23) ?_).2.2; exact (by (with_reducible repeat apply ru); exact (Kd.R_mono (Kd.R_far (p := ⟨gb551, 0, none⟩) (Kd.R_types HO540.out BK551.out (by decide)) (fun _ hk => hk.2) (.slice Ao35 t547.length co35)) (fun _ h_ => h_.1)))); (case side4 => exact (Kd.R_reads' HO540.out).2.1); rintro e w49 ⟨rfl, hb⟩; refine ⟨_, rfl, ?_⟩; have n0_ := Aside0.mk (Kd.R_below (by (with_reducible repeat apply ru); exact (Kd.R_mono (Kd.R_far (p := ⟨gb551, 0, none⟩) (Kd.R_types HO537.out BK551.out (by decide)) (fun _ hk => hk.2) (.slice Ao35 t547.length co35)) (fun _ h_ => h_.1))) hb); have n1_ := Aside0.mk (Kd.R_below (by (with_reducible repeat apply ru); exact (Kd.R_mono (Kd.R_far (p := ⟨gb551, 0, none⟩) (Kd.R_types HO540.out BK551.out (by decide)) (fun _ hk => hk.2) (.slice Ao35 t547.length co35)) (fun _ h_ => h_.1))) hb); have n2_ := Aside0.mk (Kd.R_below (by (with_reducible repeat apply ru); exact (Kd.R_mono (Kd.R_far (p := ⟨gb551, 0, none⟩) (Kd.R_types HO545.out BK551.out (by decide)) (fun _ hk => hk.2) (.slice Ao35 t547.length co35)) (fun _ h_ => h_.1))) hb); have n3_ := Aside0.mk (Kd.R_below (by (with_reducible repeat apply ru); exact (Kd.R_mono (Kd.R_far (p := ⟨gb551, 0, none⟩) (Kd.R_types HO549.out BK551.out (by decide)) (fun _ hk => hk.2) (.slice Ao35 t547.length co35)) (fun _ h_ => h_.1))) hb); have n4_ := Aside0.mk (blk_below (g := gb533) (o := .cells #[.slice A0_0 l0_0.length c0_0] 42 (0, 0)) (by (with_reducible repeat refine bu ?_); refine blk_far ?_ NB533_551.out _; (with_reducible repeat refine bu ?_); exact BK533.out) hb); have n5_ := Aside0.mk (blk_below (g := gb542) (o := .cells #[.slice Ao23 t538.length co23] 25 (0, 0)) (by (with_reducible repeat refine bu ?_); refine blk_far ?_ NB542_551.out _; (with_reducible repeat refine bu ?_); exact BK542.out) hb); have n6_ := Aside0.mk (blk_below (g := gb546) (o := .cells #[.slice Ao29 t543.length co29] 25 (0, 0)) (by (with_reducible repeat refine bu ?_); refine blk_far ?_ NB546_551.out _; (with_reducible repeat refine bu ?_); exact BK546.out) hb); have n7_ := Aside0.mk (blk_below (g := gb551) (o := .cells #[.slice Ao35 t547.length co35] 25 (0, 0)) (by (with_reducible repeat refine bu ?_); refine blk_put (cs := #[.slice none 0 0]) ?_ 0 _ rfl; (with_reducible repeat refine bu ?_); exact BK551.out) hb); have n8_ := Aside0.mk (below_step (bl HB) hb); clear HO537; clear HO540; clear HO545; clear HO549; clear BK533; clear BK542; clear BK546; clear BK551; clear HB; have HO537 := n0_; have HO540 := n1_; have HO545 := n2_; have HO549 := n3_; have BK533 := n4_; have BK542 := n5_; have BK546 := n6_; have BK551 := n7_; have HB := n8_; clear n0_ n1_ n2_ n3_ n4_ n5_ n6_ n7_ n8_; (try clear hb); (try clear hb2); (try clear hk); (try clear hi)))
          go_meet
          case rel => exact ⟨_, ((t550.toList != t541.toList)), (by first | rfl | (simp; done) | (simp [*]; done)), H', ⟨by first | omega | exact Nat.le_refl _⟩, ⟨by (with_reducible repeat apply ru); exact Kd.R_mono HO540.out (fun _ hk => ⟨hk.1.2, hk.2⟩)⟩, ⟨by (with_reducible repeat apply ru); exact Kd.R_mono HO545.out (fun _ hk => ⟨hk.1.2, hk.2⟩)⟩, ⟨by (with_reducible repeat apply ru); exact Kd.R_mono HO549.out (fun _ hk => ⟨hk.1.2, hk.2⟩)⟩, ⟨by (with_reducible repeat refine bu ?_); exact BK533.out⟩, ⟨by (with_reducible repeat refine bu ?_); exact BK542.out⟩, ⟨by (with_reducible repeat refine bu ?_); exact BK546.out⟩, ⟨by (with_reducible repeat refine bu ?_); exact BK551.out⟩, ⟨by repeat (first | (with_reducible first | exact HB.out | apply below_alloc | apply pw_below_drewN | apply below_drew1 | refine below_set ?_ GE533.out | refine below_set ?_ GE542.out | refine below_set ?_ GE546.out | refine below_set ?_ GE551.out) | exact HB.out)⟩⟩
        · replace c41 := Bool.eq_false_iff.mpr c41
          subst c41
          have H1 : (laws_FnExactRwrLine.j0 k a1 t541 t550 true l0_0 t538 t543 t547) = some r := by rw [if_neg (show ¬ (false = true) by decide)] at H; exact H
          clear H
          have H := H1
          clear H1
          have H' := Aside0.mk H
          clear H
          have hnb50 := NB551_533.out
          have hnc50 := NB533_551.out
          have hnb51 := NB551_542.out
          have hnc51 := NB542_551.out
          have hnb52 := NB551_546.out
          have hnc52 := NB546_551.out
          have hcz53_0 : w34.cell? ⟨gb551, 0, none⟩ = some (.slice none 0 0) := (blk_cell BK551.out 0).trans rfl
          have hfz53_0 := blk_frozen BK551.out 0
          have hnb54 := NB542_533.out
          have hnc54 := NB533_542.out
          have hnb55 := NB542_546.out
          have hnc55 := NB546_542.out
          have hcz56_0 : w34.cell? ⟨gb542, 0, none⟩ = some (.slice Ao23 t538.length co23) := (blk_cell BK542.out 0).trans rfl
          have hfz56_0 := blk_frozen BK542.out 0
          go_wp2_with (first | ((with_reducible refine gate_callee (f := 27) rfl ?_); refine goesL_ (some 41) rfl rfl Tryz.func27 (by kernel_rfl) rfl #[.agg #[.slice Ao35 t547.length co35], .agg #[.slice Ao23 t538.length co23]] rfl (by (try simp only [List.map_toArray, List.map_cons, List.map_nil]); first | done | rfl | (simp only [List.length_drop, List.length_take]; rfl)) ?_; (with_reducible refine (laws_eqMapTab.calls k _ _ t547 _ _ t538 false _ ?side1 ?side2 ?side3 ?side4 A40.out).mono ?_); (case side1 => refine (Kd.R_reads' (e := 34) (base := w.heap.size) (ok := fun k_ => (((True ∧ some k_ ≠ (.slice Ao20 t535.length co20 : Value).ownBlock) ∧ some k_ ≠ (.slice Ao23 t538.length co23 : Value).ownBlock) ∧ some k_ ≠ (.slice Ao29 t543.length co29 : Value).ownBlock)) (n := t547.length) (c := co35) ?_).2.2; exact (by (with_reducible repeat apply ru); exact (Kd.R_mono (Kd.R_far (p := ⟨gb551, 0, none⟩) (Kd.R_types HO549.out BK551.out (by decide)) (fun _ hk => hk.2) (.slice Ao35 t547.length co35)) (fun _ h_ => h_.1)))); (case side2 => exact (Kd.R_reads' HO549.out).2.1); (case side3 => refine (Kd.R_reads' (e := 34) (base := w.heap.size) (ok := fun k_ => (((True ∧ some k_ ≠ (.slice Ao20 t535.length co20 : Value).ownBlock) ∧ some k_ ≠ (.slice Ao29 t543.length co29 : Value).ownBlock) ∧ some k_ ≠ (.slice Ao35 t547.length co35 : Value).ownBlock)) (n := t538.length) (c := co23) ?_).2.2; exact (by (with_reducible repeat apply ru); exact (Kd.R_mono (Kd.R_far (p := ⟨gb551, 0, none⟩) (Kd.R_types HO540.out BK551.out (by decide)) (fun _ hk => hk.2) (.slice Ao35 t547.length co35)) (fun _ h_ => h_.1)))); (case side4 => exact (Kd.R_reads' HO540.out).2.1); rintro e w57 ⟨rfl, hb⟩; refine ⟨_, rfl, ?_⟩; have n0_ := Aside0.mk (Kd.R_below (by (with_reducible repeat apply ru); exact (Kd.R_mono (Kd.R_far (p := ⟨gb551, 0, none⟩) (Kd.R_types HO537.out BK551.out (by decide)) (fun _ hk => hk.2) (.slice Ao35 t547.length co35)) (fun _ h_ => h_.1))) hb); have n1_ := Aside0.mk (Kd.R_below (by (with_reducible repeat apply ru); exact (Kd.R_mono (Kd.R_far (p := ⟨gb551, 0, none⟩) (Kd.R_types HO540.out BK551.out (by decide)) (fun _ hk => hk.2) (.slice Ao35 t547.length co35)) (fun _ h_ => h_.1))) hb); have n2_ := Aside0.mk (Kd.R_below (by (with_reducible repeat apply ru); exact (Kd.R_mono (Kd.R_far (p := ⟨gb551, 0, none⟩) (Kd.R_types HO545.out BK551.out (by decide)) (fun _ hk => hk.2) (.slice Ao35 t547.length co35)) (fun _ h_ => h_.1))) hb); have n3_ := Aside0.mk (Kd.R_below (by (with_reducible repeat apply ru); exact (Kd.R_mono (Kd.R_far (p := ⟨gb551, 0, none⟩) (Kd.R_types HO549.out BK551.out (by decide)) (fun _ hk => hk.2) (.slice Ao35 t547.length co35)) (fun _ h_ => h_.1))) hb); have n4_ := Aside0.mk (blk_below (g := gb533) (o := .cells #[.slice A0_0 l0_0.length c0_0] 42 (0, 0)) (by (with_reducible repeat refine bu ?_); refine blk_far ?_ NB533_551.out _; (with_reducible repeat refine bu ?_); exact BK533.out) hb); have n5_ := Aside0.mk (blk_below (g := gb542) (o := .cells #[.slice Ao23 t538.length co23] 25 (0, 0)) (by (with_reducible repeat refine bu ?_); refine blk_far ?_ NB542_551.out _; (with_reducible repeat refine bu ?_); exact BK542.out) hb); have n6_ := Aside0.mk (blk_below (g := gb546) (o := .cells #[.slice Ao29 t543.length co29] 25 (0, 0)) (by (with_reducible repeat refine bu ?_); refine blk_far ?_ NB546_551.out _; (with_reducible repeat refine bu ?_); exact BK546.out) hb); have n7_ := Aside0.mk (blk_below (g := gb551) (o := .cells #[.slice Ao35 t547.length co35] 25 (0, 0)) (by (with_reducible repeat refine bu ?_); refine blk_put (cs := #[.slice none 0 0]) ?_ 0 _ rfl; (with_reducible repeat refine bu ?_); exact BK551.out) hb); have n8_ := Aside0.mk (below_step (bl HB) hb); clear HO537; clear HO540; clear HO545; clear HO549; clear BK533; clear BK542; clear BK546; clear BK551; clear HB; have HO537 := n0_; have HO540 := n1_; have HO545 := n2_; have HO549 := n3_; have BK533 := n4_; have BK542 := n5_; have BK546 := n6_; have BK551 := n7_; have HB := n8_; clear n0_ n1_ n2_ n3_ n4_ n5_ n6_ n7_ n8_; (try clear hb); (try clear hb2); (try clear hk); (try clear hi)))
          go_meet
          case rel => exact ⟨_, (true), (by first | rfl | (simp; done) | (simp [*]; done)), H', ⟨by first | omega | exact Nat.le_refl _⟩, ⟨by (with_reducible repeat apply ru); exact Kd.R_mono HO540.out (fun _ hk => ⟨hk.1.2, hk.2⟩)⟩, ⟨by (with_reducible repeat apply ru); exact Kd.R_mono HO545.out (fun _ hk => ⟨hk.1.2, hk.2⟩)⟩, ⟨by (with_reducible repeat apply ru); exact Kd.R_mono HO549.out (fun _ hk => ⟨hk.1.2, hk.2⟩)⟩, ⟨by (with_reducible repeat refine bu ?_); exact BK533.out⟩, ⟨by (with_reducible repeat refine bu ?_); exact BK542.out⟩, ⟨by (with_reducible repeat refine bu ?_); exact BK546.out⟩, ⟨by (with_reducible repeat refine bu ?_); exact BK551.out⟩, ⟨by repeat (first | (with_reducible first | exact HB.out | apply below_alloc | apply pw_below_drewN | apply below_drew1 | refine below_set ?_ GE533.out | refine below_set ?_ GE542.out | refine below_set ?_ GE546.out | refine below_set ?_ GE551.out) | exact HB.out)⟩⟩
      case rest =>
        clear HC14
        try clear c1
        try clear c2
        try clear p2
        try clear c3
        try clear c3b0
        try clear c3b1
        try clear c4
        try clear c5
        try clear c6
        try clear c6b0
        try clear c13
        try clear c14
        try clear c24
        try clear c25
        try clear c26
        try clear c27
        try clear c30
        try clear c31
        try clear c36
        try clear c37
        try clear c38
        try clear c41
        try clear c42
        try clear c43
        try clear c44
        try clear c46
        try clear c47
        try clear c50
        try clear c51
        try clear c52
        try clear c54
        try clear c55
        try clear hcz16_0
        try clear hcz18_0
        try clear hcz25_0
        try clear hcz26_0
        try clear hcz32_0
        try clear hcz39_0
        try clear hcz45_0
        try clear hcz48_0
        try clear hcz53_0
        try clear hcz56_0
        try clear hcz8_0
        try clear hfz16_0
        try clear hfz18_0
        try clear hfz25_0
        try clear hfz26_0
        try clear hfz32_0
        try clear hfz39_0
        try clear hfz45_0
        try clear hfz48_0
        try clear hfz53_0
        try clear hfz56_0
        try clear hfz8_0
        obtain ⟨kq, x47_13, rfl, HA, HJ13, HO_543000, HO_547000, HO_552000, BK533, BK542, BK546, BK551, HB⟩ := hcut
        cases kq with
        | zero => exact absurd HA.out (by simp [laws_FnExactRwrLine.j0])
        | succ kj13 =>
          have H := HA.out
          clear HA
          simp only [laws_FnExactRwrLine.j0] at H
          by_cases c58 : x47_13 = true
          · subst c58
            have H1 : (some false) = some r := by rw [if_pos rfl] at H; exact H
            clear H
            have H := H1
            clear H1
            exact absurd ((Option.some.inj H).trans hrt.out) (by decide)
          · replace c58 := Bool.eq_false_iff.mpr c58
            subst c58
            have H1 : ((laws_toMapTab.f kj13 l0_0).bind fun t553 => ((laws_eqMapTab.f kj13 t543 t553).bind fun t556 => (if t556 = true then ((laws_markMapTab.f kj13 t543 1).bind fun bt557 => (if bt557.1 < 0 then (laws_FnExactRwrLine.j1 kj13 a1 t541 true l0_0 t538 t547) else ((laws_eqMapTab.f kj13 t547 t538).bind fun t559 => (if t559 = true then (laws_FnExactRwrLine.j1 kj13 a1 t541 (t550.toList != t541.toList) l0_0 t538 t547) else (laws_FnExactRwrLine.j1 kj13 a1 t541 true l0_0 t538 t547))))) else (some false)))) = some r := by rw [if_neg (show ¬ (false = true) by decide)] at H; exact H
            clear H
            have H := H1
            clear H1
            replace H := Option.bind_eq_some_iff.mp H
            obtain ⟨t553, A590, H⟩ := H
            replace H : ((laws_eqMapTab.f kj13 t543 t553).bind fun t556 => (if t556 = true then ((laws_markMapTab.f kj13 t543 1).bind fun bt557 => (if bt557.1 < 0 then (laws_FnExactRwrLine.j1 kj13 a1 t541 true l0_0 t538 t547) else ((laws_eqMapTab.f kj13 t547 t538).bind fun t559 => (if t559 = true then (laws_FnExactRwrLine.j1 kj13 a1 t541 (t550.toList != t541.toList) l0_0 t538 t547) else (laws_FnExactRwrLine.j1 kj13 a1 t541 true l0_0 t538 t547))))) else (some false))) = some r := H
            have A59 := Aside0.mk A590
            clear A590
            replace H := Option.bind_eq_some_iff.mp H
            obtain ⟨t556, A600, H⟩ := H
            replace H : (if t556 = true then ((laws_markMapTab.f kj13 t543 1).bind fun bt557 => (if bt557.1 < 0 then (laws_FnExactRwrLine.j1 kj13 a1 t541 true l0_0 t538 t547) else ((laws_eqMapTab.f kj13 t547 t538).bind fun t559 => (if t559 = true then (laws_FnExactRwrLine.j1 kj13 a1 t541 (t550.toList != t541.toList) l0_0 t538 t547) else (laws_FnExactRwrLine.j1 kj13 a1 t541 true l0_0 t538 t547))))) else (some false)) = some r := H
            have A60 := Aside0.mk A600
            clear A600
            by_cases c61 : t556 = true
            · subst c61
              have H1 : ((laws_markMapTab.f kj13 t543 1).bind fun bt557 => (if bt557.1 < 0 then (laws_FnExactRwrLine.j1 kj13 a1 t541 true l0_0 t538 t547) else ((laws_eqMapTab.f kj13 t547 t538).bind fun t559 => (if t559 = true then (laws_FnExactRwrLine.j1 kj13 a1 t541 (t550.toList != t541.toList) l0_0 t538 t547) else (laws_FnExactRwrLine.j1 kj13 a1 t541 true l0_0 t538 t547))))) = some r := by rw [if_pos rfl] at H; exact H
              clear H
              have H := H1
              clear H1
              replace H := Option.bind_eq_some_iff.mp H
              obtain ⟨⟨t557, t558⟩, A620, H⟩ := H
              replace H : (if t557 < 0 then (laws_FnExactRwrLine.j1 kj13 a1 t541 true l0_0 t538 t547) else ((laws_eqMapTab.f kj13 t547 t538).bind fun t559 => (if t559 = true then (laws_FnExactRwrLine.j1 kj13 a1 t541 (t550.toList != t541.toList) l0_0 t538 t547) else (laws_FnExactRwrLine.j1 kj13 a1 t541 true l0_0 t538 t547)))) = some r := H
              have A62 := Aside0.mk A620
              clear A620
              have HC63 := Aside0.mk H
              clear H
              try go_wp2
              have n0_ := Aside0.mk (Kd.R_drew HO_543000.out)
              have n1_ := Aside0.mk (Kd.R_drew HO_547000.out)
              have n2_ := Aside0.mk (Kd.R_drew HO_552000.out)
              have n3_ := Aside0.mk (blk_drew BK533.out)
              have n4_ := Aside0.mk (blk_drew BK542.out)
              have n5_ := Aside0.mk (blk_drew BK546.out)
              have n6_ := Aside0.mk (blk_drew BK551.out)
              have n7_ := Aside0.mk (below_drew1 HB.out)
              clear HO_543000
              clear HO_547000
              clear HO_552000
              clear BK533
              clear BK542
              clear BK546
              clear BK551
              clear HB
              have HO_543000 := n0_
              have HO_547000 := n1_
              have HO_552000 := n2_
              have BK533 := n3_
              have BK542 := n4_
              have BK546 := n5_
              have BK551 := n6_
              have HB := n7_
              clear n0_ n1_ n2_ n3_ n4_ n5_ n6_ n7_
              refine start_ (n := 5) (S := fun w' => w'.cell? ⟨gb546, 0, none⟩ = some (.slice Ao29 t543.length co29) ∧ w'.cell? ⟨gb533, 0, none⟩ = some (.slice A0_0 l0_0.length c0_0)) (ds := []) #[false, false, false, false, false] (by kernel_rfl) rfl rfl ⟨(blk_cell BK546.out 0).trans rfl, (blk_cell BK533.out 0).trans rfl⟩ (fun hHeld => ?_)
              generalize wc.drew = w64 at HO_543000 HO_547000 HO_552000 BK533 BK542 BK546 BK551 HB hHeld ⊢
              refine take_ (i := 0) (N := some 48) (v := ?_) (a' := ?_) #[true, false, false, false, false] rfl rfl (by kernel_rfl) (fun _ _ _ h => h) (Or.inl ⟨by rfl, ?_⟩) hHeld ?_ ?_
              rotate_left
              · rintro w' ⟨s0, s1⟩
                go_simp
                with_reducible rfl
              rotate_left
              · simp only [Act.put, List.setIfInBounds_toArray, List.set_cons_zero, List.set_cons_succ, i64_w, i32_w]
                rfl
              refine take_ (i := 1) (N := some 49) (v := ?_) (a' := ?_) #[true, true, false, false, false] rfl rfl (by kernel_rfl) (fun _ _ _ h => h) (Or.inl ⟨by rfl, ?_⟩) hHeld ?_ ?_
              rotate_left
              · rintro w' ⟨s0, s1⟩
                go_simp
                with_reducible rfl
              rotate_left
              · simp only [Act.put, List.setIfInBounds_toArray, List.set_cons_zero, List.set_cons_succ, i64_w, i32_w]
                rfl
              refine one_ (i := 2) (N := some 50) #[true, true, true, false, false] rfl rfl (by kernel_rfl) (by decide) (fun K hK => ?_)
              refine goes_ Tryz.func26 (by kernel_rfl) rfl #[.agg #[.slice A0_0 l0_0.length c0_0]] (by rfl) rfl rfl (by (try simp only [List.map_toArray, List.map_cons, List.map_nil]); first | done | rfl | (simp only [List.length_drop, List.length_take]; rfl)) ?_
              with_reducible refine (laws_toMapTab.calls kj13 _ _ l0_0 t553 _ ?side1 ?side2 A59.out).mono ?_
              (case side1 => repeat (first | exact (Kd.C_below HR0_0.out HB.out) | (with_reducible refine Kd.C_alloc ?_ _) | (with_reducible refine Kd.C_drewN ?_ _) | (with_reducible refine Kd.C_drew ?_)))
              (case side2 => exact HC0_0.out)
              rintro e w65 ⟨v554, rfl, ho0, hb⟩
              refine ⟨_, rfl, ?_⟩
              have n0_ := Aside0.mk (Kd.R_elder' (rs HO_543000) (Kd.R_base ho0) hb)
              have n1_ := Aside0.mk (Kd.R_elder' (rs HO_547000) (Kd.R_base ho0) hb)
              have n2_ := Aside0.mk (Kd.R_elder' (rs HO_552000) (Kd.R_base ho0) hb)
              have n3_ := Aside0.mk (Kd.R_lower (Kd.R_new' (Kd.R_new' (Kd.R_new' ho0 (Kd.R_lt (rs HO_543000))) (Kd.R_lt (rs HO_547000))) (Kd.R_lt (rs HO_552000))) (below_size (bl HB)))
              have n4_ := bkB BK533 hb
              have n5_ := bkB BK542 hb
              have n6_ := bkB BK546 hb
              have n7_ := bkB BK551 hb
              have n8_ := Aside0.mk (below_step (bl HB) hb)
              clear HO_543000
              clear HO_547000
              clear HO_552000
              clear BK533
              clear BK542
              clear BK546
              clear BK551
              clear HB
              have HO_543000 := n0_
              have HO_547000 := n1_
              have HO_552000 := n2_
              have HO555 := n3_
              have BK533 := n4_
              have BK542 := n5_
              have BK546 := n6_
              have BK551 := n7_
              have HB := n8_
              clear n0_ n1_ n2_ n3_ n4_ n5_ n6_ n7_ n8_
              (try clear hb)
              (try clear hb2)
              (try clear hk)
              (try clear hi)
              (try clear ho0)
              obtain ⟨Ao66, co66, eo66⟩ := Kd.R_slice HO555.out
              (first | subst eo66 | (injection eo66 with f1_ f2_ f3_; have f4_ := f1_.symm; have f5_ := f3_.symm; clear f1_ f2_ f3_; subst f4_; subst f5_))
              refine hK.out _ _ ⟨(blk_cell BK546.out 0).trans rfl, (blk_cell BK533.out 0).trans rfl⟩ (fun hHeld => ?_)
              clear hK K
              refine norm_ (a' := ?_) ?_ ?_
              rotate_left
              · show Act.put _ (some 50) _ = _
                simp only [Act.put, List.setIfInBounds_toArray, List.set_cons_zero, List.set_cons_succ, i64_w, i32_w]
                rfl
              refine one_ (i := 3) (N := some 51) #[true, true, true, true, false] rfl rfl (by kernel_rfl) (by decide) (fun K hK => ?_)
              refine goes_ Tryz.func27 (by kernel_rfl) rfl #[.agg #[.slice Ao29 t543.length co29], .agg #[.slice Ao66 t553.length co66]] (by rfl) rfl rfl (by (try simp only [List.map_toArray, List.map_cons, List.map_nil]); first | done | rfl | (simp only [List.length_drop, List.length_take]; rfl)) ?_
              with_reducible refine (laws_eqMapTab.calls kj13 _ _ t543 _ _ t553 true _ ?side1 ?side2 ?side3 ?side4 A60.out).mono ?_
              (case side1 => repeat (first | exact (Kd.R_reads' HO_547000.out).2.2 | (with_reducible refine Kd.C_alloc ?_ _) | (with_reducible refine Kd.C_drewN ?_ _) | (with_reducible refine Kd.C_drew ?_)))
              (case side2 => exact (Kd.R_reads' HO_547000.out).2.1)
              (case side3 => repeat (first | exact (Kd.R_reads' HO555.out).2.2 | (with_reducible refine Kd.C_alloc ?_ _) | (with_reducible refine Kd.C_drewN ?_ _) | (with_reducible refine Kd.C_drew ?_)))
              (case side4 => exact (Kd.R_reads' HO555.out).2.1)
              rintro e w67 ⟨rfl, hb⟩
              refine ⟨_, rfl, ?_⟩
              have n0_ := Aside0.mk (Kd.R_below (rs HO_543000) hb)
              have n1_ := Aside0.mk (Kd.R_below (rs HO_547000) hb)
              have n2_ := Aside0.mk (Kd.R_below (rs HO_552000) hb)
              have n3_ := Aside0.mk (Kd.R_below (rs HO555) hb)
              have n4_ := bkB BK533 hb
              have n5_ := bkB BK542 hb
              have n6_ := bkB BK546 hb
              have n7_ := bkB BK551 hb
              have n8_ := Aside0.mk (below_step (bl HB) hb)
              clear HO_543000
              clear HO_547000
              clear HO_552000
              clear HO555
              clear BK533
              clear BK542
              clear BK546
              clear BK551
              clear HB
              have HO_543000 := n0_
              have HO_547000 := n1_
              have HO_552000 := n2_
              have HO555 := n3_
              have BK533 := n4_
              have BK542 := n5_
              have BK546 := n6_
              have BK551 := n7_
              have HB := n8_
              clear n0_ n1_ n2_ n3_ n4_ n5_ n6_ n7_ n8_
              (try clear hb)
              (try clear hb2)
              (try clear hk)
              (try clear hi)
              refine hK.out _ _ ⟨(blk_cell BK546.out 0).trans rfl, (blk_cell BK533.out 0).trans rfl⟩ (fun hHeld => ?_)
              clear hK K
              refine norm_ (a' := ?_) ?_ ?_
              rotate_left
              · show Act.put _ (some 51) _ = _
                simp only [Act.put, List.setIfInBounds_toArray, List.set_cons_zero, List.set_cons_succ, i64_w, i32_w]
                rfl
              refine pure_ (i := 4) (N := some 52) (v := ?_) (a' := ?_) #[true, true, true, true, true] rfl rfl (by kernel_rfl) (fun _ _ _ h => h) (Or.inl ⟨by rfl, ?_⟩) ?_ ?_
              rotate_left
              · intro w'
                go_simp
                with_reducible rfl
              rotate_left
              · simp only [Act.put, List.setIfInBounds_toArray, List.set_cons_zero, List.set_cons_succ, i64_w, i32_w]
                rfl
              refine done_ (by kernel_rfl) ?_
              have hnb68 := NB546_533.out
              have hnc68 := NB533_546.out
              have hnb69 := NB546_542.out
              have hnc69 := NB542_546.out
              have hnb70 := NB546_551.out
              have hnc70 := NB551_546.out
              have hcz71_0 : w67.cell? ⟨gb546, 0, none⟩ = some (.slice Ao29 t543.length co29) := (blk_cell BK546.out 0).trans rfl
              have hfz71_0 := blk_frozen BK546.out 0
              go_upto_region 16 with (first | ((with_reducible refine gate_callee (f := 28) rfl ?_); refine goesL_ (some 55) rfl rfl Tryz.func28 (by kernel_rfl) rfl #[.agg #[.slice Ao29 t543.length co29], .int .i64 1] rfl (by (try simp only [List.map_toArray, List.map_cons, List.map_nil]); first | done | rfl | (simp only [List.length_drop, List.length_take]; rfl)) ?_; (with_reducible refine (laws_markMapTab.calls kj13 (fun k_ => some k_ = (.slice Ao29 t543.length co29 : Value).ownBlock) (.slice Ao29 t543.length co29) t543 1 t557 t558 w _ ?side1 ?side2 A62.out).mono ?_); (case side1 => repeat (first | (with_reducible first | exact HB.out | apply below_alloc | apply pw_below_drewN | apply below_drew1 | refine below_set ?_ GE533.out | refine below_set ?_ GE542.out | refine below_set ?_ GE546.out | refine below_set ?_ GE551.out) | exact HB.out)); (case side2 => exact Kd.R_tight rfl HO_547000.out); rintro e w72 ⟨rfl, hy0, hb, hkp⟩; refine ⟨_, rfl, ?_⟩; have n0_ := Aside0.mk (Kd.R_mono (ok' := fun k_ => some k_ ≠ (.slice Ao29 t543.length co29 : Value).ownBlock ∧ some k_ ≠ (.slice Ao35 t547.length co35 : Value).ownBlock ∧ some k_ ≠ (.slice Ao66 t553.length co66 : Value).ownBlock) (Kd.R_keptB (HO_543000.out) hkp (fun k_ hk_ hs_ => (hk_.1.1) hs_)) (fun k_ hk_ => ⟨hk_.1.1.1, hk_.1.1.2, hk_.1.2⟩)); have n1_ := Aside0.mk (Kd.R_reok rfl hy0 (fun k_ e_ => HO_547000.out.1 k_ e_)); have n2_ := Aside0.mk (Kd.R_mono (ok' := fun k_ => some k_ ≠ (.slice Ao23 t538.length co23 : Value).ownBlock ∧ some k_ ≠ (.slice Ao29 t543.length co29 : Value).ownBlock ∧ some k_ ≠ (.slice Ao66 t553.length co66 : Value).ownBlock) (Kd.R_keptB (HO_552000.out) hkp (fun k_ hk_ hs_ => (hk_.1.2) hs_)) (fun k_ hk_ => ⟨hk_.1.1.1, hk_.1.1.2, hk_.1.2⟩)); have n3_ := Aside0.mk (blk_kept (bk BK533) hkp (fun hs_ => (fun e_ => (Kd.R_ne HO_547000.out BK533.out (by decide)) e_) hs_)); have n4_ := Aside0.mk (blk_kept (bk BK542) hkp (fun hs_ => (fun e_ => (Kd.R_ne HO_547000.out BK542.out (by decide)) e_) hs_)); have n5_ := Aside0.mk (blk_kept (bk BK546) hkp (fun hs_ => (fun e_ => (Kd.R_ne HO_547000.out BK546.out (by decide)) e_) hs_)); have n6_ := Aside0.mk (blk_kept (bk BK551) hkp (fun hs_ => (fun e_ => (Kd.R_ne HO_547000.out BK551.out (by decide)) e_) hs_)); have n7_ := Aside0.mk (Kd.R_mono (ok' := fun k_ => some k_ ≠ (.slice Ao23 t538.length co23 : Value).ownBlock ∧ some k_ ≠ (.slice Ao29 t543.length co29 : Value).ownBlock ∧ some k_ ≠ (.slice Ao35 t547.length co35 : Value).ownBlock) (Kd.R_keptB (HO555.out) hkp (fun k_ hk_ hs_ => (hk_.1.2) hs_)) (fun k_ hk_ => ⟨hk_.1.1.1.2, hk_.1.1.2, hk_.1.2⟩)); have n8_ := Aside0.mk (hb); clear HO_543000; clear HO_547000; clear HO_552000; clear BK533; clear BK542; clear BK546; clear BK551; clear HO555; clear HB; have HO_543000 := n0_; have HO_547000 := n1_; have HO_552000 := n2_; have BK533 := n3_; have BK542 := n4_; have BK546 := n5_; have BK551 := n6_; have HO555 := n7_; have HB := n8_; clear n0_ n1_ n2_ n3_ n4_ n5_ n6_ n7_ n8_; (try clear hb); (try clear hkp); (try clear hy0)))
              (try simp only [Act.put, List.setIfInBounds_toArray, List.set_cons_zero, List.set_cons_succ])
              go_cut [68] (fun v68 wc => ∃ (kq : Nat) (x68_62 : Bool), v68 = .bool x68_62 ∧ Aside0 (laws_FnExactRwrLine.j1 kq a1 t541 x68_62 l0_0 t538 t547 = some r) ∧ Aside0 (kq ≤ kj13) ∧ Aside0 (Kd.R k34 34 wc w.heap.size (fun k_ => some k_ ≠ ((.slice Ao29 t543.length co29) : Value).ownBlock ∧ some k_ ≠ ((.slice Ao35 t547.length co35) : Value).ownBlock) (.slice Ao23 t538.length co23) t538) ∧ Aside0 (Kd.R k34 34 wc w.heap.size (fun k_ => some k_ ≠ ((.slice Ao23 t538.length co23) : Value).ownBlock ∧ some k_ ≠ ((.slice Ao35 t547.length co35) : Value).ownBlock) (.slice Ao29 t543.length co29) t558) ∧ Aside0 (Kd.R k34 34 wc w.heap.size (fun k_ => some k_ ≠ ((.slice Ao23 t538.length co23) : Value).ownBlock ∧ some k_ ≠ ((.slice Ao29 t543.length co29) : Value).ownBlock) (.slice Ao35 t547.length co35) t547) ∧ Aside0 (wc.heap[gb533]? = some (.cells #[(.slice A0_0 l0_0.length c0_0)] 42 (0, 0))) ∧ Aside0 (wc.heap[gb542]? = some (.cells #[(.slice Ao23 t538.length co23)] 25 (0, 0))) ∧ Aside0 (wc.heap[gb546]? = some (.cells #[(.slice Ao29 t543.length co29)] 25 (0, 0))) ∧ Aside0 (wc.heap[gb551]? = some (.cells #[(.slice Ao35 t547.length co35)] 25 (0, 0))) ∧ Aside0 (Below w.heap.size w wc))
              case first =>
                have H := HC63.out
                clear HC63
                by_cases c73 : t557 < 0
                · rw [if_pos c73] at H
                  have c73b0 : decide (t557 < 0) = true := decide_eq_true c73
                  clear c73
                  (first | rw [c73b0] | (simp only [i64_w, i32_w]; rw [c73b0]) | skip)
                  have H' := Aside0.mk H
                  clear H
                  go_wp2
                  go_meet
                  case rel => exact ⟨_, (true), (by first | rfl | (simp; done) | (simp [*]; done)), H', ⟨by have := HJ13.out; first | omega | exact Nat.le_refl _⟩, ⟨by (with_reducible repeat apply ru); exact Kd.R_mono HO_543000.out (fun _ hk => ⟨hk.1, hk.2.1⟩)⟩, ⟨by (with_reducible repeat apply ru); exact Kd.R_mono HO_547000.out (fun _ hk => ⟨hk.1.1, hk.1.2⟩)⟩, ⟨by (with_reducible repeat apply ru); exact Kd.R_mono HO_552000.out (fun _ hk => ⟨hk.1, hk.2.1⟩)⟩, ⟨by (with_reducible repeat refine bu ?_); exact BK533.out⟩, ⟨by (with_reducible repeat refine bu ?_); exact BK542.out⟩, ⟨by (with_reducible repeat refine bu ?_); exact BK546.out⟩, ⟨by (with_reducible repeat refine bu ?_); exact BK551.out⟩, ⟨by repeat (first | (with_reducible first | exact HB.out | apply below_alloc | apply pw_below_drewN | apply below_drew1 | refine below_set ?_ GE533.out | refine below_set ?_ GE542.out | refine below_set ?_ GE546.out | refine below_set ?_ GE551.out) | exact HB.out)⟩⟩
                · rw [if_neg c73] at H
                  have c73b0 : decide (t557 < 0) = false := decide_eq_false c73
                  clear c73
                  (first | rw [c73b0] | (simp only [i64_w, i32_w]; rw [c73b0]) | skip)
                  replace H := Option.bind_eq_some_iff.mp H
                  obtain ⟨t559, A740, H⟩ := H
                  replace H : (if t559 = true then (laws_FnExactRwrLine.j1 kj13 a1 t541 (t550.toList != t541.toList) l0_0 t538 t547) else (laws_FnExactRwrLine.j1 kj13 a1 t541 true l0_0 t538 t547)) = some r := H
                  have A74 := Aside0.mk A740
                  clear A740
                  by_cases c75 : t559 = true
                  · subst c75
                    have H1 : (laws_FnExactRwrLine.j1 kj13 a1 t541 (t550.toList != t541.toList) l0_0 t538 t547) = some r := by rw [if_pos rfl] at H; exact H
                    clear H
                    have H := H1
                    clear H1
                    have H' := Aside0.mk H
                    clear H
                    have hnb76 := NB551_533.out
                    have hnc76 := NB533_551.out
                    have hnb77 := NB551_542.out
                    have hnc77 := NB542_551.out
                    have hnb78 := NB551_546.out
                    have hnc78 := NB546_551.out
                    have hcz79_0 : w72.cell? ⟨gb551, 0, none⟩ = some (.slice Ao35 t547.length co35) := (blk_cell BK551.out 0).trans rfl
                    have hfz79_0 := blk_frozen BK551.out 0
                    have hnb80 := NB542_533.out
                    have hnc80 := NB533_542.out
                    have hnb81 := NB542_546.out
                    have hnc81 := NB546_542.out
                    have hcz82_0 : w72.cell? ⟨gb542, 0, none⟩ = some (.slice Ao23 t538.length co23) := (blk_cell BK542.out 0).trans rfl
                    have hfz82_0 := blk_frozen BK542.out 0
                    go_wp2_with (first | (go_at_call 27; (with_reducible refine (laws_eqMapTab.calls kj13 _ _ t547 _ _ t538 true _ ?side1 ?side2 ?side3 ?side4 A74.out).mono ?_); (case side1 => repeat (first | exact (Kd.R_reads' HO_552000.out).2.2 | (with_reducible refine Kd.C_alloc ?_ _) | (with_reducible refine Kd.C_drewN ?_ _) | (with_reducible refine Kd.C_drew ?_))); (case side2 => exact (Kd.R_reads' HO_552000.out).2.1); (case side3 => repeat (first | exact (Kd.R_reads' HO_543000.out).2.2 | (with_reducible refine Kd.C_alloc ?_ _) | (with_reducible refine Kd.C_drewN ?_ _) | (with_reducible refine Kd.C_drew ?_))); (case side4 => exact (Kd.R_reads' HO_543000.out).2.1); rintro e w83 ⟨rfl, hb⟩; have n0_ := Aside0.mk (Kd.R_below (rs HO_543000) hb); have n1_ := Aside0.mk (Kd.R_below (rs HO_547000) hb); have n2_ := Aside0.mk (Kd.R_below (rs HO_552000) hb); have n3_ := Aside0.mk (Kd.R_below (rs HO555) hb); have n4_ := bkB BK533 hb; have n5_ := bkB BK542 hb; have n6_ := bkB BK546 hb; have n7_ := bkB BK551 hb; have n8_ := Aside0.mk (below_step (bl HB) hb); clear HO_543000; clear HO_547000; clear HO_552000; clear HO555; clear BK533; clear BK542; clear BK546; clear BK551; clear HB; have HO_543000 := n0_; have HO_547000 := n1_; have HO_552000 := n2_; have HO555 := n3_; have BK533 := n4_; have BK542 := n5_; have BK546 := n6_; have BK551 := n7_; have HB := n8_; clear n0_ n1_ n2_ n3_ n4_ n5_ n6_ n7_ n8_; (try clear hb); (try clear hb2); (try clear hk); (try clear hi)))
                    go_meet
                    case rel => exact ⟨_, ((t550.toList != t541.toList)), (by first | rfl | (simp; done) | (simp [*]; done)), H', ⟨by have := HJ13.out; first | omega | exact Nat.le_refl _⟩, ⟨by (with_reducible repeat apply ru); exact Kd.R_mono HO_543000.out (fun _ hk => ⟨hk.1, hk.2.1⟩)⟩, ⟨by (with_reducible repeat apply ru); exact Kd.R_mono HO_547000.out (fun _ hk => ⟨hk.1.1, hk.1.2⟩)⟩, ⟨by (with_reducible repeat apply ru); exact Kd.R_mono HO_552000.out (fun _ hk => ⟨hk.1, hk.2.1⟩)⟩, ⟨by (with_reducible repeat refine bu ?_); exact BK533.out⟩, ⟨by (with_reducible repeat refine bu ?_); exact BK542.out⟩, ⟨by (with_reducible repeat refine bu ?_); exact BK546.out⟩, ⟨by (with_reducible repeat refine bu ?_); exact BK551.out⟩, ⟨by repeat (first | (with_reducible first | exact HB.out | apply below_alloc | apply pw_below_drewN | apply below_drew1 | refine below_set ?_ GE533.out | refine below_set ?_ GE542.out | refine below_set ?_ GE546.out | refine below_set ?_ GE551.out) | exact HB.out)⟩⟩
                  · replace c75 := Bool.eq_false_iff.mpr c75
                    subst c75
                    have H1 : (laws_FnExactRwrLine.j1 kj13 a1 t541 true l0_0 t538 t547) = some r := by rw [if_neg (show ¬ (false = true) by decide)] at H; exact H
                    clear H
                    have H := H1
                    clear H1
                    have H' := Aside0.mk H
                    clear H
                    have hnb84 := NB551_533.out
                    have hnc84 := NB533_551.out
                    have hnb85 := NB551_542.out
                    have hnc85 := NB542_551.out
                    have hnb86 := NB551_546.out
                    have hnc86 := NB546_551.out
                    have hcz87_0 : w72.cell? ⟨gb551, 0, none⟩ = some (.slice Ao35 t547.length co35) := (blk_cell BK551.out 0).trans rfl
                    have hfz87_0 := blk_frozen BK551.out 0
                    have hnb88 := NB542_533.out
                    have hnc88 := NB533_542.out
                    have hnb89 := NB542_546.out
                    have hnc89 := NB546_542.out
                    have hcz90_0 : w72.cell? ⟨gb542, 0, none⟩ = some (.slice Ao23 t538.length co23) := (blk_cell BK542.out 0).trans rfl
                    have hfz90_0 := blk_frozen BK542.out 0
                    go_wp2_with (first | (go_at_call 27; (with_reducible refine (laws_eqMapTab.calls kj13 _ _ t547 _ _ t538 false _ ?side1 ?side2 ?side3 ?side4 A74.out).mono ?_); (case side1 => repeat (first | exact (Kd.R_reads' HO_552000.out).2.2 | (with_reducible refine Kd.C_alloc ?_ _) | (with_reducible refine Kd.C_drewN ?_ _) | (with_reducible refine Kd.C_drew ?_))); (case side2 => exact (Kd.R_reads' HO_552000.out).2.1); (case side3 => repeat (first | exact (Kd.R_reads' HO_543000.out).2.2 | (with_reducible refine Kd.C_alloc ?_ _) | (with_reducible refine Kd.C_drewN ?_ _) | (with_reducible refine Kd.C_drew ?_))); (case side4 => exact (Kd.R_reads' HO_543000.out).2.1); rintro e w91 ⟨rfl, hb⟩; have n0_ := Aside0.mk (Kd.R_below (rs HO_543000) hb); have n1_ := Aside0.mk (Kd.R_below (rs HO_547000) hb); have n2_ := Aside0.mk (Kd.R_below (rs HO_552000) hb); have n3_ := Aside0.mk (Kd.R_below (rs HO555) hb); have n4_ := bkB BK533 hb; have n5_ := bkB BK542 hb; have n6_ := bkB BK546 hb; have n7_ := bkB BK551 hb; have n8_ := Aside0.mk (below_step (bl HB) hb); clear HO_543000; clear HO_547000; clear HO_552000; clear HO555; clear BK533; clear BK542; clear BK546; clear BK551; clear HB; have HO_543000 := n0_; have HO_547000 := n1_; have HO_552000 := n2_; have HO555 := n3_; have BK533 := n4_; have BK542 := n5_; have BK546 := n6_; have BK551 := n7_; have HB := n8_; clear n0_ n1_ n2_ n3_ n4_ n5_ n6_ n7_ n8_; (try clear hb); (try clear hb2); (try clear hk); (try clear hi)))
                    go_meet
                    case rel => exact ⟨_, (true), (by first | rfl | (simp; done) | (simp [*]; done)), H', ⟨by have := HJ13.out; first | omega | exact Nat.le_refl _⟩, ⟨by (with_reducible repeat apply ru); exact Kd.R_mono HO_543000.out (fun _ hk => ⟨hk.1, hk.2.1⟩)⟩, ⟨by (with_reducible repeat apply ru); exact Kd.R_mono HO_547000.out (fun _ hk => ⟨hk.1.1, hk.1.2⟩)⟩, ⟨by (with_reducible repeat apply ru); exact Kd.R_mono HO_552000.out (fun _ hk => ⟨hk.1, hk.2.1⟩)⟩, ⟨by (with_reducible repeat refine bu ?_); exact BK533.out⟩, ⟨by (with_reducible repeat refine bu ?_); exact BK542.out⟩, ⟨by (with_reducible repeat refine bu ?_); exact BK546.out⟩, ⟨by (with_reducible repeat refine bu ?_); exact BK551.out⟩, ⟨by repeat (first | (with_reducible first | exact HB.out | apply below_alloc | apply pw_below_drewN | apply below_drew1 | refine below_set ?_ GE533.out | refine below_set ?_ GE542.out | refine below_set ?_ GE546.out | refine below_set ?_ GE551.out) | exact HB.out)⟩⟩
              case rest =>
                clear HC63
                try clear c1
                try clear c2
                try clear p2
                try clear c3
                try clear c3b0
                try clear c3b1
                try clear c4
                try clear c5
                try clear c6
                try clear c6b0
                try clear c7
                try clear c8
                try clear c13
                try clear c14
                try clear c24
                try clear c25
                try clear c26
                try clear c27
                try clear c28
                try clear c30
                try clear c31
                try clear c36
                try clear c37
                try clear c38
                try clear c41
                try clear c42
                try clear c43
                try clear c44
                try clear c46
                try clear c47
                try clear c50
                try clear c51
                try clear c52
                try clear c54
                try clear c55
                try clear c58
                try clear c61
                try clear c68
                try clear c69
                try clear c70
                try clear c73
                try clear c73b0
                try clear c75
                try clear c76
                try clear c77
                try clear c78
                try clear c80
                try clear c81
                try clear c84
                try clear c85
                try clear c86
                try clear c88
                try clear c89
                try clear hcz16_0
                try clear hcz18_0
                try clear hcz25_0
                try clear hcz26_0
                try clear hcz32_0
                try clear hcz39_0
                try clear hcz45_0
                try clear hcz48_0
                try clear hcz53_0
                try clear hcz56_0
                try clear hcz71_0
                try clear hcz79_0
                try clear hcz82_0
                try clear hcz87_0
                try clear hcz8_0
                try clear hcz90_0
                try clear hfz16_0
                try clear hfz18_0
                try clear hfz25_0
                try clear hfz26_0
                try clear hfz32_0
                try clear hfz39_0
                try clear hfz45_0
                try clear hfz48_0
                try clear hfz53_0
                try clear hfz56_0
                try clear hfz71_0
                try clear hfz79_0
                try clear hfz82_0
                try clear hfz87_0
                try clear hfz8_0
                try clear hfz90_0
                try clear p2
                obtain ⟨kq, x68_62, rfl, HA, HJ62, HO_543000, HO_547000, HO_552000, BK533, BK542, BK546, BK551, HB⟩ := hcut
                have hl547000_62 := (Kd.R_reads' HO_547000.out).1
                rw [hl547000_62] at HO_547000
                (try simp only [hl547000_62])
                (try simp only [hl547000_62] at BK533)
                (try simp only [hl547000_62] at BK542)
                (try simp only [hl547000_62] at BK546)
                (try simp only [hl547000_62] at BK551)
                (try simp only [hl547000_62] at HO_543000)
                (try simp only [hl547000_62] at HO_552000)
                cases kq with
                | zero => exact absurd HA.out (by simp [laws_FnExactRwrLine.j1])
                | succ kj62 =>
                  have H := HA.out
                  clear HA
                  simp only [laws_FnExactRwrLine.j1] at H
                  by_cases c92 : x68_62 = true
                  · subst c92
                    have H1 : (some false) = some r := by rw [if_pos rfl] at H; exact H
                    clear H
                    have H := H1
                    clear H1
                    exact absurd ((Option.some.inj H).trans hrt.out) (by decide)
                  · replace c92 := Bool.eq_false_iff.mpr c92
                    subst c92
                    have H1 : ((laws_markMapTab.f kj62 t547 1).bind fun bt560 => ((laws_heldMapTab.f kj62 bt560.2 1).bind fun t562 => (if t562 < 0 then (some false) else (if t562 = bt560.1 then ((laws_toMapTab.f kj62 l0_0).bind fun t563 => ((impl_RwrLine.f kj62 t563 a1).bind fun bt566 => ((laws_eqMapTab.f kj62 bt566.1 t538).bind fun t571 => (if t571 = true then (laws_FnExactRwrLine.j2 kj62 bt560.1 (bt566.2.toList != t541.toList) bt560.2) else (laws_FnExactRwrLine.j2 kj62 bt560.1 true bt560.2))))) else (some false))))) = some r := by rw [if_neg (show ¬ (false = true) by decide)] at H; exact H
                    clear H
                    have H := H1
                    clear H1
                    replace H := Option.bind_eq_some_iff.mp H
                    obtain ⟨⟨t560, t561⟩, A930, H⟩ := H
                    replace H : ((laws_heldMapTab.f kj62 t561 1).bind fun t562 => (if t562 < 0 then (some false) else (if t562 = t560 then ((laws_toMapTab.f kj62 l0_0).bind fun t563 => ((impl_RwrLine.f kj62 t563 a1).bind fun bt566 => ((laws_eqMapTab.f kj62 bt566.1 t538).bind fun t571 => (if t571 = true then (laws_FnExactRwrLine.j2 kj62 t560 (bt566.2.toList != t541.toList) t561) else (laws_FnExactRwrLine.j2 kj62 t560 true t561))))) else (some false)))) = some r := H
                    have A93 := Aside0.mk A930
                    clear A930
                    replace H := Option.bind_eq_some_iff.mp H
                    obtain ⟨t562, A940, H⟩ := H
                    replace H : (if t562 < 0 then (some false) else (if t562 = t560 then ((laws_toMapTab.f kj62 l0_0).bind fun t563 => ((impl_RwrLine.f kj62 t563 a1).bind fun bt566 => ((laws_eqMapTab.f kj62 bt566.1 t538).bind fun t571 => (if t571 = true then (laws_FnExactRwrLine.j2 kj62 t560 (bt566.2.toList != t541.toList) t561) else (laws_FnExactRwrLine.j2 kj62 t560 true t561))))) else (some false))) = some r := H
                    have A94 := Aside0.mk A940
                    clear A940
                    by_cases c95 : t562 < 0
                    · rw [if_pos c95] at H
                      have c95b0 : decide (t562 < 0) = true := decide_eq_true c95
                      clear c95
                      exact absurd ((Option.some.inj H).trans hrt.out) (by decide)
                    · rw [if_neg c95] at H
                      have c95b0 : decide (t562 < 0) = false := decide_eq_false c95
                      clear c95
                      by_cases c96 : t562 = t560
                      · rw [if_pos c96] at H
                        have c96b0 : (t562 == t560) = true := beq_iff_eq.mpr c96
                        have c96b1 : (t562 != t560) = false := bne_eq_false_iff_eq.mpr c96
                        clear c96
                        replace H := Option.bind_eq_some_iff.mp H
                        obtain ⟨t563, A970, H⟩ := H
                        replace H : ((impl_RwrLine.f kj62 t563 a1).bind fun bt566 => ((laws_eqMapTab.f kj62 bt566.1 t538).bind fun t571 => (if t571 = true then (laws_FnExactRwrLine.j2 kj62 t560 (bt566.2.toList != t541.toList) t561) else (laws_FnExactRwrLine.j2 kj62 t560 true t561)))) = some r := H
                        have A97 := Aside0.mk A970
                        clear A970
                        replace H := Option.bind_eq_some_iff.mp H
                        obtain ⟨⟨t566, t569⟩, A980, H⟩ := H
                        replace H : ((laws_eqMapTab.f kj62 t566 t538).bind fun t571 => (if t571 = true then (laws_FnExactRwrLine.j2 kj62 t560 (t569.toList != t541.toList) t561) else (laws_FnExactRwrLine.j2 kj62 t560 true t561))) = some r := H
                        have A98 := Aside0.mk A980
                        clear A980
                        have HC99 := Aside0.mk H
                        clear H
                        have hnb100 := NB551_533.out
                        have hnc100 := NB533_551.out
                        have hnb101 := NB551_542.out
                        have hnc101 := NB542_551.out
                        have hnb102 := NB551_546.out
                        have hnc102 := NB546_551.out
                        have hcz103_0 : wc.cell? ⟨gb551, 0, none⟩ = some (.slice Ao35 t547.length co35) := (blk_cell BK551.out 0).trans rfl
                        have hfz103_0 := blk_frozen BK551.out 0
                        go_upto_region 27 with (first | ((with_reducible refine gate_callee (f := 28) rfl ?_); refine goesL_ (some 71) rfl rfl Tryz.func28 (by kernel_rfl) rfl #[.agg #[.slice Ao35 t547.length co35], .int .i64 1] rfl (by (try simp only [List.map_toArray, List.map_cons, List.map_nil]); first | done | rfl | (simp only [List.length_drop, List.length_take]; rfl)) ?_; (with_reducible refine (laws_markMapTab.calls kj62 (fun k_ => some k_ = (.slice Ao35 t547.length co35 : Value).ownBlock) (.slice Ao35 t547.length co35) t547 1 t560 t561 w _ ?side1 ?side2 A93.out).mono ?_); (case side1 => repeat (first | (with_reducible first | exact HB.out | apply below_alloc | apply pw_below_drewN | apply below_drew1 | refine below_set ?_ GE533.out | refine below_set ?_ GE542.out | refine below_set ?_ GE546.out | refine below_set ?_ GE551.out) | exact HB.out)); (case side2 => exact Kd.R_tight rfl HO_552000.out); rintro e w104 ⟨rfl, hy0, hb, hkp⟩; refine ⟨_, rfl, ?_⟩; have n0_ := Aside0.mk (Kd.R_mono (ok' := fun k_ => some k_ ≠ (.slice Ao29 t558.length co29 : Value).ownBlock ∧ some k_ ≠ (.slice Ao35 t547.length co35 : Value).ownBlock) (Kd.R_keptB (HO_543000.out) hkp (fun k_ hk_ hs_ => (hk_.2) hs_)) (fun k_ hk_ => ⟨hk_.1.1, hk_.1.2⟩)); have n1_ := Aside0.mk (Kd.R_mono (ok' := fun k_ => some k_ ≠ (.slice Ao23 t538.length co23 : Value).ownBlock ∧ some k_ ≠ (.slice Ao35 t547.length co35 : Value).ownBlock) (Kd.R_keptB (HO_547000.out) hkp (fun k_ hk_ hs_ => (hk_.2) hs_)) (fun k_ hk_ => ⟨hk_.1.1, hk_.1.2⟩)); have n2_ := Aside0.mk (Kd.R_reok rfl hy0 (fun k_ e_ => HO_552000.out.1 k_ e_)); have n3_ := Aside0.mk (blk_kept (bk BK533) hkp (fun hs_ => (fun e_ => (Kd.R_ne HO_552000.out BK533.out (by decide)) e_) hs_)); have n4_ := Aside0.mk (blk_kept (bk BK542) hkp (fun hs_ => (fun e_ => (Kd.R_ne HO_552000.out BK542.out (by decide)) e_) hs_)); have n5_ := Aside0.mk (blk_kept (bk BK546) hkp (fun hs_ => (fun e_ => (Kd.R_ne HO_552000.out BK546.out (by decide)) e_) hs_)); have n6_ := Aside0.mk (blk_kept (bk BK551) hkp (fun hs_ => (fun e_ => (Kd.R_ne HO_552000.out BK551.out (by decide)) e_) hs_)); have n7_ := Aside0.mk (hb); clear HO_543000; clear HO_547000; clear HO_552000; clear BK533; clear BK542; clear BK546; clear BK551; clear HB; have HO_543000 := n0_; have HO_547000 := n1_; have HO_552000 := n2_; have BK533 := n3_; have BK542 := n4_; have BK546 := n5_; have BK551 := n6_; have HB := n7_; clear n0_ n1_ n2_ n3_ n4_ n5_ n6_ n7_; (try clear hb); (try clear hkp); (try clear hy0); have hcz105_0 : w104.cell? ⟨gb551, 0, none⟩ = some (.slice Ao35 t547.length co35) := (blk_cell BK551.out 0).trans rfl; have hfz105_0 := blk_frozen BK551.out 0) | ((with_reducible refine gate_callee (f := 29) rfl ?_); refine goesL_ (some 74) rfl rfl Tryz.func29 (by kernel_rfl) rfl #[.agg #[.slice Ao35 t561.length co35], .int .i64 1] rfl (by (try simp only [List.map_toArray, List.map_cons, List.map_nil]); first | done | (rw [show t561.length = t547.length from (Kd.R_reads' HO_552000.out).1.symm] <;> rfl) | rfl | (simp only [List.length_drop, List.length_take]; rfl)) ?_; (with_reducible refine (laws_heldMapTab.calls kj62 _ _ t561 1 t562 _ ?side1 ?side2 A94.out).mono ?_); (case side1 => repeat (first | exact (Kd.R_reads' HO_552000.out).2.2 | (with_reducible refine Kd.C_alloc ?_ _) | (with_reducible refine Kd.C_drewN ?_ _) | (with_reducible refine Kd.C_drew ?_))); (case side2 => rw [show t561.length = t547.length from (Kd.R_reads' HO_552000.out).1.symm]; exact (Kd.R_reads' HO_552000.out).2.1); rintro e w106 ⟨rfl, hb⟩; refine ⟨_, rfl, ?_⟩; have n0_ := Aside0.mk (Kd.R_below (rs HO_543000) hb); have n1_ := Aside0.mk (Kd.R_below (rs HO_547000) hb); have n2_ := Aside0.mk (Kd.R_below (rs HO_552000) hb); have n3_ := bkB BK533 hb; have n4_ := bkB BK542 hb; have n5_ := bkB BK546 hb; have n6_ := bkB BK551 hb; have n7_ := Aside0.mk (below_step (bl HB) hb); clear HO_543000; clear HO_547000; clear HO_552000; clear BK533; clear BK542; clear BK546; clear BK551; clear HB; have HO_543000 := n0_; have HO_547000 := n1_; have HO_552000 := n2_; have BK533 := n3_; have BK542 := n4_; have BK546 := n5_; have BK551 := n6_; have HB := n7_; clear n0_ n1_ n2_ n3_ n4_ n5_ n6_ n7_; (try clear hb); (try clear hb2); (try clear hk); (try clear hi); have hnb107 := NB533_542.out; have hnc107 := NB542_533.out; have hnb108 := NB533_546.out; have hnc108 := NB546_533.out; have hcz109_0 : w106.cell? ⟨gb533, 0, none⟩ = some (.slice A0_0 l0_0.length c0_0) := (blk_cell BK533.out 0).trans rfl; have hfz109_0 := blk_frozen BK533.out 0) | ((with_reducible refine gate_callee (f := 26) rfl ?_); refine goesL_ (some 82) rfl rfl Tryz.func26 (by kernel_rfl) rfl #[.agg #[.slice A0_0 l0_0.length c0_0]] rfl (by (try simp only [List.map_toArray, List.map_cons, List.map_nil]); first | done | rfl | (simp only [List.length_drop, List.length_take]; rfl)) ?_; (with_reducible refine (laws_toMapTab.calls kj62 _ _ l0_0 t563 _ ?side1 ?side2 A97.out).mono ?_); (case side1 => repeat (first | exact (Kd.C_below HR0_0.out HB.out) | (with_reducible refine Kd.C_alloc ?_ _) | (with_reducible refine Kd.C_drewN ?_ _) | (with_reducible refine Kd.C_drew ?_))); (case side2 => exact HC0_0.out); rintro e w110 ⟨v564, rfl, ho0, hb⟩; refine ⟨_, rfl, ?_⟩; have n0_ := Aside0.mk (Kd.R_elder' (rs HO_543000) (Kd.R_base ho0) hb); have n1_ := Aside0.mk (Kd.R_elder' (rs HO_547000) (Kd.R_base ho0) hb); have n2_ := Aside0.mk (Kd.R_elder' (rs HO_552000) (Kd.R_base ho0) hb); have n3_ := Aside0.mk (Kd.R_lower (Kd.R_new' (Kd.R_new' (Kd.R_new' ho0 (Kd.R_lt (rs HO_543000))) (Kd.R_lt (rs HO_547000))) (Kd.R_lt (rs HO_552000))) (below_size (bl HB))); have n4_ := bkB BK533 hb; have n5_ := bkB BK542 hb; have n6_ := bkB BK546 hb; have n7_ := bkB BK551 hb; have n8_ := Aside0.mk (below_step (bl HB) hb); clear HO_543000; clear HO_547000; clear HO_552000; clear BK533; clear BK542; clear BK546; clear BK551; clear HB; have HO_543000 := n0_; have HO_547000 := n1_; have HO_552000 := n2_; have HO565 := n3_; have BK533 := n4_; have BK542 := n5_; have BK546 := n6_; have BK551 := n7_; have HB := n8_; clear n0_ n1_ n2_ n3_ n4_ n5_ n6_ n7_ n8_; (try clear hb); (try clear hb2); (try clear hk); (try clear hi); (try clear ho0); obtain ⟨Ao111, co111, eo111⟩ := Kd.R_slice HO565.out; subst eo111) | ((with_reducible refine gate_callee (f := 13) rfl ?_); refine goesL_ (some 84) rfl rfl Tryz.func13 (by kernel_rfl) rfl #[.agg #[.slice Ao111 t563.length co111], .string a1] rfl (by (try simp only [List.map_toArray, List.map_cons, List.map_nil]); first | done | rfl | (simp only [List.length_drop, List.length_take]; rfl)) ?_; (with_reducible refine (impl_RwrLine.calls kj62 _ _ t563 a1 t566 t569 _ ?side1 ?side2 A98.out (EnvE.below hE (bl HB))).mono ?_); (case side1 => repeat (first | exact (Kd.R_reads' HO565.out).2.2 | (with_reducible refine Kd.C_alloc ?_ _) | (with_reducible refine Kd.C_drewN ?_ _) | (with_reducible refine Kd.C_drew ?_))); (case side2 => exact (Kd.R_reads' HO565.out).2.1); rintro e w112 ⟨v567, rfl, ho0, hb⟩; refine ⟨_, rfl, ?_⟩; have n0_ := Aside0.mk (Kd.R_elder' (rs HO_543000) (Kd.R_base ho0) hb); have n1_ := Aside0.mk (Kd.R_elder' (rs HO_547000) (Kd.R_base ho0) hb); have n2_ := Aside0.mk (Kd.R_elder' (rs HO_552000) (Kd.R_base ho0) hb); have n3_ := Aside0.mk (Kd.R_elder' (rs HO565) (Kd.R_base ho0) hb); have n4_ := Aside0.mk (Kd.R_lower (Kd.R_new' (Kd.R_new' (Kd.R_new' (Kd.R_new' ho0 (Kd.R_lt (rs HO_543000))) (Kd.R_lt (rs HO_547000))) (Kd.R_lt (rs HO_552000))) (Kd.R_lt (rs HO565))) (below_size (bl HB))); have n5_ := bkB BK533 hb; have n6_ := bkB BK542 hb; have n7_ := bkB BK546 hb; have n8_ := bkB BK551 hb; have n9_ := Aside0.mk (below_step (bl HB) hb); clear HO_543000; clear HO_547000; clear HO_552000; clear HO565; clear BK533; clear BK542; clear BK546; clear BK551; clear HB; have HO_543000 := n0_; have HO_547000 := n1_; have HO_552000 := n2_; have HO565 := n3_; have HO568 := n4_; have BK533 := n5_; have BK542 := n6_; have BK546 := n7_; have BK551 := n8_; have HB := n9_; clear n0_ n1_ n2_ n3_ n4_ n5_ n6_ n7_ n8_ n9_; (try clear hb); (try clear hb2); (try clear hk); (try clear hi); (try clear ho0)) | ((with_reducible refine gate_dst (N := 14) rfl ?_); refine box_event ?hg (N := 14) ?hd (cs := #[.slice none 0 0]) (t := 25) ?hr ?_; (case hd => rfl); (case hg => rfl); (case hr => first | (go_simp; done) | (go_simp; rfl)); intro gb570 hg w113 hbox hb; have n0_ := Aside0.mk (Kd.R_below (rs HO_543000) hb); have n1_ := Aside0.mk (Kd.R_below (rs HO_547000) hb); have n2_ := Aside0.mk (Kd.R_below (rs HO_552000) hb); have n3_ := Aside0.mk (Kd.R_below (rs HO565) hb); have n4_ := Aside0.mk (Kd.R_below (rs HO568) hb); have n5_ := bkB BK533 hb; have n6_ := bkB BK542 hb; have n7_ := bkB BK546 hb; have n8_ := bkB BK551 hb; have n9_ := Aside0.mk (below_step (bl HB) hb); have n10_ := Aside0.mk (hbox); have n11_ := Aside0.mk ((by rw [hg]; exact (below_size (bl HB)) : w.heap.size ≤ gb570)); have n12_ := Aside0.mk ((by rw [hg]; exact (below_size (bl HB)) : w.heap.size ≤ gb570)); have n13_ := Aside0.mk ((by rw [hg]; exact Nat.ne_of_lt (bkL BK533) : gb533 ≠ gb570)); have n14_ := Aside0.mk ((by rw [hg]; exact Nat.ne_of_gt (bkL BK533) : gb570 ≠ gb533)); have n15_ := Aside0.mk ((by rw [hg]; exact Nat.ne_of_lt (bkL BK542) : gb542 ≠ gb570)); have n16_ := Aside0.mk ((by rw [hg]; exact Nat.ne_of_gt (bkL BK542) : gb570 ≠ gb542)); have n17_ := Aside0.mk ((by rw [hg]; exact Nat.ne_of_lt (bkL BK546) : gb546 ≠ gb570)); have n18_ := Aside0.mk ((by rw [hg]; exact Nat.ne_of_gt (bkL BK546) : gb570 ≠ gb546)); have n19_ := Aside0.mk ((by rw [hg]; exact Nat.ne_of_lt (bkL BK551) : gb551 ≠ gb570)); have n20_ := Aside0.mk ((by rw [hg]; exact Nat.ne_of_gt (bkL BK551) : gb570 ≠ gb551)); clear HO_543000; clear HO_547000; clear HO_552000; clear HO565; clear HO568; clear BK533; clear BK542; clear BK546; clear BK551; clear HB; have HO_543000 := n0_; have HO_547000 := n1_; have HO_552000 := n2_; have HO565 := n3_; have HO568 := n4_; have BK533 := n5_; have BK542 := n6_; have BK546 := n7_; have BK551 := n8_; have HB := n9_; have BK570 := n10_; have GW570 := n11_; have GE570 := n12_; have NB533_570 := n13_; have NB570_533 := n14_; have NB542_570 := n15_; have NB570_542 := n16_; have NB546_570 := n17_; have NB570_546 := n18_; have NB551_570 := n19_; have NB570_551 := n20_; clear n0_ n1_ n2_ n3_ n4_ n5_ n6_ n7_ n8_ n9_ n10_ n11_ n12_ n13_ n14_ n15_ n16_ n17_ n18_ n19_ n20_; clear hb hbox hg; obtain ⟨Ao114, co114, eo114⟩ := Kd.R_slice HO568.out; subst eo114; have hnb115 := NB570_533.out; have hnc115 := NB533_570.out; have hnb116 := NB570_542.out; have hnc116 := NB542_570.out; have hnb117 := NB570_546.out; have hnc117 := NB546_570.out; have hnb118 := NB570_551.out; have hnc118 := NB551_570.out; have hcz119_0 : w113.cell? ⟨gb570, 0, none⟩ = some (.slice none 0 0) := (blk_cell BK570.out 0).trans rfl; have hfz119_0 := blk_frozen BK570.out 0))
                        (try simp only [Act.put, List.setIfInBounds_toArray, List.set_cons_zero, List.set_cons_succ])
                        go_cut [95] (fun v95 wc => ∃ (kq : Nat) (x95_98 : Bool), v95 = .bool x95_98 ∧ Aside0 (laws_FnExactRwrLine.j2 kq t560 x95_98 t561 = some r) ∧ Aside0 (kq ≤ kj62) ∧ Aside0 (Kd.R k34 34 wc w.heap.size (fun k_ => some k_ ≠ ((.slice Ao29 t558.length co29) : Value).ownBlock ∧ some k_ ≠ ((.slice Ao35 t547.length co35) : Value).ownBlock ∧ some k_ ≠ ((.slice Ao114 t566.length co114) : Value).ownBlock) (.slice Ao23 t538.length co23) t538) ∧ Aside0 (Kd.R k34 34 wc w.heap.size (fun k_ => some k_ ≠ ((.slice Ao23 t538.length co23) : Value).ownBlock ∧ some k_ ≠ ((.slice Ao35 t547.length co35) : Value).ownBlock ∧ some k_ ≠ ((.slice Ao114 t566.length co114) : Value).ownBlock) (.slice Ao29 t558.length co29) t558) ∧ Aside0 (Kd.R k34 34 wc w.heap.size (fun k_ => some k_ ≠ ((.slice Ao23 t538.length co23) : Value).ownBlock ∧ some k_ ≠ ((.slice Ao29 t558.length co29) : Value).ownBlock ∧ some k_ ≠ ((.slice Ao114 t566.length co114) : Value).ownBlock) (.slice Ao35 t547.length co35) t561) ∧ Aside0 (Kd.R k34 34 wc w.heap.size (fun k_ => some k_ ≠ ((.slice Ao23 t538.length co23) : Value).ownBlock ∧ some k_ ≠ ((.slice Ao29 t558.length co29) : Value).ownBlock ∧ some k_ ≠ ((.slice Ao35 t547.length co35) : Value).ownBlock) (.slice Ao114 t566.length co114) t566) ∧ Aside0 (wc.heap[gb533]? = some (.cells #[(.slice A0_0 l0_0.length c0_0)] 42 (0, 0))) ∧ Aside0 (wc.heap[gb542]? = some (.cells #[(.slice Ao23 t538.length co23)] 25 (0, 0))) ∧ Aside0 (wc.heap[gb546]? = some (.cells #[(.slice Ao29 t558.length co29)] 25 (0, 0))) ∧ Aside0 (wc.heap[gb551]? = some (.cells #[(.slice Ao35 t547.length co35)] 25 (0, 0))) ∧ Aside0 (wc.heap[gb570]? = some (.cells #[(.slice Ao114 t566.length co114)] 25 (0, 0))) ∧ Aside0 (Below w.heap.size w wc))
                        case first =>
                          have H := HC99.out
                          clear HC99
                          replace H := Option.bind_eq_some_iff.mp H
                          obtain ⟨t571, A1200, H⟩ := H
                          replace H : (if t571 = true then (laws_FnExactRwrLine.j2 kj62 t560 (t569.toList != t541.toList) t561) else (laws_FnExactRwrLine.j2 kj62 t560 true t561)) = some r := H
                          have A120 := Aside0.mk A1200
                          clear A1200
                          by_cases c121 : t571 = true
                          · subst c121
                            have H1 : (laws_FnExactRwrLine.j2 kj62 t560 (t569.toList != t541.toList) t561) = some r := by rw [if_pos rfl] at H; exact H
                            clear H
                            have H := H1
                            clear H1
                            have H' := Aside0.mk H
                            clear H
                            have hnb122 := NB570_533.out
                            have hnc122 := NB533_570.out
                            have hnb123 := NB570_542.out
                            have hnc123 := NB542_570.out
                            have hnb124 := NB570_546.out
                            have hnc124 := NB546_570.out
                            have hnb125 := NB570_551.out
                            have hnc125 := NB551_570.out
                            have hcz126_0 : w113.cell? ⟨gb570, 0, none⟩ = some (.slice none 0 0) := (blk_cell BK570.out 0).trans rfl
                            have hfz126_0 := blk_frozen BK570.out 0
                            have hnb127 := NB542_533.out
                            have hnc127 := NB533_542.out
                            have hnb128 := NB542_546.out
                            have hnc128 := NB546_542.out
                            have hnb129 := NB542_551.out
                            have hnc129 := NB551_542.out
                            have hcz130_0 : w113.cell? ⟨gb542, 0, none⟩ = some (.slice Ao23 t538.length co23) := (blk_cell BK542.out 0).trans rfl
                            have hfz130_0 := blk_frozen BK542.out 0
                            go_wp2_with (first | ((with_reducible refine gate_callee (f := 27) rfl ?_); refine goesL_ (some 89) rfl rfl Tryz.func27 (by kernel_rfl) rfl #[.agg #[.slice Ao114 t566.length co114], .agg #[.slice Ao23 t538.length co23]] rfl (by (try simp only [List.map_toArray, List.map_cons, List.map_nil]); first | done | rfl | (simp only [List.length_drop, List.length_take]; rfl)) ?_; (with_reducible refine (laws_eqMapTab.calls kj62 _ _ t566 _ _ t538 true _ ?side1 ?side2 ?side3 ?side4 A120.out).mono ?_); (case side1 => refine (Kd.R_reads' (e := 34) (base := w.heap.size) (ok := fun k_ => ((((True ∧ some k_ ≠ (.slice Ao23 t538.length co23 : Value).ownBlock) ∧ some k_ ≠ (.slice Ao29 t558.length co29 : Value).ownBlock) ∧ some k_ ≠ (.slice Ao35 t547.length co35 : Value).ownBlock) ∧ some k_ ≠ (.slice Ao111 t563.length co111 : Value).ownBlock)) (n := t566.length) (c := co114) ?_).2.2; exact (by (with_reducible repeat apply ru); exact (Kd.R_mono (Kd.R_far (p := ⟨gb570, 0, none⟩) (Kd.R_types HO568.out BK570.out (by decide)) (fun _ hk => hk.2) (.slice Ao114 t566.length co114)) (fun _ h_ => h_.1)))); (case side2 => exact (Kd.R_reads' HO568.out).2.1); (case side3 => refine (Kd.R_reads' (e := 34) (base := w.heap.size) (ok := fun k_ => (((some k_ ≠ (.slice Ao29 t558.length co29 : Value).ownBlock ∧ some k_ ≠ (.slice Ao35 t547.length co35 : Value).ownBlock) ∧ some k_ ≠ (.slice Ao111 t563.length co111 : Value).ownBlock) ∧ some k_ ≠ (.slice Ao114 t566.length co114 : Value).ownBlock)) (n := t538.length) (c := co23) ?_).2.2; exact (by (with_reducible repeat apply ru); exact (Kd.R_mono (Kd.R_far (p := ⟨gb570, 0, none⟩) (Kd.R_types HO_543000.out BK570.out (by decide)) (fun _ hk => hk.2) (.slice Ao114 t566.length co114)) (fun _ h_ => h_.1)))); (case side4 => exact (Kd.R_reads' HO_543000.out).2.1); rintro e w131 ⟨rfl, hb⟩; refine ⟨_, rfl, ?_⟩; have n0_ := Aside0.mk (Kd.R_below (by (with_reducible repeat apply ru); exact (Kd.R_mono (Kd.R_far (p := ⟨gb570, 0, none⟩) (Kd.R_types HO_543000.out BK570.out (by decide)) (fun _ hk => hk.2) (.slice Ao114 t566.length co114)) (fun _ h_ => h_.1))) hb); have n1_ := Aside0.mk (Kd.R_below (by (with_reducible repeat apply ru); exact (Kd.R_mono (Kd.R_far (p := ⟨gb570, 0, none⟩) (Kd.R_types HO_547000.out BK570.out (by decide)) (fun _ hk => hk.2) (.slice Ao114 t566.length co114)) (fun _ h_ => h_.1))) hb); have n2_ := Aside0.mk (Kd.R_below (by (with_reducible repeat apply ru); exact (Kd.R_mono (Kd.R_far (p := ⟨gb570, 0, none⟩) (Kd.R_types HO_552000.out BK570.out (by decide)) (fun _ hk => hk.2) (.slice Ao114 t566.length co114)) (fun _ h_ => h_.1))) hb); have n3_ := Aside0.mk (Kd.R_below (by (with_reducible repeat apply ru); exact (Kd.R_mono (Kd.R_far (p := ⟨gb570, 0, none⟩) (Kd.R_types HO565.out BK570.out (by decide)) (fun _ hk => hk.2) (.slice Ao114 t566.length co114)) (fun _ h_ => h_.1))) hb); have n4_ := Aside0.mk (Kd.R_below (by (with_reducible repeat apply ru); exact (Kd.R_mono (Kd.R_far (p := ⟨gb570, 0, none⟩) (Kd.R_types HO568.out BK570.out (by decide)) (fun _ hk => hk.2) (.slice Ao114 t566.length co114)) (fun _ h_ => h_.1))) hb); have n5_ := Aside0.mk (blk_below (g := gb533) (o := .cells #[.slice A0_0 l0_0.length c0_0] 42 (0, 0)) (by (with_reducible repeat refine bu ?_); refine blk_far ?_ NB533_570.out _; (with_reducible repeat refine bu ?_); exact BK533.out) hb); have n6_ := Aside0.mk (blk_below (g := gb542) (o := .cells #[.slice Ao23 t538.length co23] 25 (0, 0)) (by (with_reducible repeat refine bu ?_); refine blk_far ?_ NB542_570.out _; (with_reducible repeat refine bu ?_); exact BK542.out) hb); have n7_ := Aside0.mk (blk_below (g := gb546) (o := .cells #[.slice Ao29 t558.length co29] 25 (0, 0)) (by (with_reducible repeat refine bu ?_); refine blk_far ?_ NB546_570.out _; (with_reducible repeat refine bu ?_); exact BK546.out) hb); have n8_ := Aside0.mk (blk_below (g := gb551) (o := .cells #[.slice Ao35 t547.length co35] 25 (0, 0)) (by (with_reducible repeat refine bu ?_); refine blk_far ?_ NB551_570.out _; (with_reducible repeat refine bu ?_); exact BK551.out) hb); have n9_ := Aside0.mk (blk_below (g := gb570) (o := .cells #[.slice Ao114 t566.length co114] 25 (0, 0)) (by (with_reducible repeat refine bu ?_); refine blk_put (cs := #[.slice none 0 0]) ?_ 0 _ rfl; (with_reducible repeat refine bu ?_); exact BK570.out) hb); have n10_ := Aside0.mk (below_step (bl HB) hb); clear HO_543000; clear HO_547000; clear HO_552000; clear HO565; clear HO568; clear BK533; clear BK542; clear BK546; clear BK551; clear BK570; clear HB; have HO_543000 := n0_; have HO_547000 := n1_; have HO_552000 := n2_; have HO565 := n3_; have HO568 := n4_; have BK533 := n5_; have BK542 := n6_; have BK546 := n7_; have BK551 := n8_; have BK570 := n9_; have HB := n10_; clear n0_ n1_ n2_ n3_ n4_ n5_ n6_ n7_ n8_ n9_ n10_; (try clear hb); (try clear hb2); (try clear hk); (try clear hi)))
                            go_meet
                            case rel => exact ⟨_, ((t569.toList != t541.toList)), (by first | rfl | (simp; done) | (simp [*]; done)), H', ⟨by have := HJ13.out; have := HJ62.out; first | omega | exact Nat.le_refl _⟩, ⟨by (try simp only [hl547000_62]); (with_reducible repeat apply ru); exact Kd.R_mono HO_543000.out (fun _ hk => ⟨hk.1.1.1, ⟨hk.1.1.2, hk.2⟩⟩)⟩, ⟨by (try simp only [hl547000_62]); (with_reducible repeat apply ru); exact Kd.R_mono HO_547000.out (fun _ hk => ⟨hk.1.1.1, ⟨hk.1.1.2, hk.2⟩⟩)⟩, ⟨by (try simp only [hl547000_62]); (with_reducible repeat apply ru); exact Kd.R_mono HO_552000.out (fun _ hk => ⟨hk.1.1.1, ⟨hk.1.1.2, hk.2⟩⟩)⟩, ⟨by (try simp only [hl547000_62]); (with_reducible repeat apply ru); exact Kd.R_mono HO568.out (fun _ hk => ⟨hk.1.1.1.2, ⟨hk.1.1.2, hk.1.2⟩⟩)⟩, ⟨by (try simp only [hl547000_62]); (with_reducible repeat refine bu ?_); exact BK533.out⟩, ⟨by (try simp only [hl547000_62]); (with_reducible repeat refine bu ?_); exact BK542.out⟩, ⟨by (try simp only [hl547000_62]); (with_reducible repeat refine bu ?_); exact BK546.out⟩, ⟨by (try simp only [hl547000_62]); (with_reducible repeat refine bu ?_); exact BK551.out⟩, ⟨by (try simp only [hl547000_62]); (with_reducible repeat refine bu ?_); exact BK570.out⟩, ⟨by repeat (first | (with_reducible first | exact HB.out | apply below_alloc | apply pw_below_drewN | apply below_drew1 | refine below_set ?_ GE533.out | refine below_set ?_ GE542.out | refine below_set ?_ GE546.out | refine below_set ?_ GE551.out | refine below_set ?_ GE570.out) | exact HB.out)⟩⟩
                          · replace c121 := Bool.eq_false_iff.mpr c121
                            subst c121
                            have H1 : (laws_FnExactRwrLine.j2 kj62 t560 true t561) = some r := by rw [if_neg (show ¬ (false = true) by decide)] at H; exact H
                            clear H
                            have H := H1
                            clear H1
                            have H' := Aside0.mk H
                            clear H
                            have hnb132 := NB570_533.out
                            have hnc132 := NB533_570.out
                            have hnb133 := NB570_542.out
                            have hnc133 := NB542_570.out
                            have hnb134 := NB570_546.out
                            have hnc134 := NB546_570.out
                            have hnb135 := NB570_551.out
                            have hnc135 := NB551_570.out
                            have hcz136_0 : w113.cell? ⟨gb570, 0, none⟩ = some (.slice none 0 0) := (blk_cell BK570.out 0).trans rfl
                            have hfz136_0 := blk_frozen BK570.out 0
                            have hnb137 := NB542_533.out
                            have hnc137 := NB533_542.out
                            have hnb138 := NB542_546.out
                            have hnc138 := NB546_542.out
                            have hnb139 := NB542_551.out
                            have hnc139 := NB551_542.out
                            have hcz140_0 : w113.cell? ⟨gb542, 0, none⟩ = some (.slice Ao23 t538.length co23) := (blk_cell BK542.out 0).trans rfl
                            have hfz140_0 := blk_frozen BK542.out 0
                            go_wp2_with (first | ((with_reducible refine gate_callee (f := 27) rfl ?_); refine goesL_ (some 89) rfl rfl Tryz.func27 (by kernel_rfl) rfl #[.agg #[.slice Ao114 t566.length co114], .agg #[.slice Ao23 t538.length co23]] rfl (by (try simp only [List.map_toArray, List.map_cons, List.map_nil]); first | done | rfl | (simp only [List.length_drop, List.length_take]; rfl)) ?_; (with_reducible refine (laws_eqMapTab.calls kj62 _ _ t566 _ _ t538 false _ ?side1 ?side2 ?side3 ?side4 A120.out).mono ?_); (case side1 => refine (Kd.R_reads' (e := 34) (base := w.heap.size) (ok := fun k_ => ((((True ∧ some k_ ≠ (.slice Ao23 t538.length co23 : Value).ownBlock) ∧ some k_ ≠ (.slice Ao29 t558.length co29 : Value).ownBlock) ∧ some k_ ≠ (.slice Ao35 t547.length co35 : Value).ownBlock) ∧ some k_ ≠ (.slice Ao111 t563.length co111 : Value).ownBlock)) (n := t566.length) (c := co114) ?_).2.2; exact (by (with_reducible repeat apply ru); exact (Kd.R_mono (Kd.R_far (p := ⟨gb570, 0, none⟩) (Kd.R_types HO568.out BK570.out (by decide)) (fun _ hk => hk.2) (.slice Ao114 t566.length co114)) (fun _ h_ => h_.1)))); (case side2 => exact (Kd.R_reads' HO568.out).2.1); (case side3 => refine (Kd.R_reads' (e := 34) (base := w.heap.size) (ok := fun k_ => (((some k_ ≠ (.slice Ao29 t558.length co29 : Value).ownBlock ∧ some k_ ≠ (.slice Ao35 t547.length co35 : Value).ownBlock) ∧ some k_ ≠ (.slice Ao111 t563.length co111 : Value).ownBlock) ∧ some k_ ≠ (.slice Ao114 t566.length co114 : Value).ownBlock)) (n := t538.length) (c := co23) ?_).2.2; exact (by (with_reducible repeat apply ru); exact (Kd.R_mono (Kd.R_far (p := ⟨gb570, 0, none⟩) (Kd.R_types HO_543000.out BK570.out (by decide)) (fun _ hk => hk.2) (.slice Ao114 t566.length co114)) (fun _ h_ => h_.1)))); (case side4 => exact (Kd.R_reads' HO_543000.out).2.1); rintro e w141 ⟨rfl, hb⟩; refine ⟨_, rfl, ?_⟩; have n0_ := Aside0.mk (Kd.R_below (by (with_reducible repeat apply ru); exact (Kd.R_mono (Kd.R_far (p := ⟨gb570, 0, none⟩) (Kd.R_types HO_543000.out BK570.out (by decide)) (fun _ hk => hk.2) (.slice Ao114 t566.length co114)) (fun _ h_ => h_.1))) hb); have n1_ := Aside0.mk (Kd.R_below (by (with_reducible repeat apply ru); exact (Kd.R_mono (Kd.R_far (p := ⟨gb570, 0, none⟩) (Kd.R_types HO_547000.out BK570.out (by decide)) (fun _ hk => hk.2) (.slice Ao114 t566.length co114)) (fun _ h_ => h_.1))) hb); have n2_ := Aside0.mk (Kd.R_below (by (with_reducible repeat apply ru); exact (Kd.R_mono (Kd.R_far (p := ⟨gb570, 0, none⟩) (Kd.R_types HO_552000.out BK570.out (by decide)) (fun _ hk => hk.2) (.slice Ao114 t566.length co114)) (fun _ h_ => h_.1))) hb); have n3_ := Aside0.mk (Kd.R_below (by (with_reducible repeat apply ru); exact (Kd.R_mono (Kd.R_far (p := ⟨gb570, 0, none⟩) (Kd.R_types HO565.out BK570.out (by decide)) (fun _ hk => hk.2) (.slice Ao114 t566.length co114)) (fun _ h_ => h_.1))) hb); have n4_ := Aside0.mk (Kd.R_below (by (with_reducible repeat apply ru); exact (Kd.R_mono (Kd.R_far (p := ⟨gb570, 0, none⟩) (Kd.R_types HO568.out BK570.out (by decide)) (fun _ hk => hk.2) (.slice Ao114 t566.length co114)) (fun _ h_ => h_.1))) hb); have n5_ := Aside0.mk (blk_below (g := gb533) (o := .cells #[.slice A0_0 l0_0.length c0_0] 42 (0, 0)) (by (with_reducible repeat refine bu ?_); refine blk_far ?_ NB533_570.out _; (with_reducible repeat refine bu ?_); exact BK533.out) hb); have n6_ := Aside0.mk (blk_below (g := gb542) (o := .cells #[.slice Ao23 t538.length co23] 25 (0, 0)) (by (with_reducible repeat refine bu ?_); refine blk_far ?_ NB542_570.out _; (with_reducible repeat refine bu ?_); exact BK542.out) hb); have n7_ := Aside0.mk (blk_below (g := gb546) (o := .cells #[.slice Ao29 t558.length co29] 25 (0, 0)) (by (with_reducible repeat refine bu ?_); refine blk_far ?_ NB546_570.out _; (with_reducible repeat refine bu ?_); exact BK546.out) hb); have n8_ := Aside0.mk (blk_below (g := gb551) (o := .cells #[.slice Ao35 t547.length co35] 25 (0, 0)) (by (with_reducible repeat refine bu ?_); refine blk_far ?_ NB551_570.out _; (with_reducible repeat refine bu ?_); exact BK551.out) hb); have n9_ := Aside0.mk (blk_below (g := gb570) (o := .cells #[.slice Ao114 t566.length co114] 25 (0, 0)) (by (with_reducible repeat refine bu ?_); refine blk_put (cs := #[.slice none 0 0]) ?_ 0 _ rfl; (with_reducible repeat refine bu ?_); exact BK570.out) hb); have n10_ := Aside0.mk (below_step (bl HB) hb); clear HO_543000; clear HO_547000; clear HO_552000; clear HO565; clear HO568; clear BK533; clear BK542; clear BK546; clear BK551; clear BK570; clear HB; have HO_543000 := n0_; have HO_547000 := n1_; have HO_552000 := n2_; have HO565 := n3_; have HO568 := n4_; have BK533 := n5_; have BK542 := n6_; have BK546 := n7_; have BK551 := n8_; have BK570 := n9_; have HB := n10_; clear n0_ n1_ n2_ n3_ n4_ n5_ n6_ n7_ n8_ n9_ n10_; (try clear hb); (try clear hb2); (try clear hk); (try clear hi)))
                            go_meet
                            case rel => exact ⟨_, (true), (by first | rfl | (simp; done) | (simp [*]; done)), H', ⟨by have := HJ13.out; have := HJ62.out; first | omega | exact Nat.le_refl _⟩, ⟨by (try simp only [hl547000_62]); (with_reducible repeat apply ru); exact Kd.R_mono HO_543000.out (fun _ hk => ⟨hk.1.1.1, ⟨hk.1.1.2, hk.2⟩⟩)⟩, ⟨by (try simp only [hl547000_62]); (with_reducible repeat apply ru); exact Kd.R_mono HO_547000.out (fun _ hk => ⟨hk.1.1.1, ⟨hk.1.1.2, hk.2⟩⟩)⟩, ⟨by (try simp only [hl547000_62]); (with_reducible repeat apply ru); exact Kd.R_mono HO_552000.out (fun _ hk => ⟨hk.1.1.1, ⟨hk.1.1.2, hk.2⟩⟩)⟩, ⟨by (try simp only [hl547000_62]); (with_reducible repeat apply ru); exact Kd.R_mono HO568.out (fun _ hk => ⟨hk.1.1.1.2, ⟨hk.1.1.2, hk.1.2⟩⟩)⟩, ⟨by (try simp only [hl547000_62]); (with_reducible repeat refine bu ?_); exact BK533.out⟩, ⟨by (try simp only [hl547000_62]); (with_reducible repeat refine bu ?_); exact BK542.out⟩, ⟨by (try simp only [hl547000_62]); (with_reducible repeat refine bu ?_); exact BK546.out⟩, ⟨by (try simp only [hl547000_62]); (with_reducible repeat refine bu ?_); exact BK551.out⟩, ⟨by (try simp only [hl547000_62]); (with_reducible repeat refine bu ?_); exact BK570.out⟩, ⟨by repeat (first | (with_reducible first | exact HB.out | apply below_alloc | apply pw_below_drewN | apply below_drew1 | refine below_set ?_ GE533.out | refine below_set ?_ GE542.out | refine below_set ?_ GE546.out | refine below_set ?_ GE551.out | refine below_set ?_ GE570.out) | exact HB.out)⟩⟩
                        case rest =>
                          clear HC99
                          try clear c1
                          try clear c2
                          try clear p2
                          try clear c3
                          try clear c3b0
                          try clear c3b1
                          try clear c4
                          try clear c5
                          try clear c6
                          try clear c6b0
                          try clear c7
                          try clear c8
                          try clear c9
                          try clear c10
                          try clear c11
                          try clear c12
                          try clear c13
                          try clear c14
                          try clear c24
                          try clear c25
                          try clear c26
                          try clear c27
                          try clear c28
                          try clear c29
                          try clear c30
                          try clear c31
                          try clear c36
                          try clear c37
                          try clear c38
                          try clear c41
                          try clear c42
                          try clear c43
                          try clear c44
                          try clear c46
                          try clear c47
                          try clear c50
                          try clear c51
                          try clear c52
                          try clear c54
                          try clear c55
                          try clear c58
                          try clear c61
                          try clear c68
                          try clear c69
                          try clear c70
                          try clear c73
                          try clear c73b0
                          try clear c75
                          try clear c76
                          try clear c77
                          try clear c78
                          try clear c80
                          try clear c81
                          try clear c84
                          try clear c85
                          try clear c86
                          try clear c88
                          try clear c89
                          try clear c92
                          try clear c95
                          try clear c95b0
                          try clear c96
                          try clear c96b0
                          try clear c96b1
                          try clear c100
                          try clear c101
                          try clear c102
                          try clear c107
                          try clear c108
                          try clear c115
                          try clear c116
                          try clear c117
                          try clear c118
                          try clear c121
                          try clear c122
                          try clear c123
                          try clear c124
                          try clear c125
                          try clear c127
                          try clear c128
                          try clear c129
                          try clear c132
                          try clear c133
                          try clear c134
                          try clear c135
                          try clear c137
                          try clear c138
                          try clear c139
                          try clear hcz103_0
                          try clear hcz105_0
                          try clear hcz109_0
                          try clear hcz119_0
                          try clear hcz126_0
                          try clear hcz130_0
                          try clear hcz136_0
                          try clear hcz140_0
                          try clear hcz16_0
                          try clear hcz18_0
                          try clear hcz25_0
                          try clear hcz26_0
                          try clear hcz32_0
                          try clear hcz39_0
                          try clear hcz45_0
                          try clear hcz48_0
                          try clear hcz53_0
                          try clear hcz56_0
                          try clear hcz71_0
                          try clear hcz79_0
                          try clear hcz82_0
                          try clear hcz87_0
                          try clear hcz8_0
                          try clear hcz90_0
                          try clear hfz103_0
                          try clear hfz105_0
                          try clear hfz109_0
                          try clear hfz119_0
                          try clear hfz126_0
                          try clear hfz130_0
                          try clear hfz136_0
                          try clear hfz140_0
                          try clear hfz16_0
                          try clear hfz18_0
                          try clear hfz25_0
                          try clear hfz26_0
                          try clear hfz32_0
                          try clear hfz39_0
                          try clear hfz45_0
                          try clear hfz48_0
                          try clear hfz53_0
                          try clear hfz56_0
                          try clear hfz71_0
                          try clear hfz79_0
                          try clear hfz82_0
                          try clear hfz87_0
                          try clear hfz8_0
                          try clear hfz90_0
                          try clear p2
                          obtain ⟨kq, x95_98, rfl, HA, HJ98, HO_543000, HO_547000, HO_552000, HO_571000, BK533, BK542, BK546, BK551, BK570, HB⟩ := hcut
                          have hl552000_98 := (Kd.R_reads' HO_552000.out).1
                          rw [hl552000_98] at HO_552000
                          (try simp only [hl552000_98])
                          (try simp only [hl552000_98] at BK533)
                          (try simp only [hl552000_98] at BK542)
                          (try simp only [hl552000_98] at BK546)
                          (try simp only [hl552000_98] at BK551)
                          (try simp only [hl552000_98] at BK570)
                          (try simp only [hl552000_98] at HO_543000)
                          (try simp only [hl552000_98] at HO_547000)
                          (try simp only [hl552000_98] at HO_571000)
                          cases kq with
                          | zero => exact absurd HA.out (by simp [laws_FnExactRwrLine.j2])
                          | succ kj98 =>
                            have H := HA.out
                            clear HA
                            simp only [laws_FnExactRwrLine.j2] at H
                            by_cases c142 : x95_98 = true
                            · subst c142
                              have H1 : (some false) = some r := by rw [if_pos rfl] at H; exact H
                              clear H
                              have H := H1
                              clear H1
                              exact absurd ((Option.some.inj H).trans hrt.out) (by decide)
                            · replace c142 := Bool.eq_false_iff.mpr c142
                              subst c142
                              have H1 : ((laws_heldMapTab.f kj98 t561 1).bind fun t572 => (if t572 < 0 then (some false) else (if t572 = t560 then (some true) else (some false)))) = some r := by rw [if_neg (show ¬ (false = true) by decide)] at H; exact H
                              clear H
                              have H := H1
                              clear H1
                              replace H := Option.bind_eq_some_iff.mp H
                              obtain ⟨t572, A1430, H⟩ := H
                              replace H : (if t572 < 0 then (some false) else (if t572 = t560 then (some true) else (some false))) = some r := H
                              have A143 := Aside0.mk A1430
                              clear A1430
                              by_cases c144 : t572 < 0
                              · rw [if_pos c144] at H
                                have c144b0 : decide (t572 < 0) = true := decide_eq_true c144
                                clear c144
                                exact absurd ((Option.some.inj H).trans hrt.out) (by decide)
                              · rw [if_neg c144] at H
                                have c144b0 : decide (t572 < 0) = false := decide_eq_false c144
                                clear c144
                                by_cases c145 : t572 = t560
                                · rw [if_pos c145] at H
                                  have c145b0 : (t572 == t560) = true := beq_iff_eq.mpr c145
                                  have c145b1 : (t572 != t560) = false := bne_eq_false_iff_eq.mpr c145
                                  clear c145
                                  obtain rfl := Option.some.inj H
                                  have hnb146 := NB551_533.out
                                  have hnc146 := NB533_551.out
                                  have hnb147 := NB551_542.out
                                  have hnc147 := NB542_551.out
                                  have hnb148 := NB551_546.out
                                  have hnc148 := NB546_551.out
                                  have hnb149 := NB551_570.out
                                  have hnc149 := NB570_551.out
                                  have hcz150_0 : wc.cell? ⟨gb551, 0, none⟩ = some (.slice Ao35 t561.length co35) := (blk_cell BK551.out 0).trans rfl
                                  have hfz150_0 := blk_frozen BK551.out 0
                                  go_wp2_with (first | ((with_reducible refine gate_callee (f := 29) rfl ?_); refine goesL_ (some 98) rfl rfl Tryz.func29 (by kernel_rfl) rfl #[.agg #[.slice Ao35 t561.length co35], .int .i64 1] rfl (by (try simp only [List.map_toArray, List.map_cons, List.map_nil]); first | done | rfl | (simp only [List.length_drop, List.length_take]; rfl)) ?_; (with_reducible refine (laws_heldMapTab.calls kj98 _ _ t561 1 t572 _ ?side1 ?side2 A143.out).mono ?_); (case side1 => repeat (first | exact (Kd.R_reads' HO_552000.out).2.2 | (with_reducible refine Kd.C_alloc ?_ _) | (with_reducible refine Kd.C_drewN ?_ _) | (with_reducible refine Kd.C_drew ?_))); (case side2 => exact (Kd.R_reads' HO_552000.out).2.1); rintro e w151 ⟨rfl, hb⟩; refine ⟨_, rfl, ?_⟩; have n0_ := Aside0.mk (Kd.R_below (rs HO_543000) hb); have n1_ := Aside0.mk (Kd.R_below (rs HO_547000) hb); have n2_ := Aside0.mk (Kd.R_below (rs HO_552000) hb); have n3_ := Aside0.mk (Kd.R_below (rs HO_571000) hb); have n4_ := bkB BK533 hb; have n5_ := bkB BK542 hb; have n6_ := bkB BK546 hb; have n7_ := bkB BK551 hb; have n8_ := bkB BK570 hb; have n9_ := Aside0.mk (below_step (bl HB) hb); clear HO_543000; clear HO_547000; clear HO_552000; clear HO_571000; clear BK533; clear BK542; clear BK546; clear BK551; clear BK570; clear HB; have HO_543000 := n0_; have HO_547000 := n1_; have HO_552000 := n2_; have HO_571000 := n3_; have BK533 := n4_; have BK542 := n5_; have BK546 := n6_; have BK551 := n7_; have BK570 := n8_; have HB := n9_; clear n0_ n1_ n2_ n3_ n4_ n5_ n6_ n7_ n8_ n9_; (try clear hb); (try clear hb2); (try clear hk); (try clear hi)))
                                  go_ret
                                  exact ⟨by first | rfl | (simp [errW_none, errW_some] <;> rfl) | (simp [*, errW_none, errW_some] <;> rfl), by repeat (first | (with_reducible first | exact HB.out | apply below_alloc | apply pw_below_drewN | apply below_drew1 | refine below_set ?_ GE533.out | refine below_set ?_ GE542.out | refine below_set ?_ GE546.out | refine below_set ?_ GE551.out | refine below_set ?_ GE570.out) | exact HB.out)⟩
                                · rw [if_neg c145] at H
                                  have c145b0 : (t572 == t560) = false := beq_eq_false_iff_ne.mpr c145
                                  have c145b1 : (t572 != t560) = true := bne_iff_ne.mpr c145
                                  exact absurd ((Option.some.inj H).trans hrt.out) (by decide)
                      · rw [if_neg c96] at H
                        have c96b0 : (t562 == t560) = false := beq_eq_false_iff_ne.mpr c96
                        have c96b1 : (t562 != t560) = true := bne_iff_ne.mpr c96
                        exact absurd ((Option.some.inj H).trans hrt.out) (by decide)
            · replace c61 := Bool.eq_false_iff.mpr c61
              subst c61
              have H1 : (some false) = some r := by rw [if_neg (show ¬ (false = true) by decide)] at H; exact H
              clear H
              have H := H1
              clear H1
              exact absurd ((Option.some.inj H).trans hrt.out) (by decide)

end Go.Proofs.YtffmbccgcaghjaaGreatDoor.P
