import Derived.Test.YtiocgkggegahhaaGLawFnExactBoxNewx2
-- written by hw.py for this claim
namespace Go.Proofs.Ytiocgkggegahhaa.P
open Go.RowKit Go.Proofs.YtiocgkggegahhaaUFnExactBoxNew.PrintWords Go.Proofs.YtiocgkggegahhaaUFnExactBoxNew.PrintLast Go.Proofs.YtiocgkggegahhaaUFnExactBoxNew.PrintMore
attribute [local go_sem] max2_int min2_int max_two min_two max_three min_three max_four min_four
set_option linter.unusedVariables false
set_option linter.unusedSimpArgs false

/-! ### laws_eqBoxConnS: function 78 -/
def laws_eqBoxConnS.l0 : Nat → List (S119) → List (S119) → Int → Option (Bool)
  | 0, _, _, _ => none
  | k + 1, x0, x1, x5 => if x5 < (x0.length : Int) then (if 0 ≤ x5 then (if x5 < (x1.length : Int) then ((laws_eqBoxConn.f ((rd_T119 x0 x5).f0.f0) ((rd_T119 x0 x5).f0.f1) ((rd_T119 x0 x5).f1.f0) ((rd_T119 x0 x5).f1.f1) ((rd_T119 x0 x5).f2) ((rd_T119 x0 x5).f3) ((rd_T119 x0 x5).f4) ((rd_T119 x1 x5).f0.f0) ((rd_T119 x1 x5).f0.f1) ((rd_T119 x1 x5).f1.f0) ((rd_T119 x1 x5).f1.f1) ((rd_T119 x1 x5).f2) ((rd_T119 x1 x5).f3) ((rd_T119 x1 x5).f4)).bind fun t850 => (if t850 = true then (laws_eqBoxConnS.l0 k x0 x1 (wrap64 (x5 + 1))) else (some false))) else (none)) else (none)) else (some true)
def laws_eqBoxConnS.f (k : Nat) (l0 : List (S119)) (l1 : List (S119)) : Option (Bool) := if (l0.length : Int) = (l1.length : Int) then (laws_eqBoxConnS.l0 k l0 l1 0) else (some false)
theorem laws_eqBoxConnS.mono_l : ∀ k, (∀ y0 y1 y2, LeO (laws_eqBoxConnS.l0 k y0 y1 y2) (laws_eqBoxConnS.l0 (k + 1) y0 y1 y2))
  | 0 => fun _ _ _ r h => by simp [laws_eqBoxConnS.l0] at h
  | k + 1 => by
    have ih0 := laws_eqBoxConnS.mono_l k
    · intro y0 y1 y2
      unfold laws_eqBoxConnS.l0
      repeat' first
      | (with_reducible exact ih0 _ _ _)
      | (with_reducible exact LeO.refl _)
      | (with_reducible exact LeO.none _)
      | (with_reducible refine LeO.ite ?_ ?_)
      | (with_reducible refine LeO.bind ?_ (fun _ => ?_))
      | exact ih0 _ _ _
      | exact LeO.none _
      | refine LeO.ite ?_ ?_
      | refine LeO.bind ?_ (fun _ => ?_)
theorem laws_eqBoxConnS.mono : ∀ a0 a1 k, LeO (laws_eqBoxConnS.f k a0 a1) (laws_eqBoxConnS.f (k + 1) a0 a1) := by
  intro a0 a1 k
  have ih0 := laws_eqBoxConnS.mono_l k
  unfold laws_eqBoxConnS.f
  repeat' first
      | (with_reducible exact ih0 _ _ _)
      | (with_reducible exact LeO.refl _)
      | (with_reducible exact LeO.none _)
      | (with_reducible refine LeO.ite ?_ ?_)
      | (with_reducible refine LeO.bind ?_ (fun _ => ?_))
      | exact ih0 _ _ _
      | exact LeO.none _
      | refine LeO.ite ?_ ?_
      | refine LeO.bind ?_ (fun _ => ?_)
def laws_eqBoxConnS.T6 : Bool × List (List Nat × List Nat) := (true, [([], []), ([], []), ([0, 1], [0, 1]), ([2], [2]), ([], []), ([], []), ([4, 5], [4, 5]), ([6], [6]), ([3, 7], [3, 7]), ([8], [8])])
def laws_eqBoxConnS.B6 : List Nat := [0, 0, 3, 7, 0, 0, 48, 112, 255, 511]
theorem laws_eqBoxConnS.tab6 : rtab .any (opsOf Try.f78 6) = laws_eqBoxConnS.T6 := by kernel_rfl
theorem laws_eqBoxConnS.bits6 : waitsOk laws_eqBoxConnS.T6.2 laws_eqBoxConnS.B6 = true := by kernel_rfl
set_option maxHeartbeats 8000000 in
set_option maxRecDepth 100000 in
theorem laws_eqBoxConnS.calls (k : Nat) (A0 : Option Addr) (c0 : Nat) (l0 : List (S119)) (A1 : Option Addr) (c1 : Nat) (l1 : List (S119)) (r : Bool) (w : World) (hr0 : Kd.C k119 w A0 l0.length l0) (hc0 : l0.length ≤ c0) (hr1 : Kd.C k119 w A1 l1.length l1) (hc1 : l1.length ≤ c1) (h : laws_eqBoxConnS.f k l0 l1 = some r) :
    Calls Try.prog 78 #[.slice A0 l0.length c0, .slice A1 l1.length c1] w fun e w' => e = .returned (.bool r) ∧ Below w.heap.size w w' := by
  have hu119 := Try.underlying119
  have HR0 := Aside0.mk hr0
  have HC0 := Aside0.mk hc0
  clear hr0 hc0
  have HR1 := Aside0.mk hr1
  have HC1 := Aside0.mk hc1
  clear hr1 hc1
  have HB := Aside0.mk (Below.refl w.heap.size w)
  have H : (if (l0.length : Int) = (l1.length : Int) then (laws_eqBoxConnS.l0 k l0 l1 0) else (some false)) = some r := h
  clear h
  by_cases c3 : (l0.length : Int) = (l1.length : Int)
  · rw [if_pos c3] at H
    have c3b0 : ((l0.length : Int) == (l1.length : Int)) = true := beq_iff_eq.mpr c3
    have c3b1 : ((l0.length : Int) != (l1.length : Int)) = false := bne_eq_false_iff_eq.mpr c3
    have c3b2 : (l0.length == l1.length) = true := by first | simpa using c3 | (simp at c3 ⊢; omega)
    clear c3
    have H' := Aside0.mk H
    clear H
    go_enter Try.func78, Try.ntmps78
    go_wp2
    go_loopg [5] k (fun kq v5 w' => ∃ (x5_1 : Int), v5 = .int .i64 x5_1 ∧ Aside0 (laws_eqBoxConnS.l0 kq l0 l1 x5_1 = some r) ∧ Aside0 (kq ≤ k) ∧ Aside0 (Below w.heap.size w w'))
    case atStart => exact ⟨(0), (by first | rfl | (simp; done) | (simp [*]; done)), H', ⟨Nat.le_refl _⟩, ⟨by repeat (first | (with_reducible first | exact HB.out | apply below_alloc | apply pw_below_drewN | apply below_drew1) | exact HB.out)⟩⟩
    case round =>
      clear H'
      try clear c1
      try clear p2
      try clear c3
      try clear c3b0
      try clear c3b1
      try clear c3b2
      obtain ⟨x5_1, rfl, HA, HK1, HB⟩ := hrel
      cases gk with
      | zero => exact absurd HA.out (by simp [laws_eqBoxConnS.l0])
      | succ k1 =>
        have H := HA.out
        clear HA
        simp only [laws_eqBoxConnS.l0] at H
        by_cases c4 : x5_1 < (l0.length : Int)
        · rw [if_pos c4] at H
          have c4b0 : decide (x5_1 < (l0.length : Int)) = true := decide_eq_true c4
          clear c4
          by_cases c5 : 0 ≤ x5_1
          · rw [if_pos c5] at H
            have c5b0 : decide (0 ≤ x5_1) = true := decide_eq_true c5
            clear c5
            by_cases c6 : x5_1 < (l1.length : Int)
            · rw [if_pos c6] at H
              have c6b0 : decide (x5_1 < (l1.length : Int)) = true := decide_eq_true c6
              clear c6
              replace H := Option.bind_eq_some_iff.mp H
              obtain ⟨t850, A70, H⟩ := H
              replace H : (if t850 = true then (laws_eqBoxConnS.l0 k1 l0 l1 (wrap64 (x5_1 + 1))) else (some false)) = some r := H
              have A7 := Aside0.mk A70
              clear A70
              by_cases c8 : t850 = true
              · subst c8
                have H1 : (laws_eqBoxConnS.l0 k1 l0 l1 (wrap64 (x5_1 + 1))) = some r := by rw [if_pos rfl] at H; exact H
                clear H
                have H := H1
                clear H1
                have H' := Aside0.mk H
                clear H
                try go_wp2
                have n0_ := Aside0.mk (below_drew1 HB.out)
                clear HB
                have HB := n0_
                clear n0_
                have p848 : 0 ≤ (x5_1 : Int) := of_decide_eq_true (by first | (with_reducible assumption) | assumption)
                have q848 : x5_1 < (l0.length : Int) := of_decide_eq_true (by first | (with_reducible assumption) | assumption)
                obtain ⟨ad848, e848, hx848_0, hx848_1, hx848_2, hx848_3, hx848_4, hx848_5, hx848_6⟩ := at_T119 HR0.out x5_1 p848 q848
                have hw848_6 := hx848_6
                have hw848_5 := hx848_5
                have hw848_4 := hx848_4
                have hw848_3 := hx848_3
                have hw848_2 := hx848_2
                have hw848_1 := hx848_1
                have hw848_0 := hx848_0
                cases e848
                replace hx848_0 := (HB.out.cell (World.block_lt_of_cell? w _ hx848_0)).trans hx848_0
                replace hx848_1 := (HB.out.cell (World.block_lt_of_cell? w _ hx848_1)).trans hx848_1
                replace hx848_2 := (HB.out.cell (World.block_lt_of_cell? w _ hx848_2)).trans hx848_2
                replace hx848_3 := (HB.out.cell (World.block_lt_of_cell? w _ hx848_3)).trans hx848_3
                replace hx848_4 := (HB.out.cell (World.block_lt_of_cell? w _ hx848_4)).trans hx848_4
                replace hx848_5 := (HB.out.cell (World.block_lt_of_cell? w _ hx848_5)).trans hx848_5
                replace hx848_6 := (HB.out.cell (World.block_lt_of_cell? w _ hx848_6)).trans hx848_6
                replace p848 := eq_true p848
                replace q848 := eq_true q848
                have p849 : 0 ≤ (x5_1 : Int) := of_decide_eq_true (by first | (with_reducible assumption) | assumption)
                have q849 : x5_1 < (l1.length : Int) := of_decide_eq_true (by first | (with_reducible assumption) | assumption)
                obtain ⟨ad849, e849, hx849_0, hx849_1, hx849_2, hx849_3, hx849_4, hx849_5, hx849_6⟩ := at_T119 HR1.out x5_1 p849 q849
                have hw849_6 := hx849_6
                have hw849_5 := hx849_5
                have hw849_4 := hx849_4
                have hw849_3 := hx849_3
                have hw849_2 := hx849_2
                have hw849_1 := hx849_1
                have hw849_0 := hx849_0
                cases e849
                replace hx849_0 := (HB.out.cell (World.block_lt_of_cell? w _ hx849_0)).trans hx849_0
                replace hx849_1 := (HB.out.cell (World.block_lt_of_cell? w _ hx849_1)).trans hx849_1
                replace hx849_2 := (HB.out.cell (World.block_lt_of_cell? w _ hx849_2)).trans hx849_2
                replace hx849_3 := (HB.out.cell (World.block_lt_of_cell? w _ hx849_3)).trans hx849_3
                replace hx849_4 := (HB.out.cell (World.block_lt_of_cell? w _ hx849_4)).trans hx849_4
                replace hx849_5 := (HB.out.cell (World.block_lt_of_cell? w _ hx849_5)).trans hx849_5
                replace hx849_6 := (HB.out.cell (World.block_lt_of_cell? w _ hx849_6)).trans hx849_6
                replace p849 := eq_true p849
                replace q849 := eq_true q849
                refine start_ (n := 10) (S := fun w' => w'.cell? (ad848.add ((x5_1).toNat * 7)) = some (.int .i64 ((rd_T119 l0 x5_1).f0.f0)) ∧ w'.cell? ⟨(ad848.add ((x5_1).toNat * 7)).block, (ad848.add ((x5_1).toNat * 7)).off + 1, none⟩ = some (.int .i64 ((rd_T119 l0 x5_1).f0.f1)) ∧ w'.cell? ⟨(ad848.add ((x5_1).toNat * 7)).block, (ad848.add ((x5_1).toNat * 7)).off + 2, none⟩ = some (.int .i64 ((rd_T119 l0 x5_1).f1.f0)) ∧ w'.cell? ⟨(ad848.add ((x5_1).toNat * 7)).block, (ad848.add ((x5_1).toNat * 7)).off + 3, none⟩ = some (.int .i64 ((rd_T119 l0 x5_1).f1.f1)) ∧ w'.cell? ⟨(ad848.add ((x5_1).toNat * 7)).block, (ad848.add ((x5_1).toNat * 7)).off + 4, none⟩ = some (.string ((rd_T119 l0 x5_1).f2)) ∧ w'.cell? ⟨(ad848.add ((x5_1).toNat * 7)).block, (ad848.add ((x5_1).toNat * 7)).off + 5, none⟩ = some (.string ((rd_T119 l0 x5_1).f3)) ∧ w'.cell? ⟨(ad848.add ((x5_1).toNat * 7)).block, (ad848.add ((x5_1).toNat * 7)).off + 6, none⟩ = some (.string ((rd_T119 l0 x5_1).f4)) ∧ w'.cell? (ad849.add ((x5_1).toNat * 7)) = some (.int .i64 ((rd_T119 l1 x5_1).f0.f0)) ∧ w'.cell? ⟨(ad849.add ((x5_1).toNat * 7)).block, (ad849.add ((x5_1).toNat * 7)).off + 1, none⟩ = some (.int .i64 ((rd_T119 l1 x5_1).f0.f1)) ∧ w'.cell? ⟨(ad849.add ((x5_1).toNat * 7)).block, (ad849.add ((x5_1).toNat * 7)).off + 2, none⟩ = some (.int .i64 ((rd_T119 l1 x5_1).f1.f0)) ∧ w'.cell? ⟨(ad849.add ((x5_1).toNat * 7)).block, (ad849.add ((x5_1).toNat * 7)).off + 3, none⟩ = some (.int .i64 ((rd_T119 l1 x5_1).f1.f1)) ∧ w'.cell? ⟨(ad849.add ((x5_1).toNat * 7)).block, (ad849.add ((x5_1).toNat * 7)).off + 4, none⟩ = some (.string ((rd_T119 l1 x5_1).f2)) ∧ w'.cell? ⟨(ad849.add ((x5_1).toNat * 7)).block, (ad849.add ((x5_1).toNat * 7)).off + 5, none⟩ = some (.string ((rd_T119 l1 x5_1).f3)) ∧ w'.cell? ⟨(ad849.add ((x5_1).toNat * 7)).block, (ad849.add ((x5_1).toNat * 7)).off + 6, none⟩ = some (.string ((rd_T119 l1 x5_1).f4))) (ds := []) #[false, false, false, false, false, false, false, false, false, false] (by kernel_rfl) rfl rfl ⟨((HB.out.cell (World.block_lt_of_cell? w _ hw848_0)).trans hw848_0), ((HB.out.cell (World.block_lt_of_cell? w _ hw848_1)).trans hw848_1), ((HB.out.cell (World.block_lt_of_cell? w _ hw848_2)).trans hw848_2), ((HB.out.cell (World.block_lt_of_cell? w _ hw848_3)).trans hw848_3), ((HB.out.cell (World.block_lt_of_cell? w _ hw848_4)).trans hw848_4), ((HB.out.cell (World.block_lt_of_cell? w _ hw848_5)).trans hw848_5), ((HB.out.cell (World.block_lt_of_cell? w _ hw848_6)).trans hw848_6), ((HB.out.cell (World.block_lt_of_cell? w _ hw849_0)).trans hw849_0), ((HB.out.cell (World.block_lt_of_cell? w _ hw849_1)).trans hw849_1), ((HB.out.cell (World.block_lt_of_cell? w _ hw849_2)).trans hw849_2), ((HB.out.cell (World.block_lt_of_cell? w _ hw849_3)).trans hw849_3), ((HB.out.cell (World.block_lt_of_cell? w _ hw849_4)).trans hw849_4), ((HB.out.cell (World.block_lt_of_cell? w _ hw849_5)).trans hw849_5), ((HB.out.cell (World.block_lt_of_cell? w _ hw849_6)).trans hw849_6)⟩ (fun hHeld => ?_); refine with_tabW laws_eqBoxConnS.tab6 laws_eqBoxConnS.bits6 (fun HT_ HW_ => ?_)
                generalize wr.drew = w9 at HB hx848_0 hx848_1 hx848_2 hx848_3 hx848_4 hx848_5 hx848_6 hx849_0 hx849_1 hx849_2 hx849_3 hx849_4 hx849_5 hx849_6 hHeld ⊢
                refine pure_ (i := 0) (N := some 17) (v := ?_) (a' := ?_) #[true, false, false, false, false, false, false, false, false, false] rfl rfl (any_of HT_.out (by kernel_rfl)) (fun _ _ _ h => h) (Or.inl ⟨by rfl, ?_⟩) ?_ ?_
                rotate_left
                · intro w'
                  go_simp
                  with_reducible rfl
                rotate_left
                · simp only [Act.put, List.setIfInBounds_toArray, List.set_cons_zero, List.set_cons_succ, i64_w, i32_w]
                  rfl
                refine pure_ (i := 1) (N := some 18) (v := ?_) (a' := ?_) #[true, true, false, false, false, false, false, false, false, false] rfl rfl (any_of HT_.out (by kernel_rfl)) (fun _ _ _ h => h) (Or.inl ⟨by rfl, ?_⟩) ?_ ?_
                rotate_left
                · intro w'
                  go_simp
                  with_reducible rfl
                rotate_left
                · simp only [Act.put, List.setIfInBounds_toArray, List.set_cons_zero, List.set_cons_succ, i64_w, i32_w]
                  rfl
                refine pure_ (i := 2) (N := some 19) (v := ?_) (a' := ?_) #[true, true, true, false, false, false, false, false, false, false] rfl rfl (any_of HT_.out (by kernel_rfl)) (fun _ _ _ h => h) (Or.inl ⟨by rfl, ?_⟩) ?_ ?_
                rotate_left
                · intro w'
                  go_simp
                  with_reducible rfl
                rotate_left
                · simp only [Act.put, List.setIfInBounds_toArray, List.set_cons_zero, List.set_cons_succ, i64_w, i32_w]
                  rfl
                refine pure_ (i := 4) (N := some 21) (v := ?_) (a' := ?_) #[true, true, true, false, true, false, false, false, false, false] rfl rfl (any_of HT_.out (by kernel_rfl)) (fun _ _ _ h => h) (Or.inl ⟨by rfl, ?_⟩) ?_ ?_
                rotate_left
                · intro w'
                  go_simp
                  with_reducible rfl
                rotate_left
                · simp only [Act.put, List.setIfInBounds_toArray, List.set_cons_zero, List.set_cons_succ, i64_w, i32_w]
                  rfl
                refine pure_ (i := 5) (N := some 22) (v := ?_) (a' := ?_) #[true, true, true, false, true, true, false, false, false, false] rfl rfl (any_of HT_.out (by kernel_rfl)) (fun _ _ _ h => h) (Or.inl ⟨by rfl, ?_⟩) ?_ ?_
                rotate_left
                · intro w'
                  go_simp
                  with_reducible rfl
                rotate_left
                · simp only [Act.put, List.setIfInBounds_toArray, List.set_cons_zero, List.set_cons_succ, i64_w, i32_w]
                  rfl
                refine pure_ (i := 6) (N := some 23) (v := ?_) (a' := ?_) #[true, true, true, false, true, true, true, false, false, false] rfl rfl (any_of HT_.out (by kernel_rfl)) (fun _ _ _ h => h) (Or.inl ⟨by rfl, ?_⟩) ?_ ?_
                rotate_left
                · intro w'
                  go_simp
                  with_reducible rfl
                rotate_left
                · simp only [Act.put, List.setIfInBounds_toArray, List.set_cons_zero, List.set_cons_succ, i64_w, i32_w]
                  rfl
                refine take_ (i := 3) (N := some 20) (v := ?_) (a' := ?_) #[true, true, true, true, true, true, true, false, false, false] rfl rfl (take_ofW HT_.out HW_.out (by kernel_rfl)) (fun _ _ _ h => h) (Or.inl ⟨by rfl, ?_⟩) hHeld ?_ ?_
                rotate_left
                · rintro w' ⟨s0, s1, s2, s3, s4, s5, s6, s7, s8, s9, s10, s11, s12, s13⟩
                  go_simp
                  with_reducible rfl
                rotate_left
                · simp only [Act.put, List.setIfInBounds_toArray, List.set_cons_zero, List.set_cons_succ, i64_w, i32_w]
                  rfl
                refine take_ (i := 7) (N := some 24) (v := ?_) (a' := ?_) #[true, true, true, true, true, true, true, true, false, false] rfl rfl (take_ofW HT_.out HW_.out (by kernel_rfl)) (fun _ _ _ h => h) (Or.inl ⟨by rfl, ?_⟩) hHeld ?_ ?_
                rotate_left
                · rintro w' ⟨s0, s1, s2, s3, s4, s5, s6, s7, s8, s9, s10, s11, s12, s13⟩
                  go_simp
                  with_reducible rfl
                rotate_left
                · simp only [Act.put, List.setIfInBounds_toArray, List.set_cons_zero, List.set_cons_succ, i64_w, i32_w]
                  rfl
                refine one_ (i := 8) (N := some 25) #[true, true, true, true, true, true, true, true, true, false] rfl rfl (one_of HT_.out (by kernel_rfl)) (by decide) (fun K hK => ?_)
                refine goes_ Try.func98 (by kernel_rfl) rfl #[.agg #[.int .i64 ((rd_T119 l0 x5_1).f0.f0), .int .i64 ((rd_T119 l0 x5_1).f0.f1), .int .i64 ((rd_T119 l0 x5_1).f1.f0), .int .i64 ((rd_T119 l0 x5_1).f1.f1), .string ((rd_T119 l0 x5_1).f2), .string ((rd_T119 l0 x5_1).f3), .string ((rd_T119 l0 x5_1).f4)], .agg #[.int .i64 ((rd_T119 l1 x5_1).f0.f0), .int .i64 ((rd_T119 l1 x5_1).f0.f1), .int .i64 ((rd_T119 l1 x5_1).f1.f0), .int .i64 ((rd_T119 l1 x5_1).f1.f1), .string ((rd_T119 l1 x5_1).f2), .string ((rd_T119 l1 x5_1).f3), .string ((rd_T119 l1 x5_1).f4)]] (by rfl) rfl rfl (by (try simp only [List.map_toArray, List.map_cons, List.map_nil]); first | done | rfl | (simp only [List.length_drop, List.length_take]; rfl)) ?_
                with_reducible refine (laws_eqBoxConn.calls ((rd_T119 l0 x5_1).f0.f0) ((rd_T119 l0 x5_1).f0.f1) ((rd_T119 l0 x5_1).f1.f0) ((rd_T119 l0 x5_1).f1.f1) ((rd_T119 l0 x5_1).f2) ((rd_T119 l0 x5_1).f3) ((rd_T119 l0 x5_1).f4) ((rd_T119 l1 x5_1).f0.f0) ((rd_T119 l1 x5_1).f0.f1) ((rd_T119 l1 x5_1).f1.f0) ((rd_T119 l1 x5_1).f1.f1) ((rd_T119 l1 x5_1).f2) ((rd_T119 l1 x5_1).f3) ((rd_T119 l1 x5_1).f4) true _ A7.out).mono ?_
                rintro e w10 ⟨rfl, hb⟩
                refine ⟨_, rfl, ?_⟩
                have n0_ := Aside0.mk (below_step (bl HB) hb)
                clear HB
                have HB := n0_
                clear n0_
                (try clear hb)
                (try clear hb2)
                (try clear hk)
                (try clear hi)
                refine hK.out _ _ ⟨((HB.out.cell (World.block_lt_of_cell? w _ hw848_0)).trans hw848_0), ((HB.out.cell (World.block_lt_of_cell? w _ hw848_1)).trans hw848_1), ((HB.out.cell (World.block_lt_of_cell? w _ hw848_2)).trans hw848_2), ((HB.out.cell (World.block_lt_of_cell? w _ hw848_3)).trans hw848_3), ((HB.out.cell (World.block_lt_of_cell? w _ hw848_4)).trans hw848_4), ((HB.out.cell (World.block_lt_of_cell? w _ hw848_5)).trans hw848_5), ((HB.out.cell (World.block_lt_of_cell? w _ hw848_6)).trans hw848_6), ((HB.out.cell (World.block_lt_of_cell? w _ hw849_0)).trans hw849_0), ((HB.out.cell (World.block_lt_of_cell? w _ hw849_1)).trans hw849_1), ((HB.out.cell (World.block_lt_of_cell? w _ hw849_2)).trans hw849_2), ((HB.out.cell (World.block_lt_of_cell? w _ hw849_3)).trans hw849_3), ((HB.out.cell (World.block_lt_of_cell? w _ hw849_4)).trans hw849_4), ((HB.out.cell (World.block_lt_of_cell? w _ hw849_5)).trans hw849_5), ((HB.out.cell (World.block_lt_of_cell? w _ hw849_6)).trans hw849_6)⟩ (fun hHeld => ?_)
                clear hK K
                refine norm_ (a' := ?_) ?_ ?_
                rotate_left
                · show Act.put _ (some 25) _ = _
                  simp only [Act.put, List.setIfInBounds_toArray, List.set_cons_zero, List.set_cons_succ, i64_w, i32_w]
                  rfl
                refine pure_ (i := 9) (N := some 26) (v := ?_) (a' := ?_) #[true, true, true, true, true, true, true, true, true, true] rfl rfl (any_of HT_.out (by kernel_rfl)) (fun _ _ _ h => h) (Or.inl ⟨by rfl, ?_⟩) ?_ ?_
                rotate_left
                · intro w'
                  go_simp
                  with_reducible rfl
                rotate_left
                · simp only [Act.put, List.setIfInBounds_toArray, List.set_cons_zero, List.set_cons_succ, i64_w, i32_w]
                  rfl
                refine done_ (done_of HT_.out (by kernel_rfl)) ?_
                try go_wp2
                go_roundg k1
                case measure => have := HK1.out; omega
                case rel => exact ⟨(wrap64 (x5_1 + 1)), (by first | rfl | (simp; done) | (simp [*]; done)), H', ⟨by have := HK1.out; omega⟩, ⟨by repeat (first | (with_reducible first | exact HB.out | apply below_alloc | apply pw_below_drewN | apply below_drew1) | exact HB.out)⟩⟩
              · replace c8 := Bool.eq_false_iff.mpr c8
                subst c8
                have H1 : (some false) = some r := by rw [if_neg (show ¬ (false = true) by decide)] at H; exact H
                clear H
                have H := H1
                clear H1
                obtain rfl := Option.some.inj H
                try go_wp2
                have n0_ := Aside0.mk (below_drew1 HB.out)
                clear HB
                have HB := n0_
                clear n0_
                have p848 : 0 ≤ (x5_1 : Int) := of_decide_eq_true (by first | (with_reducible assumption) | assumption)
                have q848 : x5_1 < (l0.length : Int) := of_decide_eq_true (by first | (with_reducible assumption) | assumption)
                obtain ⟨ad848, e848, hx848_0, hx848_1, hx848_2, hx848_3, hx848_4, hx848_5, hx848_6⟩ := at_T119 HR0.out x5_1 p848 q848
                have hw848_6 := hx848_6
                have hw848_5 := hx848_5
                have hw848_4 := hx848_4
                have hw848_3 := hx848_3
                have hw848_2 := hx848_2
                have hw848_1 := hx848_1
                have hw848_0 := hx848_0
                cases e848
                replace hx848_0 := (HB.out.cell (World.block_lt_of_cell? w _ hx848_0)).trans hx848_0
                replace hx848_1 := (HB.out.cell (World.block_lt_of_cell? w _ hx848_1)).trans hx848_1
                replace hx848_2 := (HB.out.cell (World.block_lt_of_cell? w _ hx848_2)).trans hx848_2
                replace hx848_3 := (HB.out.cell (World.block_lt_of_cell? w _ hx848_3)).trans hx848_3
                replace hx848_4 := (HB.out.cell (World.block_lt_of_cell? w _ hx848_4)).trans hx848_4
                replace hx848_5 := (HB.out.cell (World.block_lt_of_cell? w _ hx848_5)).trans hx848_5
                replace hx848_6 := (HB.out.cell (World.block_lt_of_cell? w _ hx848_6)).trans hx848_6
                replace p848 := eq_true p848
                replace q848 := eq_true q848
                have p849 : 0 ≤ (x5_1 : Int) := of_decide_eq_true (by first | (with_reducible assumption) | assumption)
                have q849 : x5_1 < (l1.length : Int) := of_decide_eq_true (by first | (with_reducible assumption) | assumption)
                obtain ⟨ad849, e849, hx849_0, hx849_1, hx849_2, hx849_3, hx849_4, hx849_5, hx849_6⟩ := at_T119 HR1.out x5_1 p849 q849
                have hw849_6 := hx849_6
                have hw849_5 := hx849_5
                have hw849_4 := hx849_4
                have hw849_3 := hx849_3
                have hw849_2 := hx849_2
                have hw849_1 := hx849_1
                have hw849_0 := hx849_0
                cases e849
                replace hx849_0 := (HB.out.cell (World.block_lt_of_cell? w _ hx849_0)).trans hx849_0
                replace hx849_1 := (HB.out.cell (World.block_lt_of_cell? w _ hx849_1)).trans hx849_1
                replace hx849_2 := (HB.out.cell (World.block_lt_of_cell? w _ hx849_2)).trans hx849_2
                replace hx849_3 := (HB.out.cell (World.block_lt_of_cell? w _ hx849_3)).trans hx849_3
                replace hx849_4 := (HB.out.cell (World.block_lt_of_cell? w _ hx849_4)).trans hx849_4
                replace hx849_5 := (HB.out.cell (World.block_lt_of_cell? w _ hx849_5)).trans hx849_5
                replace hx849_6 := (HB.out.cell (World.block_lt_of_cell? w _ hx849_6)).trans hx849_6
                replace p849 := eq_true p849
                replace q849 := eq_true q849
                refine start_ (n := 10) (S := fun w' => w'.cell? (ad848.add ((x5_1).toNat * 7)) = some (.int .i64 ((rd_T119 l0 x5_1).f0.f0)) ∧ w'.cell? ⟨(ad848.add ((x5_1).toNat * 7)).block, (ad848.add ((x5_1).toNat * 7)).off + 1, none⟩ = some (.int .i64 ((rd_T119 l0 x5_1).f0.f1)) ∧ w'.cell? ⟨(ad848.add ((x5_1).toNat * 7)).block, (ad848.add ((x5_1).toNat * 7)).off + 2, none⟩ = some (.int .i64 ((rd_T119 l0 x5_1).f1.f0)) ∧ w'.cell? ⟨(ad848.add ((x5_1).toNat * 7)).block, (ad848.add ((x5_1).toNat * 7)).off + 3, none⟩ = some (.int .i64 ((rd_T119 l0 x5_1).f1.f1)) ∧ w'.cell? ⟨(ad848.add ((x5_1).toNat * 7)).block, (ad848.add ((x5_1).toNat * 7)).off + 4, none⟩ = some (.string ((rd_T119 l0 x5_1).f2)) ∧ w'.cell? ⟨(ad848.add ((x5_1).toNat * 7)).block, (ad848.add ((x5_1).toNat * 7)).off + 5, none⟩ = some (.string ((rd_T119 l0 x5_1).f3)) ∧ w'.cell? ⟨(ad848.add ((x5_1).toNat * 7)).block, (ad848.add ((x5_1).toNat * 7)).off + 6, none⟩ = some (.string ((rd_T119 l0 x5_1).f4)) ∧ w'.cell? (ad849.add ((x5_1).toNat * 7)) = some (.int .i64 ((rd_T119 l1 x5_1).f0.f0)) ∧ w'.cell? ⟨(ad849.add ((x5_1).toNat * 7)).block, (ad849.add ((x5_1).toNat * 7)).off + 1, none⟩ = some (.int .i64 ((rd_T119 l1 x5_1).f0.f1)) ∧ w'.cell? ⟨(ad849.add ((x5_1).toNat * 7)).block, (ad849.add ((x5_1).toNat * 7)).off + 2, none⟩ = some (.int .i64 ((rd_T119 l1 x5_1).f1.f0)) ∧ w'.cell? ⟨(ad849.add ((x5_1).toNat * 7)).block, (ad849.add ((x5_1).toNat * 7)).off + 3, none⟩ = some (.int .i64 ((rd_T119 l1 x5_1).f1.f1)) ∧ w'.cell? ⟨(ad849.add ((x5_1).toNat * 7)).block, (ad849.add ((x5_1).toNat * 7)).off + 4, none⟩ = some (.string ((rd_T119 l1 x5_1).f2)) ∧ w'.cell? ⟨(ad849.add ((x5_1).toNat * 7)).block, (ad849.add ((x5_1).toNat * 7)).off + 5, none⟩ = some (.string ((rd_T119 l1 x5_1).f3)) ∧ w'.cell? ⟨(ad849.add ((x5_1).toNat * 7)).block, (ad849.add ((x5_1).toNat * 7)).off + 6, none⟩ = some (.string ((rd_T119 l1 x5_1).f4))) (ds := []) #[false, false, false, false, false, false, false, false, false, false] (by kernel_rfl) rfl rfl ⟨((HB.out.cell (World.block_lt_of_cell? w _ hw848_0)).trans hw848_0), ((HB.out.cell (World.block_lt_of_cell? w _ hw848_1)).trans hw848_1), ((HB.out.cell (World.block_lt_of_cell? w _ hw848_2)).trans hw848_2), ((HB.out.cell (World.block_lt_of_cell? w _ hw848_3)).trans hw848_3), ((HB.out.cell (World.block_lt_of_cell? w _ hw848_4)).trans hw848_4), ((HB.out.cell (World.block_lt_of_cell? w _ hw848_5)).trans hw848_5), ((HB.out.cell (World.block_lt_of_cell? w _ hw848_6)).trans hw848_6), ((HB.out.cell (World.block_lt_of_cell? w _ hw849_0)).trans hw849_0), ((HB.out.cell (World.block_lt_of_cell? w _ hw849_1)).trans hw849_1), ((HB.out.cell (World.block_lt_of_cell? w _ hw849_2)).trans hw849_2), ((HB.out.cell (World.block_lt_of_cell? w _ hw849_3)).trans hw849_3), ((HB.out.cell (World.block_lt_of_cell? w _ hw849_4)).trans hw849_4), ((HB.out.cell (World.block_lt_of_cell? w _ hw849_5)).trans hw849_5), ((HB.out.cell (World.block_lt_of_cell? w _ hw849_6)).trans hw849_6)⟩ (fun hHeld => ?_); refine with_tabW laws_eqBoxConnS.tab6 laws_eqBoxConnS.bits6 (fun HT_ HW_ => ?_)
                generalize wr.drew = w11 at HB hx848_0 hx848_1 hx848_2 hx848_3 hx848_4 hx848_5 hx848_6 hx849_0 hx849_1 hx849_2 hx849_3 hx849_4 hx849_5 hx849_6 hHeld ⊢
                refine pure_ (i := 0) (N := some 17) (v := ?_) (a' := ?_) #[true, false, false, false, false, false, false, false, false, false] rfl rfl (any_of HT_.out (by kernel_rfl)) (fun _ _ _ h => h) (Or.inl ⟨by rfl, ?_⟩) ?_ ?_
                rotate_left
                · intro w'
                  go_simp
                  with_reducible rfl
                rotate_left
                · simp only [Act.put, List.setIfInBounds_toArray, List.set_cons_zero, List.set_cons_succ, i64_w, i32_w]
                  rfl
                refine pure_ (i := 1) (N := some 18) (v := ?_) (a' := ?_) #[true, true, false, false, false, false, false, false, false, false] rfl rfl (any_of HT_.out (by kernel_rfl)) (fun _ _ _ h => h) (Or.inl ⟨by rfl, ?_⟩) ?_ ?_
                rotate_left
                · intro w'
                  go_simp
                  with_reducible rfl
                rotate_left
                · simp only [Act.put, List.setIfInBounds_toArray, List.set_cons_zero, List.set_cons_succ, i64_w, i32_w]
                  rfl
                refine pure_ (i := 2) (N := some 19) (v := ?_) (a' := ?_) #[true, true, true, false, false, false, false, false, false, false] rfl rfl (any_of HT_.out (by kernel_rfl)) (fun _ _ _ h => h) (Or.inl ⟨by rfl, ?_⟩) ?_ ?_
                rotate_left
                · intro w'
                  go_simp
                  with_reducible rfl
                rotate_left
                · simp only [Act.put, List.setIfInBounds_toArray, List.set_cons_zero, List.set_cons_succ, i64_w, i32_w]
                  rfl
                refine pure_ (i := 4) (N := some 21) (v := ?_) (a' := ?_) #[true, true, true, false, true, false, false, false, false, false] rfl rfl (any_of HT_.out (by kernel_rfl)) (fun _ _ _ h => h) (Or.inl ⟨by rfl, ?_⟩) ?_ ?_
                rotate_left
                · intro w'
                  go_simp
                  with_reducible rfl
                rotate_left
                · simp only [Act.put, List.setIfInBounds_toArray, List.set_cons_zero, List.set_cons_succ, i64_w, i32_w]
                  rfl
                refine pure_ (i := 5) (N := some 22) (v := ?_) (a' := ?_) #[true, true, true, false, true, true, false, false, false, false] rfl rfl (any_of HT_.out (by kernel_rfl)) (fun _ _ _ h => h) (Or.inl ⟨by rfl, ?_⟩) ?_ ?_
                rotate_left
                · intro w'
                  go_simp
                  with_reducible rfl
                rotate_left
                · simp only [Act.put, List.setIfInBounds_toArray, List.set_cons_zero, List.set_cons_succ, i64_w, i32_w]
                  rfl
                refine pure_ (i := 6) (N := some 23) (v := ?_) (a' := ?_) #[true, true, true, false, true, true, true, false, false, false] rfl rfl (any_of HT_.out (by kernel_rfl)) (fun _ _ _ h => h) (Or.inl ⟨by rfl, ?_⟩) ?_ ?_
                rotate_left
                · intro w'
                  go_simp
                  with_reducible rfl
                rotate_left
                · simp only [Act.put, List.setIfInBounds_toArray, List.set_cons_zero, List.set_cons_succ, i64_w, i32_w]
                  rfl
                refine take_ (i := 3) (N := some 20) (v := ?_) (a' := ?_) #[true, true, true, true, true, true, true, false, false, false] rfl rfl (take_ofW HT_.out HW_.out (by kernel_rfl)) (fun _ _ _ h => h) (Or.inl ⟨by rfl, ?_⟩) hHeld ?_ ?_
                rotate_left
                · rintro w' ⟨s0, s1, s2, s3, s4, s5, s6, s7, s8, s9, s10, s11, s12, s13⟩
                  go_simp
                  with_reducible rfl
                rotate_left
                · simp only [Act.put, List.setIfInBounds_toArray, List.set_cons_zero, List.set_cons_succ, i64_w, i32_w]
                  rfl
                refine take_ (i := 7) (N := some 24) (v := ?_) (a' := ?_) #[true, true, true, true, true, true, true, true, false, false] rfl rfl (take_ofW HT_.out HW_.out (by kernel_rfl)) (fun _ _ _ h => h) (Or.inl ⟨by rfl, ?_⟩) hHeld ?_ ?_
                rotate_left
                · rintro w' ⟨s0, s1, s2, s3, s4, s5, s6, s7, s8, s9, s10, s11, s12, s13⟩
                  go_simp
                  with_reducible rfl
                rotate_left
                · simp only [Act.put, List.setIfInBounds_toArray, List.set_cons_zero, List.set_cons_succ, i64_w, i32_w]
                  rfl
                refine one_ (i := 8) (N := some 25) #[true, true, true, true, true, true, true, true, true, false] rfl rfl (one_of HT_.out (by kernel_rfl)) (by decide) (fun K hK => ?_)
                refine goes_ Try.func98 (by kernel_rfl) rfl #[.agg #[.int .i64 ((rd_T119 l0 x5_1).f0.f0), .int .i64 ((rd_T119 l0 x5_1).f0.f1), .int .i64 ((rd_T119 l0 x5_1).f1.f0), .int .i64 ((rd_T119 l0 x5_1).f1.f1), .string ((rd_T119 l0 x5_1).f2), .string ((rd_T119 l0 x5_1).f3), .string ((rd_T119 l0 x5_1).f4)], .agg #[.int .i64 ((rd_T119 l1 x5_1).f0.f0), .int .i64 ((rd_T119 l1 x5_1).f0.f1), .int .i64 ((rd_T119 l1 x5_1).f1.f0), .int .i64 ((rd_T119 l1 x5_1).f1.f1), .string ((rd_T119 l1 x5_1).f2), .string ((rd_T119 l1 x5_1).f3), .string ((rd_T119 l1 x5_1).f4)]] (by rfl) rfl rfl (by (try simp only [List.map_toArray, List.map_cons, List.map_nil]); first | done | rfl | (simp only [List.length_drop, List.length_take]; rfl)) ?_
                with_reducible refine (laws_eqBoxConn.calls ((rd_T119 l0 x5_1).f0.f0) ((rd_T119 l0 x5_1).f0.f1) ((rd_T119 l0 x5_1).f1.f0) ((rd_T119 l0 x5_1).f1.f1) ((rd_T119 l0 x5_1).f2) ((rd_T119 l0 x5_1).f3) ((rd_T119 l0 x5_1).f4) ((rd_T119 l1 x5_1).f0.f0) ((rd_T119 l1 x5_1).f0.f1) ((rd_T119 l1 x5_1).f1.f0) ((rd_T119 l1 x5_1).f1.f1) ((rd_T119 l1 x5_1).f2) ((rd_T119 l1 x5_1).f3) ((rd_T119 l1 x5_1).f4) false _ A7.out).mono ?_
                rintro e w12 ⟨rfl, hb⟩
                refine ⟨_, rfl, ?_⟩
                have n0_ := Aside0.mk (below_step (bl HB) hb)
                clear HB
                have HB := n0_
                clear n0_
                (try clear hb)
                (try clear hb2)
                (try clear hk)
                (try clear hi)
                refine hK.out _ _ ⟨((HB.out.cell (World.block_lt_of_cell? w _ hw848_0)).trans hw848_0), ((HB.out.cell (World.block_lt_of_cell? w _ hw848_1)).trans hw848_1), ((HB.out.cell (World.block_lt_of_cell? w _ hw848_2)).trans hw848_2), ((HB.out.cell (World.block_lt_of_cell? w _ hw848_3)).trans hw848_3), ((HB.out.cell (World.block_lt_of_cell? w _ hw848_4)).trans hw848_4), ((HB.out.cell (World.block_lt_of_cell? w _ hw848_5)).trans hw848_5), ((HB.out.cell (World.block_lt_of_cell? w _ hw848_6)).trans hw848_6), ((HB.out.cell (World.block_lt_of_cell? w _ hw849_0)).trans hw849_0), ((HB.out.cell (World.block_lt_of_cell? w _ hw849_1)).trans hw849_1), ((HB.out.cell (World.block_lt_of_cell? w _ hw849_2)).trans hw849_2), ((HB.out.cell (World.block_lt_of_cell? w _ hw849_3)).trans hw849_3), ((HB.out.cell (World.block_lt_of_cell? w _ hw849_4)).trans hw849_4), ((HB.out.cell (World.block_lt_of_cell? w _ hw849_5)).trans hw849_5), ((HB.out.cell (World.block_lt_of_cell? w _ hw849_6)).trans hw849_6)⟩ (fun hHeld => ?_)
                clear hK K
                refine norm_ (a' := ?_) ?_ ?_
                rotate_left
                · show Act.put _ (some 25) _ = _
                  simp only [Act.put, List.setIfInBounds_toArray, List.set_cons_zero, List.set_cons_succ, i64_w, i32_w]
                  rfl
                refine pure_ (i := 9) (N := some 26) (v := ?_) (a' := ?_) #[true, true, true, true, true, true, true, true, true, true] rfl rfl (any_of HT_.out (by kernel_rfl)) (fun _ _ _ h => h) (Or.inl ⟨by rfl, ?_⟩) ?_ ?_
                rotate_left
                · intro w'
                  go_simp
                  with_reducible rfl
                rotate_left
                · simp only [Act.put, List.setIfInBounds_toArray, List.set_cons_zero, List.set_cons_succ, i64_w, i32_w]
                  rfl
                refine done_ (done_of HT_.out (by kernel_rfl)) ?_
                try go_wp2
                go_ret
                exact ⟨by first | rfl | (simp [errW_none, errW_some] <;> rfl) | (simp [*, errW_none, errW_some] <;> rfl), by repeat (first | (with_reducible first | exact HB.out | apply below_alloc | apply pw_below_drewN | apply below_drew1) | exact HB.out)⟩
            · rw [if_neg c6] at H
              exact absurd H (by simp)
          · rw [if_neg c5] at H
            exact absurd H (by simp)
        · rw [if_neg c4] at H
          have c4b0 : decide (x5_1 < (l0.length : Int)) = false := decide_eq_false c4
          clear c4
          obtain rfl := Option.some.inj H
          go_wp2
          go_ret
          exact ⟨by first | rfl | (simp [errW_none, errW_some] <;> rfl) | (simp [*, errW_none, errW_some] <;> rfl), by repeat (first | (with_reducible first | exact HB.out | apply below_alloc | apply pw_below_drewN | apply below_drew1) | exact HB.out)⟩
  · rw [if_neg c3] at H
    have c3b0 : ((l0.length : Int) == (l1.length : Int)) = false := beq_eq_false_iff_ne.mpr c3
    have c3b1 : ((l0.length : Int) != (l1.length : Int)) = true := bne_iff_ne.mpr c3
    have c3b2 : (l0.length == l1.length) = false := by first | simpa using c3 | (simp at c3 ⊢; omega)
    obtain rfl := Option.some.inj H
    go_enter Try.func78, Try.ntmps78
    go_wp2
    go_ret
    exact ⟨by first | rfl | (simp [errW_none, errW_some] <;> rfl) | (simp [*, errW_none, errW_some] <;> rfl), by repeat (first | (with_reducible first | exact HB.out | apply below_alloc | apply pw_below_drewN | apply below_drew1) | exact HB.out)⟩

end Go.Proofs.Ytiocgkggegahhaa.P

-- written by hw.py for this claim
namespace Go.Proofs.Ytiocgkggegahhaa.P
open Go.RowKit Go.Proofs.YtiocgkggegahhaaUFnExactBoxNew.PrintWords Go.Proofs.YtiocgkggegahhaaUFnExactBoxNew.PrintLast Go.Proofs.YtiocgkggegahhaaUFnExactBoxNew.PrintMore
attribute [local go_sem] max2_int min2_int max_two min_two max_three min_three max_four min_four
set_option linter.unusedVariables false
set_option linter.unusedSimpArgs false

/-! ### laws_eqBoxBox: function 40 -/
def laws_eqBoxBox.f (k : Nat) (l0_0 : List (S24)) (l0_1 : List (S29)) (l0_2 : List (S119)) (l1_0 : List (S24)) (l1_1 : List (S29)) (l1_2 : List (S119)) : Option (Bool) := (laws_eqRulRuleS.f k l0_0 l1_0).bind fun t853 => (if t853 = true then ((laws_eqMapTab.f k l0_1 l1_1).bind fun t854 => (if t854 = true then ((laws_eqBoxConnS.f k l0_2 l1_2).bind fun t855 => (if t855 = true then (some true) else (some false))) else (some false))) else (some false))
theorem laws_eqBoxBox.mono : ∀ a0 a1 a2 a3 a4 a5 k, LeO (laws_eqBoxBox.f k a0 a1 a2 a3 a4 a5) (laws_eqBoxBox.f (k + 1) a0 a1 a2 a3 a4 a5) := by
  intro a0 a1 a2 a3 a4 a5 k
  unfold laws_eqBoxBox.f
  repeat' first
      | (with_reducible exact laws_eqBoxConnS.mono _ _ _)
      | (with_reducible exact laws_eqMapTab.mono _ _ _)
      | (with_reducible exact laws_eqRulRuleS.mono _ _ _)
      | (with_reducible exact LeO.refl _)
      | (with_reducible exact LeO.none _)
      | (with_reducible refine LeO.ite ?_ ?_)
      | (with_reducible refine LeO.bind ?_ (fun _ => ?_))
      | exact laws_eqBoxConnS.mono _ _ _
      | exact laws_eqMapTab.mono _ _ _
      | exact laws_eqRulRuleS.mono _ _ _
      | exact LeO.none _
      | refine LeO.ite ?_ ?_
      | refine LeO.bind ?_ (fun _ => ?_)
set_option maxHeartbeats 8000000 in
set_option maxRecDepth 100000 in
theorem laws_eqBoxBox.calls (k : Nat) (A0_0 : Option Addr) (c0_0 : Nat) (l0_0 : List (S24)) (A0_1 : Option Addr) (c0_1 : Nat) (l0_1 : List (S29)) (A0_2 : Option Addr) (c0_2 : Nat) (l0_2 : List (S119)) (A1_0 : Option Addr) (c1_0 : Nat) (l1_0 : List (S24)) (A1_1 : Option Addr) (c1_1 : Nat) (l1_1 : List (S29)) (A1_2 : Option Addr) (c1_2 : Nat) (l1_2 : List (S119)) (r : Bool) (w : World) (hr0_0 : Kd.C k24 w A0_0 l0_0.length l0_0) (hc0_0 : l0_0.length ≤ c0_0) (hr0_1 : Kd.C k29 w A0_1 l0_1.length l0_1) (hc0_1 : l0_1.length ≤ c0_1) (hr0_2 : Kd.C k119 w A0_2 l0_2.length l0_2) (hc0_2 : l0_2.length ≤ c0_2) (hr1_0 : Kd.C k24 w A1_0 l1_0.length l1_0) (hc1_0 : l1_0.length ≤ c1_0) (hr1_1 : Kd.C k29 w A1_1 l1_1.length l1_1) (hc1_1 : l1_1.length ≤ c1_1) (hr1_2 : Kd.C k119 w A1_2 l1_2.length l1_2) (hc1_2 : l1_2.length ≤ c1_2) (h : laws_eqBoxBox.f k l0_0 l0_1 l0_2 l1_0 l1_1 l1_2 = some r) :
    Calls Try.prog 40 #[.agg #[.slice A0_0 l0_0.length c0_0, .slice A0_1 l0_1.length c0_1, .slice A0_2 l0_2.length c0_2], .agg #[.slice A1_0 l1_0.length c1_0, .slice A1_1 l1_1.length c1_1, .slice A1_2 l1_2.length c1_2]] w fun e w' => e = .returned (.bool r) ∧ Below w.heap.size w w' := by
  have hu66 := Try.underlying66
  have hu45 := Try.underlying45
  have HR0_0 := Aside0.mk hr0_0
  have HC0_0 := Aside0.mk hc0_0
  clear hr0_0 hc0_0
  have HR0_1 := Aside0.mk hr0_1
  have HC0_1 := Aside0.mk hc0_1
  clear hr0_1 hc0_1
  have HR0_2 := Aside0.mk hr0_2
  have HC0_2 := Aside0.mk hc0_2
  clear hr0_2 hc0_2
  have HR1_0 := Aside0.mk hr1_0
  have HC1_0 := Aside0.mk hc1_0
  clear hr1_0 hc1_0
  have HR1_1 := Aside0.mk hr1_1
  have HC1_1 := Aside0.mk hc1_1
  clear hr1_1 hc1_1
  have HR1_2 := Aside0.mk hr1_2
  have HC1_2 := Aside0.mk hc1_2
  clear hr1_2 hc1_2
  have HB := Aside0.mk (Below.refl w.heap.size w)
  have H : ((laws_eqRulRuleS.f k l0_0 l1_0).bind fun t853 => (if t853 = true then ((laws_eqMapTab.f k l0_1 l1_1).bind fun t854 => (if t854 = true then ((laws_eqBoxConnS.f k l0_2 l1_2).bind fun t855 => (if t855 = true then (some true) else (some false))) else (some false))) else (some false))) = some r := h
  clear h
  replace H := Option.bind_eq_some_iff.mp H
  obtain ⟨t853, A30, H⟩ := H
  replace H : (if t853 = true then ((laws_eqMapTab.f k l0_1 l1_1).bind fun t854 => (if t854 = true then ((laws_eqBoxConnS.f k l0_2 l1_2).bind fun t855 => (if t855 = true then (some true) else (some false))) else (some false))) else (some false)) = some r := H
  have A3 := Aside0.mk A30
  clear A30
  by_cases c4 : t853 = true
  · subst c4
    have H1 : ((laws_eqMapTab.f k l0_1 l1_1).bind fun t854 => (if t854 = true then ((laws_eqBoxConnS.f k l0_2 l1_2).bind fun t855 => (if t855 = true then (some true) else (some false))) else (some false))) = some r := by rw [if_pos rfl] at H; exact H
    clear H
    have H := H1
    clear H1
    replace H := Option.bind_eq_some_iff.mp H
    obtain ⟨t854, A50, H⟩ := H
    replace H : (if t854 = true then ((laws_eqBoxConnS.f k l0_2 l1_2).bind fun t855 => (if t855 = true then (some true) else (some false))) else (some false)) = some r := H
    have A5 := Aside0.mk A50
    clear A50
    by_cases c6 : t854 = true
    · subst c6
      have H1 : ((laws_eqBoxConnS.f k l0_2 l1_2).bind fun t855 => (if t855 = true then (some true) else (some false))) = some r := by rw [if_pos rfl] at H; exact H
      clear H
      have H := H1
      clear H1
      replace H := Option.bind_eq_some_iff.mp H
      obtain ⟨t855, A70, H⟩ := H
      replace H : (if t855 = true then (some true) else (some false)) = some r := H
      have A7 := Aside0.mk A70
      clear A70
      by_cases c8 : t855 = true
      · subst c8
        have H1 : (some true) = some r := by rw [if_pos rfl] at H; exact H
        clear H
        have H := H1
        clear H1
        obtain rfl := Option.some.inj H
        go_enter Try.func40, Try.ntmps40
        go_wp2_with (first | ((with_reducible refine gate_dst (N := 2) rfl ?_); refine box_event ?hg (N := 2) ?hd (cs := #[.slice A0_0 l0_0.length c0_0, .slice A0_1 l0_1.length c0_1, .slice A0_2 l0_2.length c0_2]) (t := 66) ?hr ?_; (case hd => rfl); (case hg => rfl); (case hr => first | (go_simp; done) | (go_simp; rfl)); intro gb851 hg w9 hbox hb; have n0_ := Aside0.mk (below_step (bl HB) hb); have n1_ := Aside0.mk (hbox); have n2_ := Aside0.mk ((by rw [hg]; exact (below_size (bl HB)) : w.heap.size ≤ gb851)); have n3_ := Aside0.mk ((by rw [hg]; exact (below_size (bl HB)) : w.heap.size ≤ gb851)); clear HB; have HB := n0_; have BK851 := n1_; have GW851 := n2_; have GE851 := n3_; clear n0_ n1_ n2_ n3_; clear hb hbox hg) | ((with_reducible refine gate_dst (N := 3) rfl ?_); refine box_event ?hg (N := 3) ?hd (cs := #[.slice A1_0 l1_0.length c1_0, .slice A1_1 l1_1.length c1_1, .slice A1_2 l1_2.length c1_2]) (t := 66) ?hr ?_; (case hd => rfl); (case hg => rfl); (case hr => first | (go_simp; done) | (go_simp; rfl)); intro gb852 hg w10 hbox hb; have n0_ := bkB BK851 hb; have n1_ := Aside0.mk (below_step (bl HB) hb); have n2_ := Aside0.mk (hbox); have n3_ := Aside0.mk ((by rw [hg]; exact (below_size (bl HB)) : w.heap.size ≤ gb852)); have n4_ := Aside0.mk ((by rw [hg]; exact (below_size (bl HB)) : w.heap.size ≤ gb852)); have n5_ := Aside0.mk ((by rw [hg]; exact Nat.ne_of_lt (bkL BK851) : gb851 ≠ gb852)); have n6_ := Aside0.mk ((by rw [hg]; exact Nat.ne_of_gt (bkL BK851) : gb852 ≠ gb851)); clear BK851; clear HB; have BK851 := n0_; have HB := n1_; have BK852 := n2_; have GW852 := n3_; have GE852 := n4_; have NB851_852 := n5_; have NB852_851 := n6_; clear n0_ n1_ n2_ n3_ n4_ n5_ n6_; clear hb hbox hg; have hnb11 := NB851_852.out; have hnc11 := NB852_851.out; have hcz12_0 : w10.cell? ⟨gb851, 0, none⟩ = some (.slice A0_0 l0_0.length c0_0) := (blk_cell BK851.out 0).trans rfl; have hcz12_1 : w10.cell? ⟨gb851, 1, none⟩ = some (.slice A0_1 l0_1.length c0_1) := (blk_cell BK851.out 1).trans rfl; have hcz12_2 : w10.cell? ⟨gb851, 2, none⟩ = some (.slice A0_2 l0_2.length c0_2) := (blk_cell BK851.out 2).trans rfl; have hfz12_0 := blk_frozen BK851.out 0; have hfz12_1 := blk_frozen BK851.out 1; have hfz12_2 := blk_frozen BK851.out 2; have hcz13_0 : w10.cell? ⟨gb852, 0, none⟩ = some (.slice A1_0 l1_0.length c1_0) := (blk_cell BK852.out 0).trans rfl; have hcz13_1 : w10.cell? ⟨gb852, 1, none⟩ = some (.slice A1_1 l1_1.length c1_1) := (blk_cell BK852.out 1).trans rfl; have hcz13_2 : w10.cell? ⟨gb852, 2, none⟩ = some (.slice A1_2 l1_2.length c1_2) := (blk_cell BK852.out 2).trans rfl; have hfz13_0 := blk_frozen BK852.out 0; have hfz13_1 := blk_frozen BK852.out 1; have hfz13_2 := blk_frozen BK852.out 2) | ((with_reducible refine gate_callee (f := 20) rfl ?_); refine goesL_ (some 9) rfl rfl Try.func20 (by kernel_rfl) rfl #[.slice A0_0 l0_0.length c0_0, .slice A1_0 l1_0.length c1_0] rfl (by (try simp only [List.map_toArray, List.map_cons, List.map_nil]); first | done | rfl | (simp only [List.length_drop, List.length_take]; rfl)) ?_; (with_reducible refine (laws_eqRulRuleS.calls k _ _ l0_0 _ _ l1_0 true _ ?side1 ?side2 ?side3 ?side4 A3.out).mono ?_); (case side1 => repeat (first | exact (Kd.C_below HR0_0.out HB.out) | (with_reducible refine Kd.C_alloc ?_ _) | (with_reducible refine Kd.C_drewN ?_ _) | (with_reducible refine Kd.C_drew ?_))); (case side2 => exact HC0_0.out); (case side3 => repeat (first | exact (Kd.C_below HR1_0.out HB.out) | (with_reducible refine Kd.C_alloc ?_ _) | (with_reducible refine Kd.C_drewN ?_ _) | (with_reducible refine Kd.C_drew ?_))); (case side4 => exact HC1_0.out); rintro e w14 ⟨rfl, hb⟩; refine ⟨_, rfl, ?_⟩; have n0_ := bkB BK851 hb; have n1_ := bkB BK852 hb; have n2_ := Aside0.mk (below_step (bl HB) hb); clear BK851; clear BK852; clear HB; have BK851 := n0_; have BK852 := n1_; have HB := n2_; clear n0_ n1_ n2_; (try clear hb); (try clear hb2); (try clear hk); (try clear hi); have hcz15_0 : w14.cell? ⟨gb851, 0, none⟩ = some (.slice A0_0 l0_0.length c0_0) := (blk_cell BK851.out 0).trans rfl; have hcz15_1 : w14.cell? ⟨gb851, 1, none⟩ = some (.slice A0_1 l0_1.length c0_1) := (blk_cell BK851.out 1).trans rfl; have hcz15_2 : w14.cell? ⟨gb851, 2, none⟩ = some (.slice A0_2 l0_2.length c0_2) := (blk_cell BK851.out 2).trans rfl; have hfz15_0 := blk_frozen BK851.out 0; have hfz15_1 := blk_frozen BK851.out 1; have hfz15_2 := blk_frozen BK851.out 2; have hcz16_0 : w14.cell? ⟨gb852, 0, none⟩ = some (.slice A1_0 l1_0.length c1_0) := (blk_cell BK852.out 0).trans rfl; have hcz16_1 : w14.cell? ⟨gb852, 1, none⟩ = some (.slice A1_1 l1_1.length c1_1) := (blk_cell BK852.out 1).trans rfl; have hcz16_2 : w14.cell? ⟨gb852, 2, none⟩ = some (.slice A1_2 l1_2.length c1_2) := (blk_cell BK852.out 2).trans rfl; have hfz16_0 := blk_frozen BK852.out 0; have hfz16_1 := blk_frozen BK852.out 1; have hfz16_2 := blk_frozen BK852.out 2) | ((with_reducible refine gate_callee (f := 31) rfl ?_); refine goesL_ (some 15) rfl rfl Try.func31 (by kernel_rfl) rfl #[.agg #[.slice A0_1 l0_1.length c0_1], .agg #[.slice A1_1 l1_1.length c1_1]] rfl (by (try simp only [List.map_toArray, List.map_cons, List.map_nil]); first | done | rfl | (simp only [List.length_drop, List.length_take]; rfl)) ?_; (with_reducible refine (laws_eqMapTab.calls k _ _ l0_1 _ _ l1_1 true _ ?side1 ?side2 ?side3 ?side4 A5.out).mono ?_); (case side1 => repeat (first | exact (Kd.C_below HR0_1.out HB.out) | (with_reducible refine Kd.C_alloc ?_ _) | (with_reducible refine Kd.C_drewN ?_ _) | (with_reducible refine Kd.C_drew ?_))); (case side2 => exact HC0_1.out); (case side3 => repeat (first | exact (Kd.C_below HR1_1.out HB.out) | (with_reducible refine Kd.C_alloc ?_ _) | (with_reducible refine Kd.C_drewN ?_ _) | (with_reducible refine Kd.C_drew ?_))); (case side4 => exact HC1_1.out); rintro e w17 ⟨rfl, hb⟩; refine ⟨_, rfl, ?_⟩; have n0_ := bkB BK851 hb; have n1_ := bkB BK852 hb; have n2_ := Aside0.mk (below_step (bl HB) hb); clear BK851; clear BK852; clear HB; have BK851 := n0_; have BK852 := n1_; have HB := n2_; clear n0_ n1_ n2_; (try clear hb); (try clear hb2); (try clear hk); (try clear hi); have hcz18_0 : w17.cell? ⟨gb851, 0, none⟩ = some (.slice A0_0 l0_0.length c0_0) := (blk_cell BK851.out 0).trans rfl; have hcz18_1 : w17.cell? ⟨gb851, 1, none⟩ = some (.slice A0_1 l0_1.length c0_1) := (blk_cell BK851.out 1).trans rfl; have hcz18_2 : w17.cell? ⟨gb851, 2, none⟩ = some (.slice A0_2 l0_2.length c0_2) := (blk_cell BK851.out 2).trans rfl; have hfz18_0 := blk_frozen BK851.out 0; have hfz18_1 := blk_frozen BK851.out 1; have hfz18_2 := blk_frozen BK851.out 2; have hcz19_0 : w17.cell? ⟨gb852, 0, none⟩ = some (.slice A1_0 l1_0.length c1_0) := (blk_cell BK852.out 0).trans rfl; have hcz19_1 : w17.cell? ⟨gb852, 1, none⟩ = some (.slice A1_1 l1_1.length c1_1) := (blk_cell BK852.out 1).trans rfl; have hcz19_2 : w17.cell? ⟨gb852, 2, none⟩ = some (.slice A1_2 l1_2.length c1_2) := (blk_cell BK852.out 2).trans rfl; have hfz19_0 := blk_frozen BK852.out 0; have hfz19_1 := blk_frozen BK852.out 1; have hfz19_2 := blk_frozen BK852.out 2) | ((with_reducible refine gate_callee (f := 78) rfl ?_); refine goesL_ (some 21) rfl rfl Try.func78 (by kernel_rfl) rfl #[.slice A0_2 l0_2.length c0_2, .slice A1_2 l1_2.length c1_2] rfl (by (try simp only [List.map_toArray, List.map_cons, List.map_nil]); first | done | rfl | (simp only [List.length_drop, List.length_take]; rfl)) ?_; (with_reducible refine (laws_eqBoxConnS.calls k _ _ l0_2 _ _ l1_2 true _ ?side1 ?side2 ?side3 ?side4 A7.out).mono ?_); (case side1 => repeat (first | exact (Kd.C_below HR0_2.out HB.out) | (with_reducible refine Kd.C_alloc ?_ _) | (with_reducible refine Kd.C_drewN ?_ _) | (with_reducible refine Kd.C_drew ?_))); (case side2 => exact HC0_2.out); (case side3 => repeat (first | exact (Kd.C_below HR1_2.out HB.out) | (with_reducible refine Kd.C_alloc ?_ _) | (with_reducible refine Kd.C_drewN ?_ _) | (with_reducible refine Kd.C_drew ?_))); (case side4 => exact HC1_2.out); rintro e w20 ⟨rfl, hb⟩; refine ⟨_, rfl, ?_⟩; have n0_ := bkB BK851 hb; have n1_ := bkB BK852 hb; have n2_ := Aside0.mk (below_step (bl HB) hb); clear BK851; clear BK852; clear HB; have BK851 := n0_; have BK852 := n1_; have HB := n2_; clear n0_ n1_ n2_; (try clear hb); (try clear hb2); (try clear hk); (try clear hi)))
        go_ret
        exact ⟨by first | rfl | (simp [errW_none, errW_some] <;> rfl) | (simp [*, errW_none, errW_some] <;> rfl), by repeat (first | (with_reducible first | exact HB.out | apply below_alloc | apply pw_below_drewN | apply below_drew1 | refine below_set ?_ GE851.out | refine below_set ?_ GE852.out) | exact HB.out)⟩
      · replace c8 := Bool.eq_false_iff.mpr c8
        subst c8
        have H1 : (some false) = some r := by rw [if_neg (show ¬ (false = true) by decide)] at H; exact H
        clear H
        have H := H1
        clear H1
        obtain rfl := Option.some.inj H
        go_enter Try.func40, Try.ntmps40
        go_wp2_with (first | ((with_reducible refine gate_dst (N := 2) rfl ?_); refine box_event ?hg (N := 2) ?hd (cs := #[.slice A0_0 l0_0.length c0_0, .slice A0_1 l0_1.length c0_1, .slice A0_2 l0_2.length c0_2]) (t := 66) ?hr ?_; (case hd => rfl); (case hg => rfl); (case hr => first | (go_simp; done) | (go_simp; rfl)); intro gb851 hg w21 hbox hb; have n0_ := Aside0.mk (below_step (bl HB) hb); have n1_ := Aside0.mk (hbox); have n2_ := Aside0.mk ((by rw [hg]; exact (below_size (bl HB)) : w.heap.size ≤ gb851)); have n3_ := Aside0.mk ((by rw [hg]; exact (below_size (bl HB)) : w.heap.size ≤ gb851)); clear HB; have HB := n0_; have BK851 := n1_; have GW851 := n2_; have GE851 := n3_; clear n0_ n1_ n2_ n3_; clear hb hbox hg) | ((with_reducible refine gate_dst (N := 3) rfl ?_); refine box_event ?hg (N := 3) ?hd (cs := #[.slice A1_0 l1_0.length c1_0, .slice A1_1 l1_1.length c1_1, .slice A1_2 l1_2.length c1_2]) (t := 66) ?hr ?_; (case hd => rfl); (case hg => rfl); (case hr => first | (go_simp; done) | (go_simp; rfl)); intro gb852 hg w22 hbox hb; have n0_ := bkB BK851 hb; have n1_ := Aside0.mk (below_step (bl HB) hb); have n2_ := Aside0.mk (hbox); have n3_ := Aside0.mk ((by rw [hg]; exact (below_size (bl HB)) : w.heap.size ≤ gb852)); have n4_ := Aside0.mk ((by rw [hg]; exact (below_size (bl HB)) : w.heap.size ≤ gb852)); have n5_ := Aside0.mk ((by rw [hg]; exact Nat.ne_of_lt (bkL BK851) : gb851 ≠ gb852)); have n6_ := Aside0.mk ((by rw [hg]; exact Nat.ne_of_gt (bkL BK851) : gb852 ≠ gb851)); clear BK851; clear HB; have BK851 := n0_; have HB := n1_; have BK852 := n2_; have GW852 := n3_; have GE852 := n4_; have NB851_852 := n5_; have NB852_851 := n6_; clear n0_ n1_ n2_ n3_ n4_ n5_ n6_; clear hb hbox hg; have hnb23 := NB851_852.out; have hnc23 := NB852_851.out; have hcz24_0 : w22.cell? ⟨gb851, 0, none⟩ = some (.slice A0_0 l0_0.length c0_0) := (blk_cell BK851.out 0).trans rfl; have hcz24_1 : w22.cell? ⟨gb851, 1, none⟩ = some (.slice A0_1 l0_1.length c0_1) := (blk_cell BK851.out 1).trans rfl; have hcz24_2 : w22.cell? ⟨gb851, 2, none⟩ = some (.slice A0_2 l0_2.length c0_2) := (blk_cell BK851.out 2).trans rfl; have hfz24_0 := blk_frozen BK851.out 0; have hfz24_1 := blk_frozen BK851.out 1; have hfz24_2 := blk_frozen BK851.out 2; have hcz25_0 : w22.cell? ⟨gb852, 0, none⟩ = some (.slice A1_0 l1_0.length c1_0) := (blk_cell BK852.out 0).trans rfl; have hcz25_1 : w22.cell? ⟨gb852, 1, none⟩ = some (.slice A1_1 l1_1.length c1_1) := (blk_cell BK852.out 1).trans rfl; have hcz25_2 : w22.cell? ⟨gb852, 2, none⟩ = some (.slice A1_2 l1_2.length c1_2) := (blk_cell BK852.out 2).trans rfl; have hfz25_0 := blk_frozen BK852.out 0; have hfz25_1 := blk_frozen BK852.out 1; have hfz25_2 := blk_frozen BK852.out 2) | ((with_reducible refine gate_callee (f := 20) rfl ?_); refine goesL_ (some 9) rfl rfl Try.func20 (by kernel_rfl) rfl #[.slice A0_0 l0_0.length c0_0, .slice A1_0 l1_0.length c1_0] rfl (by (try simp only [List.map_toArray, List.map_cons, List.map_nil]); first | done | rfl | (simp only [List.length_drop, List.length_take]; rfl)) ?_; (with_reducible refine (laws_eqRulRuleS.calls k _ _ l0_0 _ _ l1_0 true _ ?side1 ?side2 ?side3 ?side4 A3.out).mono ?_); (case side1 => repeat (first | exact (Kd.C_below HR0_0.out HB.out) | (with_reducible refine Kd.C_alloc ?_ _) | (with_reducible refine Kd.C_drewN ?_ _) | (with_reducible refine Kd.C_drew ?_))); (case side2 => exact HC0_0.out); (case side3 => repeat (first | exact (Kd.C_below HR1_0.out HB.out) | (with_reducible refine Kd.C_alloc ?_ _) | (with_reducible refine Kd.C_drewN ?_ _) | (with_reducible refine Kd.C_drew ?_))); (case side4 => exact HC1_0.out); rintro e w26 ⟨rfl, hb⟩; refine ⟨_, rfl, ?_⟩; have n0_ := bkB BK851 hb; have n1_ := bkB BK852 hb; have n2_ := Aside0.mk (below_step (bl HB) hb); clear BK851; clear BK852; clear HB; have BK851 := n0_; have BK852 := n1_; have HB := n2_; clear n0_ n1_ n2_; (try clear hb); (try clear hb2); (try clear hk); (try clear hi); have hcz27_0 : w26.cell? ⟨gb851, 0, none⟩ = some (.slice A0_0 l0_0.length c0_0) := (blk_cell BK851.out 0).trans rfl; have hcz27_1 : w26.cell? ⟨gb851, 1, none⟩ = some (.slice A0_1 l0_1.length c0_1) := (blk_cell BK851.out 1).trans rfl; have hcz27_2 : w26.cell? ⟨gb851, 2, none⟩ = some (.slice A0_2 l0_2.length c0_2) := (blk_cell BK851.out 2).trans rfl; have hfz27_0 := blk_frozen BK851.out 0; have hfz27_1 := blk_frozen BK851.out 1; have hfz27_2 := blk_frozen BK851.out 2; have hcz28_0 : w26.cell? ⟨gb852, 0, none⟩ = some (.slice A1_0 l1_0.length c1_0) := (blk_cell BK852.out 0).trans rfl; have hcz28_1 : w26.cell? ⟨gb852, 1, none⟩ = some (.slice A1_1 l1_1.length c1_1) := (blk_cell BK852.out 1).trans rfl; have hcz28_2 : w26.cell? ⟨gb852, 2, none⟩ = some (.slice A1_2 l1_2.length c1_2) := (blk_cell BK852.out 2).trans rfl; have hfz28_0 := blk_frozen BK852.out 0; have hfz28_1 := blk_frozen BK852.out 1; have hfz28_2 := blk_frozen BK852.out 2) | ((with_reducible refine gate_callee (f := 31) rfl ?_); refine goesL_ (some 15) rfl rfl Try.func31 (by kernel_rfl) rfl #[.agg #[.slice A0_1 l0_1.length c0_1], .agg #[.slice A1_1 l1_1.length c1_1]] rfl (by (try simp only [List.map_toArray, List.map_cons, List.map_nil]); first | done | rfl | (simp only [List.length_drop, List.length_take]; rfl)) ?_; (with_reducible refine (laws_eqMapTab.calls k _ _ l0_1 _ _ l1_1 true _ ?side1 ?side2 ?side3 ?side4 A5.out).mono ?_); (case side1 => repeat (first | exact (Kd.C_below HR0_1.out HB.out) | (with_reducible refine Kd.C_alloc ?_ _) | (with_reducible refine Kd.C_drewN ?_ _) | (with_reducible refine Kd.C_drew ?_))); (case side2 => exact HC0_1.out); (case side3 => repeat (first | exact (Kd.C_below HR1_1.out HB.out) | (with_reducible refine Kd.C_alloc ?_ _) | (with_reducible refine Kd.C_drewN ?_ _) | (with_reducible refine Kd.C_drew ?_))); (case side4 => exact HC1_1.out); rintro e w29 ⟨rfl, hb⟩; refine ⟨_, rfl, ?_⟩; have n0_ := bkB BK851 hb; have n1_ := bkB BK852 hb; have n2_ := Aside0.mk (below_step (bl HB) hb); clear BK851; clear BK852; clear HB; have BK851 := n0_; have BK852 := n1_; have HB := n2_; clear n0_ n1_ n2_; (try clear hb); (try clear hb2); (try clear hk); (try clear hi); have hcz30_0 : w29.cell? ⟨gb851, 0, none⟩ = some (.slice A0_0 l0_0.length c0_0) := (blk_cell BK851.out 0).trans rfl; have hcz30_1 : w29.cell? ⟨gb851, 1, none⟩ = some (.slice A0_1 l0_1.length c0_1) := (blk_cell BK851.out 1).trans rfl; have hcz30_2 : w29.cell? ⟨gb851, 2, none⟩ = some (.slice A0_2 l0_2.length c0_2) := (blk_cell BK851.out 2).trans rfl; have hfz30_0 := blk_frozen BK851.out 0; have hfz30_1 := blk_frozen BK851.out 1; have hfz30_2 := blk_frozen BK851.out 2; have hcz31_0 : w29.cell? ⟨gb852, 0, none⟩ = some (.slice A1_0 l1_0.length c1_0) := (blk_cell BK852.out 0).trans rfl; have hcz31_1 : w29.cell? ⟨gb852, 1, none⟩ = some (.slice A1_1 l1_1.length c1_1) := (blk_cell BK852.out 1).trans rfl; have hcz31_2 : w29.cell? ⟨gb852, 2, none⟩ = some (.slice A1_2 l1_2.length c1_2) := (blk_cell BK852.out 2).trans rfl; have hfz31_0 := blk_frozen BK852.out 0; have hfz31_1 := blk_frozen BK852.out 1; have hfz31_2 := blk_frozen BK852.out 2) | ((with_reducible refine gate_callee (f := 78) rfl ?_); refine goesL_ (some 21) rfl rfl Try.func78 (by kernel_rfl) rfl #[.slice A0_2 l0_2.length c0_2, .slice A1_2 l1_2.length c1_2] rfl (by (try simp only [List.map_toArray, List.map_cons, List.map_nil]); first | done | rfl | (simp only [List.length_drop, List.length_take]; rfl)) ?_; (with_reducible refine (laws_eqBoxConnS.calls k _ _ l0_2 _ _ l1_2 false _ ?side1 ?side2 ?side3 ?side4 A7.out).mono ?_); (case side1 => repeat (first | exact (Kd.C_below HR0_2.out HB.out) | (with_reducible refine Kd.C_alloc ?_ _) | (with_reducible refine Kd.C_drewN ?_ _) | (with_reducible refine Kd.C_drew ?_))); (case side2 => exact HC0_2.out); (case side3 => repeat (first | exact (Kd.C_below HR1_2.out HB.out) | (with_reducible refine Kd.C_alloc ?_ _) | (with_reducible refine Kd.C_drewN ?_ _) | (with_reducible refine Kd.C_drew ?_))); (case side4 => exact HC1_2.out); rintro e w32 ⟨rfl, hb⟩; refine ⟨_, rfl, ?_⟩; have n0_ := bkB BK851 hb; have n1_ := bkB BK852 hb; have n2_ := Aside0.mk (below_step (bl HB) hb); clear BK851; clear BK852; clear HB; have BK851 := n0_; have BK852 := n1_; have HB := n2_; clear n0_ n1_ n2_; (try clear hb); (try clear hb2); (try clear hk); (try clear hi)))
        go_ret
        exact ⟨by first | rfl | (simp [errW_none, errW_some] <;> rfl) | (simp [*, errW_none, errW_some] <;> rfl), by repeat (first | (with_reducible first | exact HB.out | apply below_alloc | apply pw_below_drewN | apply below_drew1 | refine below_set ?_ GE851.out | refine below_set ?_ GE852.out) | exact HB.out)⟩
    · replace c6 := Bool.eq_false_iff.mpr c6
      subst c6
      have H1 : (some false) = some r := by rw [if_neg (show ¬ (false = true) by decide)] at H; exact H
      clear H
      have H := H1
      clear H1
      obtain rfl := Option.some.inj H
      go_enter Try.func40, Try.ntmps40
      go_wp2_with (first | ((with_reducible refine gate_dst (N := 2) rfl ?_); refine box_event ?hg (N := 2) ?hd (cs := #[.slice A0_0 l0_0.length c0_0, .slice A0_1 l0_1.length c0_1, .slice A0_2 l0_2.length c0_2]) (t := 66) ?hr ?_; (case hd => rfl); (case hg => rfl); (case hr => first | (go_simp; done) | (go_simp; rfl)); intro gb851 hg w33 hbox hb; have n0_ := Aside0.mk (below_step (bl HB) hb); have n1_ := Aside0.mk (hbox); have n2_ := Aside0.mk ((by rw [hg]; exact (below_size (bl HB)) : w.heap.size ≤ gb851)); have n3_ := Aside0.mk ((by rw [hg]; exact (below_size (bl HB)) : w.heap.size ≤ gb851)); clear HB; have HB := n0_; have BK851 := n1_; have GW851 := n2_; have GE851 := n3_; clear n0_ n1_ n2_ n3_; clear hb hbox hg) | ((with_reducible refine gate_dst (N := 3) rfl ?_); refine box_event ?hg (N := 3) ?hd (cs := #[.slice A1_0 l1_0.length c1_0, .slice A1_1 l1_1.length c1_1, .slice A1_2 l1_2.length c1_2]) (t := 66) ?hr ?_; (case hd => rfl); (case hg => rfl); (case hr => first | (go_simp; done) | (go_simp; rfl)); intro gb852 hg w34 hbox hb; have n0_ := bkB BK851 hb; have n1_ := Aside0.mk (below_step (bl HB) hb); have n2_ := Aside0.mk (hbox); have n3_ := Aside0.mk ((by rw [hg]; exact (below_size (bl HB)) : w.heap.size ≤ gb852)); have n4_ := Aside0.mk ((by rw [hg]; exact (below_size (bl HB)) : w.heap.size ≤ gb852)); have n5_ := Aside0.mk ((by rw [hg]; exact Nat.ne_of_lt (bkL BK851) : gb851 ≠ gb852)); have n6_ := Aside0.mk ((by rw [hg]; exact Nat.ne_of_gt (bkL BK851) : gb852 ≠ gb851)); clear BK851; clear HB; have BK851 := n0_; have HB := n1_; have BK852 := n2_; have GW852 := n3_; have GE852 := n4_; have NB851_852 := n5_; have NB852_851 := n6_; clear n0_ n1_ n2_ n3_ n4_ n5_ n6_; clear hb hbox hg; have hnb35 := NB851_852.out; have hnc35 := NB852_851.out; have hcz36_0 : w34.cell? ⟨gb851, 0, none⟩ = some (.slice A0_0 l0_0.length c0_0) := (blk_cell BK851.out 0).trans rfl; have hcz36_1 : w34.cell? ⟨gb851, 1, none⟩ = some (.slice A0_1 l0_1.length c0_1) := (blk_cell BK851.out 1).trans rfl; have hcz36_2 : w34.cell? ⟨gb851, 2, none⟩ = some (.slice A0_2 l0_2.length c0_2) := (blk_cell BK851.out 2).trans rfl; have hfz36_0 := blk_frozen BK851.out 0; have hfz36_1 := blk_frozen BK851.out 1; have hfz36_2 := blk_frozen BK851.out 2; have hcz37_0 : w34.cell? ⟨gb852, 0, none⟩ = some (.slice A1_0 l1_0.length c1_0) := (blk_cell BK852.out 0).trans rfl; have hcz37_1 : w34.cell? ⟨gb852, 1, none⟩ = some (.slice A1_1 l1_1.length c1_1) := (blk_cell BK852.out 1).trans rfl; have hcz37_2 : w34.cell? ⟨gb852, 2, none⟩ = some (.slice A1_2 l1_2.length c1_2) := (blk_cell BK852.out 2).trans rfl; have hfz37_0 := blk_frozen BK852.out 0; have hfz37_1 := blk_frozen BK852.out 1; have hfz37_2 := blk_frozen BK852.out 2) | ((with_reducible refine gate_callee (f := 20) rfl ?_); refine goesL_ (some 9) rfl rfl Try.func20 (by kernel_rfl) rfl #[.slice A0_0 l0_0.length c0_0, .slice A1_0 l1_0.length c1_0] rfl (by (try simp only [List.map_toArray, List.map_cons, List.map_nil]); first | done | rfl | (simp only [List.length_drop, List.length_take]; rfl)) ?_; (with_reducible refine (laws_eqRulRuleS.calls k _ _ l0_0 _ _ l1_0 true _ ?side1 ?side2 ?side3 ?side4 A3.out).mono ?_); (case side1 => repeat (first | exact (Kd.C_below HR0_0.out HB.out) | (with_reducible refine Kd.C_alloc ?_ _) | (with_reducible refine Kd.C_drewN ?_ _) | (with_reducible refine Kd.C_drew ?_))); (case side2 => exact HC0_0.out); (case side3 => repeat (first | exact (Kd.C_below HR1_0.out HB.out) | (with_reducible refine Kd.C_alloc ?_ _) | (with_reducible refine Kd.C_drewN ?_ _) | (with_reducible refine Kd.C_drew ?_))); (case side4 => exact HC1_0.out); rintro e w38 ⟨rfl, hb⟩; refine ⟨_, rfl, ?_⟩; have n0_ := bkB BK851 hb; have n1_ := bkB BK852 hb; have n2_ := Aside0.mk (below_step (bl HB) hb); clear BK851; clear BK852; clear HB; have BK851 := n0_; have BK852 := n1_; have HB := n2_; clear n0_ n1_ n2_; (try clear hb); (try clear hb2); (try clear hk); (try clear hi); have hcz39_0 : w38.cell? ⟨gb851, 0, none⟩ = some (.slice A0_0 l0_0.length c0_0) := (blk_cell BK851.out 0).trans rfl; have hcz39_1 : w38.cell? ⟨gb851, 1, none⟩ = some (.slice A0_1 l0_1.length c0_1) := (blk_cell BK851.out 1).trans rfl; have hcz39_2 : w38.cell? ⟨gb851, 2, none⟩ = some (.slice A0_2 l0_2.length c0_2) := (blk_cell BK851.out 2).trans rfl; have hfz39_0 := blk_frozen BK851.out 0; have hfz39_1 := blk_frozen BK851.out 1; have hfz39_2 := blk_frozen BK851.out 2; have hcz40_0 : w38.cell? ⟨gb852, 0, none⟩ = some (.slice A1_0 l1_0.length c1_0) := (blk_cell BK852.out 0).trans rfl; have hcz40_1 : w38.cell? ⟨gb852, 1, none⟩ = some (.slice A1_1 l1_1.length c1_1) := (blk_cell BK852.out 1).trans rfl; have hcz40_2 : w38.cell? ⟨gb852, 2, none⟩ = some (.slice A1_2 l1_2.length c1_2) := (blk_cell BK852.out 2).trans rfl; have hfz40_0 := blk_frozen BK852.out 0; have hfz40_1 := blk_frozen BK852.out 1; have hfz40_2 := blk_frozen BK852.out 2) | ((with_reducible refine gate_callee (f := 31) rfl ?_); refine goesL_ (some 15) rfl rfl Try.func31 (by kernel_rfl) rfl #[.agg #[.slice A0_1 l0_1.length c0_1], .agg #[.slice A1_1 l1_1.length c1_1]] rfl (by (try simp only [List.map_toArray, List.map_cons, List.map_nil]); first | done | rfl | (simp only [List.length_drop, List.length_take]; rfl)) ?_; (with_reducible refine (laws_eqMapTab.calls k _ _ l0_1 _ _ l1_1 false _ ?side1 ?side2 ?side3 ?side4 A5.out).mono ?_); (case side1 => repeat (first | exact (Kd.C_below HR0_1.out HB.out) | (with_reducible refine Kd.C_alloc ?_ _) | (with_reducible refine Kd.C_drewN ?_ _) | (with_reducible refine Kd.C_drew ?_))); (case side2 => exact HC0_1.out); (case side3 => repeat (first | exact (Kd.C_below HR1_1.out HB.out) | (with_reducible refine Kd.C_alloc ?_ _) | (with_reducible refine Kd.C_drewN ?_ _) | (with_reducible refine Kd.C_drew ?_))); (case side4 => exact HC1_1.out); rintro e w41 ⟨rfl, hb⟩; refine ⟨_, rfl, ?_⟩; have n0_ := bkB BK851 hb; have n1_ := bkB BK852 hb; have n2_ := Aside0.mk (below_step (bl HB) hb); clear BK851; clear BK852; clear HB; have BK851 := n0_; have BK852 := n1_; have HB := n2_; clear n0_ n1_ n2_; (try clear hb); (try clear hb2); (try clear hk); (try clear hi)))
      go_ret
      exact ⟨by first | rfl | (simp [errW_none, errW_some] <;> rfl) | (simp [*, errW_none, errW_some] <;> rfl), by repeat (first | (with_reducible first | exact HB.out | apply below_alloc | apply pw_below_drewN | apply below_drew1 | refine below_set ?_ GE851.out | refine below_set ?_ GE852.out) | exact HB.out)⟩
  · replace c4 := Bool.eq_false_iff.mpr c4
    subst c4
    have H1 : (some false) = some r := by rw [if_neg (show ¬ (false = true) by decide)] at H; exact H
    clear H
    have H := H1
    clear H1
    obtain rfl := Option.some.inj H
    go_enter Try.func40, Try.ntmps40
    go_wp2_with (first | ((with_reducible refine gate_dst (N := 2) rfl ?_); refine box_event ?hg (N := 2) ?hd (cs := #[.slice A0_0 l0_0.length c0_0, .slice A0_1 l0_1.length c0_1, .slice A0_2 l0_2.length c0_2]) (t := 66) ?hr ?_; (case hd => rfl); (case hg => rfl); (case hr => first | (go_simp; done) | (go_simp; rfl)); intro gb851 hg w42 hbox hb; have n0_ := Aside0.mk (below_step (bl HB) hb); have n1_ := Aside0.mk (hbox); have n2_ := Aside0.mk ((by rw [hg]; exact (below_size (bl HB)) : w.heap.size ≤ gb851)); have n3_ := Aside0.mk ((by rw [hg]; exact (below_size (bl HB)) : w.heap.size ≤ gb851)); clear HB; have HB := n0_; have BK851 := n1_; have GW851 := n2_; have GE851 := n3_; clear n0_ n1_ n2_ n3_; clear hb hbox hg) | ((with_reducible refine gate_dst (N := 3) rfl ?_); refine box_event ?hg (N := 3) ?hd (cs := #[.slice A1_0 l1_0.length c1_0, .slice A1_1 l1_1.length c1_1, .slice A1_2 l1_2.length c1_2]) (t := 66) ?hr ?_; (case hd => rfl); (case hg => rfl); (case hr => first | (go_simp; done) | (go_simp; rfl)); intro gb852 hg w43 hbox hb; have n0_ := bkB BK851 hb; have n1_ := Aside0.mk (below_step (bl HB) hb); have n2_ := Aside0.mk (hbox); have n3_ := Aside0.mk ((by rw [hg]; exact (below_size (bl HB)) : w.heap.size ≤ gb852)); have n4_ := Aside0.mk ((by rw [hg]; exact (below_size (bl HB)) : w.heap.size ≤ gb852)); have n5_ := Aside0.mk ((by rw [hg]; exact Nat.ne_of_lt (bkL BK851) : gb851 ≠ gb852)); have n6_ := Aside0.mk ((by rw [hg]; exact Nat.ne_of_gt (bkL BK851) : gb852 ≠ gb851)); clear BK851; clear HB; have BK851 := n0_; have HB := n1_; have BK852 := n2_; have GW852 := n3_; have GE852 := n4_; have NB851_852 := n5_; have NB852_851 := n6_; clear n0_ n1_ n2_ n3_ n4_ n5_ n6_; clear hb hbox hg; have hnb44 := NB851_852.out; have hnc44 := NB852_851.out; have hcz45_0 : w43.cell? ⟨gb851, 0, none⟩ = some (.slice A0_0 l0_0.length c0_0) := (blk_cell BK851.out 0).trans rfl; have hcz45_1 : w43.cell? ⟨gb851, 1, none⟩ = some (.slice A0_1 l0_1.length c0_1) := (blk_cell BK851.out 1).trans rfl; have hcz45_2 : w43.cell? ⟨gb851, 2, none⟩ = some (.slice A0_2 l0_2.length c0_2) := (blk_cell BK851.out 2).trans rfl; have hfz45_0 := blk_frozen BK851.out 0; have hfz45_1 := blk_frozen BK851.out 1; have hfz45_2 := blk_frozen BK851.out 2; have hcz46_0 : w43.cell? ⟨gb852, 0, none⟩ = some (.slice A1_0 l1_0.length c1_0) := (blk_cell BK852.out 0).trans rfl; have hcz46_1 : w43.cell? ⟨gb852, 1, none⟩ = some (.slice A1_1 l1_1.length c1_1) := (blk_cell BK852.out 1).trans rfl; have hcz46_2 : w43.cell? ⟨gb852, 2, none⟩ = some (.slice A1_2 l1_2.length c1_2) := (blk_cell BK852.out 2).trans rfl; have hfz46_0 := blk_frozen BK852.out 0; have hfz46_1 := blk_frozen BK852.out 1; have hfz46_2 := blk_frozen BK852.out 2) | ((with_reducible refine gate_callee (f := 20) rfl ?_); refine goesL_ (some 9) rfl rfl Try.func20 (by kernel_rfl) rfl #[.slice A0_0 l0_0.length c0_0, .slice A1_0 l1_0.length c1_0] rfl (by (try simp only [List.map_toArray, List.map_cons, List.map_nil]); first | done | rfl | (simp only [List.length_drop, List.length_take]; rfl)) ?_; (with_reducible refine (laws_eqRulRuleS.calls k _ _ l0_0 _ _ l1_0 false _ ?side1 ?side2 ?side3 ?side4 A3.out).mono ?_); (case side1 => repeat (first | exact (Kd.C_below HR0_0.out HB.out) | (with_reducible refine Kd.C_alloc ?_ _) | (with_reducible refine Kd.C_drewN ?_ _) | (with_reducible refine Kd.C_drew ?_))); (case side2 => exact HC0_0.out); (case side3 => repeat (first | exact (Kd.C_below HR1_0.out HB.out) | (with_reducible refine Kd.C_alloc ?_ _) | (with_reducible refine Kd.C_drewN ?_ _) | (with_reducible refine Kd.C_drew ?_))); (case side4 => exact HC1_0.out); rintro e w47 ⟨rfl, hb⟩; refine ⟨_, rfl, ?_⟩; have n0_ := bkB BK851 hb; have n1_ := bkB BK852 hb; have n2_ := Aside0.mk (below_step (bl HB) hb); clear BK851; clear BK852; clear HB; have BK851 := n0_; have BK852 := n1_; have HB := n2_; clear n0_ n1_ n2_; (try clear hb); (try clear hb2); (try clear hk); (try clear hi)))
    go_ret
    exact ⟨by first | rfl | (simp [errW_none, errW_some] <;> rfl) | (simp [*, errW_none, errW_some] <;> rfl), by repeat (first | (with_reducible first | exact HB.out | apply below_alloc | apply pw_below_drewN | apply below_drew1 | refine below_set ?_ GE851.out | refine below_set ?_ GE852.out) | exact HB.out)⟩

end Go.Proofs.Ytiocgkggegahhaa.P

-- written by hw.py for this claim
namespace Go.Proofs.Ytiocgkggegahhaa.P
open Go.RowKit Go.Proofs.YtiocgkggegahhaaUFnExactBoxNew.PrintWords Go.Proofs.YtiocgkggegahhaaUFnExactBoxNew.PrintLast Go.Proofs.YtiocgkggegahhaaUFnExactBoxNew.PrintMore
attribute [local go_sem] max2_int min2_int max_two min_two max_three min_three max_four min_four
set_option linter.unusedVariables false
set_option linter.unusedSimpArgs false

/-! ### laws_markRulRuleS: function 41 -/
def laws_markRulRuleS.l0 : Nat → List (S24) → Int → Int → Option (Int × (List (S24)))
  | 0, _, _, _ => none
  | k + 1, x0, x1, x5 => if x5 < (x0.length : Int) then (if 0 ≤ x5 then ((some (x0.set (x5 : Int).toNat (⟨((Int.tmod x1 3) == 0), (rd_T24 x0 x5).f1, (rd_T24 x0 x5).f2, (rd_T24 x0 x5).f3, (rd_T24 x0 x5).f4, (rd_T24 x0 x5).f5, (rd_T24 x0 x5).f6⟩ : S24) : List (S24))).bind fun y856 => ((some (y856.set (x5 : Int).toNat (⟨(rd_T24 y856 x5).f0, wrap64 (x1 + 1), (rd_T24 y856 x5).f2, (rd_T24 y856 x5).f3, (rd_T24 y856 x5).f4, (rd_T24 y856 x5).f5, (rd_T24 y856 x5).f6⟩ : S24) : List (S24))).bind fun y857 => ((some (y857.set (x5 : Int).toNat (⟨(rd_T24 y857 x5).f0, (rd_T24 y857 x5).f1, wrap64 ((wrap64 (x1 + 1)) + 1), (rd_T24 y857 x5).f3, (rd_T24 y857 x5).f4, (rd_T24 y857 x5).f5, (rd_T24 y857 x5).f6⟩ : S24) : List (S24))).bind fun y858 => ((some (y858.set (x5 : Int).toNat (⟨(rd_T24 y858 x5).f0, (rd_T24 y858 x5).f1, (rd_T24 y858 x5).f2, wrap64 ((wrap64 ((wrap64 (x1 + 1)) + 1)) + 1), (rd_T24 y858 x5).f4, (rd_T24 y858 x5).f5, (rd_T24 y858 x5).f6⟩ : S24) : List (S24))).bind fun y859 => ((some (y859.set (x5 : Int).toNat (⟨(rd_T24 y859 x5).f0, (rd_T24 y859 x5).f1, (rd_T24 y859 x5).f2, (rd_T24 y859 x5).f3, wrap64 ((wrap64 ((wrap64 ((wrap64 (x1 + 1)) + 1)) + 1)) + 1), (rd_T24 y859 x5).f5, (rd_T24 y859 x5).f6⟩ : S24) : List (S24))).bind fun y860 => ((some (y860.set (x5 : Int).toNat (⟨(rd_T24 y860 x5).f0, (rd_T24 y860 x5).f1, (rd_T24 y860 x5).f2, (rd_T24 y860 x5).f3, (rd_T24 y860 x5).f4, wrap64 ((wrap64 ((wrap64 ((wrap64 ((wrap64 (x1 + 1)) + 1)) + 1)) + 1)) + 1), (rd_T24 y860 x5).f6⟩ : S24) : List (S24))).bind fun y861 => (laws_markRulRuleS.l0 k (y861.set (x5 : Int).toNat (⟨(rd_T24 y861 x5).f0, (rd_T24 y861 x5).f1, (rd_T24 y861 x5).f2, (rd_T24 y861 x5).f3, (rd_T24 y861 x5).f4, (rd_T24 y861 x5).f5, wrap64 ((wrap64 ((wrap64 ((wrap64 ((wrap64 ((wrap64 (x1 + 1)) + 1)) + 1)) + 1)) + 1)) + 1)⟩ : S24)) (wrap64 ((wrap64 ((wrap64 ((wrap64 ((wrap64 ((wrap64 ((wrap64 (x1 + 1)) + 1)) + 1)) + 1)) + 1)) + 1)) + 1)) (wrap64 (x5 + 1))))))))) else (none)) else (some (x1, x0))
def laws_markRulRuleS.f (k : Nat) (l0 : List (S24)) (a1 : Int) : Option (Int × (List (S24))) := laws_markRulRuleS.l0 k l0 a1 0
theorem laws_markRulRuleS.mono_l : ∀ k, (∀ y0 y1 y2, LeO (laws_markRulRuleS.l0 k y0 y1 y2) (laws_markRulRuleS.l0 (k + 1) y0 y1 y2))
  | 0 => fun _ _ _ r h => by simp [laws_markRulRuleS.l0] at h
  | k + 1 => by
    have ih0 := laws_markRulRuleS.mono_l k
    · intro y0 y1 y2
      unfold laws_markRulRuleS.l0
      repeat' first
      | (with_reducible exact ih0 _ _ _)
      | (with_reducible exact LeO.refl _)
      | (with_reducible exact LeO.none _)
      | (with_reducible refine LeO.ite ?_ ?_)
      | (with_reducible refine LeO.bind ?_ (fun _ => ?_))
      | exact ih0 _ _ _
      | exact LeO.none _
      | refine LeO.ite ?_ ?_
      | refine LeO.bind ?_ (fun _ => ?_)
theorem laws_markRulRuleS.mono : ∀ a0 a1 k, LeO (laws_markRulRuleS.f k a0 a1) (laws_markRulRuleS.f (k + 1) a0 a1) := by
  intro a0 a1 k
  have ih0 := laws_markRulRuleS.mono_l k
  unfold laws_markRulRuleS.f
  repeat' first
      | (with_reducible exact ih0 _ _ _)
      | (with_reducible exact LeO.refl _)
      | (with_reducible exact LeO.none _)
      | (with_reducible refine LeO.ite ?_ ?_)
      | (with_reducible refine LeO.bind ?_ (fun _ => ?_))
      | exact ih0 _ _ _
      | exact LeO.none _
      | refine LeO.ite ?_ ?_
      | refine LeO.bind ?_ (fun _ => ?_)
set_option maxHeartbeats 8000000 in
set_option maxRecDepth 100000 in
theorem laws_markRulRuleS.calls (k : Nat) (P0_ : Nat → Prop) (u9000_ : Value) (l0 : List (S24)) (a1 : Int) (r1 : Int) (r2 : List (S24)) (w0 w : World) (hB : Below w0.heap.size w0 w) (ho0 : Kd.R k24 24 w w0.heap.size P0_ u9000_ l0) (h : laws_markRulRuleS.f k l0 a1 = some (r1, r2)) :
    Calls Try.prog 41 #[u9000_, .int .i64 a1] w fun e w' => e = .returned (.int .i64 r1) ∧ Kd.R k24 24 w' w0.heap.size (fun k_ => (P0_ k_ ∨ w.heap.size ≤ k_)) u9000_ r2 ∧ Below w0.heap.size w0 w' ∧ Kept w w' (fun k_ => P0_ k_) := by
  have HO0 := Aside0.mk (show Kd.R k24 24 w w0.heap.size (fun k_ => (P0_ k_ ∨ w.heap.size ≤ k_)) u9000_ l0 from Kd.R_mono ho0 (fun k_ hk => (.inl hk)))
  have HK := Aside0.mk (Kept.refl w (fun k_ => P0_ k_))
  have HW0 := Aside0.mk hB.size
  have HB := Aside0.mk hB
  clear hB
  have H : (laws_markRulRuleS.l0 k l0 a1 0) = some (r1, r2) := h
  clear h
  have H' := Aside0.mk H
  clear H
  go_enter Try.func41, Try.ntmps41
  go_wp2
  go_loopg [1, 5] k (fun kq v1 v5 w' => ∃ (x0_1 : List (S24)) (x1_1 : Int) (x5_1 : Int), v1 = .int .i64 x1_1 ∧ v5 = .int .i64 x5_1 ∧ Aside0 (laws_markRulRuleS.l0 kq x0_1 x1_1 x5_1 = some (r1, r2)) ∧ Aside0 (kq ≤ k) ∧ Aside0 (Kd.R k24 24 w' w0.heap.size (fun k_ => (P0_ k_ ∨ w.heap.size ≤ k_)) u9000_ x0_1) ∧ Aside0 (Kept w w' (fun k_ => P0_ k_)) ∧ Aside0 (Below w0.heap.size w0 w'))
  case atStart => exact ⟨(l0), (a1), (0), (by first | rfl | (simp; done) | (simp [*]; done)), (by first | rfl | (simp; done) | (simp [*]; done)), H', ⟨Nat.le_refl _⟩, ⟨by (with_reducible repeat apply ru); exact HO0.out⟩, ⟨by repeat (first | (with_reducible first | exact HK.out | apply Kept.alloc | apply Kept.drewN | apply Kept.drew) | exact HK.out)⟩, ⟨by repeat (first | (with_reducible first | exact HB.out | apply below_alloc | apply pw_below_drewN | apply below_drew1) | exact HB.out)⟩⟩
  case round =>
    clear H'
    try clear p2
    obtain ⟨x0_1, x1_1, x5_1, rfl, rfl, HA, HK1, HO_0, HK, HB⟩ := hrel
    cases gk with
    | zero => exact absurd HA.out (by simp [laws_markRulRuleS.l0])
    | succ k1 =>
      have H := HA.out
      clear HA
      simp only [laws_markRulRuleS.l0] at H
      by_cases c3 : x5_1 < (x0_1.length : Int)
      · rw [if_pos c3] at H
        have c3b0 : decide (x5_1 < (x0_1.length : Int)) = true := decide_eq_true c3
        clear c3
        by_cases c4 : 0 ≤ x5_1
        · rw [if_pos c4] at H
          have c4b0 : decide (0 ≤ x5_1) = true := decide_eq_true c4
          clear c4
          obtain ⟨y856, hy856⟩ : ∃ y_ : List (S24), y_ = (x0_1.set (x5_1 : Int).toNat (⟨((Int.tmod x1_1 3) == 0), (rd_T24 x0_1 x5_1).f1, (rd_T24 x0_1 x5_1).f2, (rd_T24 x0_1 x5_1).f3, (rd_T24 x0_1 x5_1).f4, (rd_T24 x0_1 x5_1).f5, (rd_T24 x0_1 x5_1).f6⟩ : S24)) := ⟨_, rfl⟩
          replace H : ((some (y856.set (x5_1 : Int).toNat (⟨(rd_T24 y856 x5_1).f0, wrap64 (x1_1 + 1), (rd_T24 y856 x5_1).f2, (rd_T24 y856 x5_1).f3, (rd_T24 y856 x5_1).f4, (rd_T24 y856 x5_1).f5, (rd_T24 y856 x5_1).f6⟩ : S24) : List (S24))).bind fun y857 => ((some (y857.set (x5_1 : Int).toNat (⟨(rd_T24 y857 x5_1).f0, (rd_T24 y857 x5_1).f1, wrap64 ((wrap64 (x1_1 + 1)) + 1), (rd_T24 y857 x5_1).f3, (rd_T24 y857 x5_1).f4, (rd_T24 y857 x5_1).f5, (rd_T24 y857 x5_1).f6⟩ : S24) : List (S24))).bind fun y858 => ((some (y858.set (x5_1 : Int).toNat (⟨(rd_T24 y858 x5_1).f0, (rd_T24 y858 x5_1).f1, (rd_T24 y858 x5_1).f2, wrap64 ((wrap64 ((wrap64 (x1_1 + 1)) + 1)) + 1), (rd_T24 y858 x5_1).f4, (rd_T24 y858 x5_1).f5, (rd_T24 y858 x5_1).f6⟩ : S24) : List (S24))).bind fun y859 => ((some (y859.set (x5_1 : Int).toNat (⟨(rd_T24 y859 x5_1).f0, (rd_T24 y859 x5_1).f1, (rd_T24 y859 x5_1).f2, (rd_T24 y859 x5_1).f3, wrap64 ((wrap64 ((wrap64 ((wrap64 (x1_1 + 1)) + 1)) + 1)) + 1), (rd_T24 y859 x5_1).f5, (rd_T24 y859 x5_1).f6⟩ : S24) : List (S24))).bind fun y860 => ((some (y860.set (x5_1 : Int).toNat (⟨(rd_T24 y860 x5_1).f0, (rd_T24 y860 x5_1).f1, (rd_T24 y860 x5_1).f2, (rd_T24 y860 x5_1).f3, (rd_T24 y860 x5_1).f4, wrap64 ((wrap64 ((wrap64 ((wrap64 ((wrap64 (x1_1 + 1)) + 1)) + 1)) + 1)) + 1), (rd_T24 y860 x5_1).f6⟩ : S24) : List (S24))).bind fun y861 => (laws_markRulRuleS.l0 k1 (y861.set (x5_1 : Int).toNat (⟨(rd_T24 y861 x5_1).f0, (rd_T24 y861 x5_1).f1, (rd_T24 y861 x5_1).f2, (rd_T24 y861 x5_1).f3, (rd_T24 y861 x5_1).f4, (rd_T24 y861 x5_1).f5, wrap64 ((wrap64 ((wrap64 ((wrap64 ((wrap64 ((wrap64 (x1_1 + 1)) + 1)) + 1)) + 1)) + 1)) + 1)⟩ : S24)) (wrap64 ((wrap64 ((wrap64 ((wrap64 ((wrap64 ((wrap64 ((wrap64 (x1_1 + 1)) + 1)) + 1)) + 1)) + 1)) + 1)) + 1)) (wrap64 (x5_1 + 1)))))))) = some (r1, r2) := by first | (rw [hy856]; with_reducible exact H) | (have H2_ := (Option.bind_some _ _).symm.trans H; rw [hy856]; with_reducible exact H2_) | (have H2_ := (Option.bind_some _ _).symm.trans H; with_reducible exact H2_) | with_reducible exact H | (rw [hy856]; exact H) | exact H
          have Ny856 := Aside0.mk hy856
          clear hy856
          obtain ⟨y857, hy857⟩ : ∃ y_ : List (S24), y_ = (y856.set (x5_1 : Int).toNat (⟨(rd_T24 y856 x5_1).f0, wrap64 (x1_1 + 1), (rd_T24 y856 x5_1).f2, (rd_T24 y856 x5_1).f3, (rd_T24 y856 x5_1).f4, (rd_T24 y856 x5_1).f5, (rd_T24 y856 x5_1).f6⟩ : S24)) := ⟨_, rfl⟩
          replace H : ((some (y857.set (x5_1 : Int).toNat (⟨(rd_T24 y857 x5_1).f0, (rd_T24 y857 x5_1).f1, wrap64 ((wrap64 (x1_1 + 1)) + 1), (rd_T24 y857 x5_1).f3, (rd_T24 y857 x5_1).f4, (rd_T24 y857 x5_1).f5, (rd_T24 y857 x5_1).f6⟩ : S24) : List (S24))).bind fun y858 => ((some (y858.set (x5_1 : Int).toNat (⟨(rd_T24 y858 x5_1).f0, (rd_T24 y858 x5_1).f1, (rd_T24 y858 x5_1).f2, wrap64 ((wrap64 ((wrap64 (x1_1 + 1)) + 1)) + 1), (rd_T24 y858 x5_1).f4, (rd_T24 y858 x5_1).f5, (rd_T24 y858 x5_1).f6⟩ : S24) : List (S24))).bind fun y859 => ((some (y859.set (x5_1 : Int).toNat (⟨(rd_T24 y859 x5_1).f0, (rd_T24 y859 x5_1).f1, (rd_T24 y859 x5_1).f2, (rd_T24 y859 x5_1).f3, wrap64 ((wrap64 ((wrap64 ((wrap64 (x1_1 + 1)) + 1)) + 1)) + 1), (rd_T24 y859 x5_1).f5, (rd_T24 y859 x5_1).f6⟩ : S24) : List (S24))).bind fun y860 => ((some (y860.set (x5_1 : Int).toNat (⟨(rd_T24 y860 x5_1).f0, (rd_T24 y860 x5_1).f1, (rd_T24 y860 x5_1).f2, (rd_T24 y860 x5_1).f3, (rd_T24 y860 x5_1).f4, wrap64 ((wrap64 ((wrap64 ((wrap64 ((wrap64 (x1_1 + 1)) + 1)) + 1)) + 1)) + 1), (rd_T24 y860 x5_1).f6⟩ : S24) : List (S24))).bind fun y861 => (laws_markRulRuleS.l0 k1 (y861.set (x5_1 : Int).toNat (⟨(rd_T24 y861 x5_1).f0, (rd_T24 y861 x5_1).f1, (rd_T24 y861 x5_1).f2, (rd_T24 y861 x5_1).f3, (rd_T24 y861 x5_1).f4, (rd_T24 y861 x5_1).f5, wrap64 ((wrap64 ((wrap64 ((wrap64 ((wrap64 ((wrap64 (x1_1 + 1)) + 1)) + 1)) + 1)) + 1)) + 1)⟩ : S24)) (wrap64 ((wrap64 ((wrap64 ((wrap64 ((wrap64 ((wrap64 ((wrap64 (x1_1 + 1)) + 1)) + 1)) + 1)) + 1)) + 1)) + 1)) (wrap64 (x5_1 + 1))))))) = some (r1, r2) := by first | (rw [hy857]; with_reducible exact H) | (have H2_ := (Option.bind_some _ _).symm.trans H; rw [hy857]; with_reducible exact H2_) | (have H2_ := (Option.bind_some _ _).symm.trans H; with_reducible exact H2_) | with_reducible exact H | (rw [hy857]; exact H) | exact H
          have Ny857 := Aside0.mk hy857
          clear hy857
          obtain ⟨y858, hy858⟩ : ∃ y_ : List (S24), y_ = (y857.set (x5_1 : Int).toNat (⟨(rd_T24 y857 x5_1).f0, (rd_T24 y857 x5_1).f1, wrap64 ((wrap64 (x1_1 + 1)) + 1), (rd_T24 y857 x5_1).f3, (rd_T24 y857 x5_1).f4, (rd_T24 y857 x5_1).f5, (rd_T24 y857 x5_1).f6⟩ : S24)) := ⟨_, rfl⟩
          replace H : ((some (y858.set (x5_1 : Int).toNat (⟨(rd_T24 y858 x5_1).f0, (rd_T24 y858 x5_1).f1, (rd_T24 y858 x5_1).f2, wrap64 ((wrap64 ((wrap64 (x1_1 + 1)) + 1)) + 1), (rd_T24 y858 x5_1).f4, (rd_T24 y858 x5_1).f5, (rd_T24 y858 x5_1).f6⟩ : S24) : List (S24))).bind fun y859 => ((some (y859.set (x5_1 : Int).toNat (⟨(rd_T24 y859 x5_1).f0, (rd_T24 y859 x5_1).f1, (rd_T24 y859 x5_1).f2, (rd_T24 y859 x5_1).f3, wrap64 ((wrap64 ((wrap64 ((wrap64 (x1_1 + 1)) + 1)) + 1)) + 1), (rd_T24 y859 x5_1).f5, (rd_T24 y859 x5_1).f6⟩ : S24) : List (S24))).bind fun y860 => ((some (y860.set (x5_1 : Int).toNat (⟨(rd_T24 y860 x5_1).f0, (rd_T24 y860 x5_1).f1, (rd_T24 y860 x5_1).f2, (rd_T24 y860 x5_1).f3, (rd_T24 y860 x5_1).f4, wrap64 ((wrap64 ((wrap64 ((wrap64 ((wrap64 (x1_1 + 1)) + 1)) + 1)) + 1)) + 1), (rd_T24 y860 x5_1).f6⟩ : S24) : List (S24))).bind fun y861 => (laws_markRulRuleS.l0 k1 (y861.set (x5_1 : Int).toNat (⟨(rd_T24 y861 x5_1).f0, (rd_T24 y861 x5_1).f1, (rd_T24 y861 x5_1).f2, (rd_T24 y861 x5_1).f3, (rd_T24 y861 x5_1).f4, (rd_T24 y861 x5_1).f5, wrap64 ((wrap64 ((wrap64 ((wrap64 ((wrap64 ((wrap64 (x1_1 + 1)) + 1)) + 1)) + 1)) + 1)) + 1)⟩ : S24)) (wrap64 ((wrap64 ((wrap64 ((wrap64 ((wrap64 ((wrap64 ((wrap64 (x1_1 + 1)) + 1)) + 1)) + 1)) + 1)) + 1)) + 1)) (wrap64 (x5_1 + 1)))))) = some (r1, r2) := by first | (rw [hy858]; with_reducible exact H) | (have H2_ := (Option.bind_some _ _).symm.trans H; rw [hy858]; with_reducible exact H2_) | (have H2_ := (Option.bind_some _ _).symm.trans H; with_reducible exact H2_) | with_reducible exact H | (rw [hy858]; exact H) | exact H
          have Ny858 := Aside0.mk hy858
          clear hy858
          obtain ⟨y859, hy859⟩ : ∃ y_ : List (S24), y_ = (y858.set (x5_1 : Int).toNat (⟨(rd_T24 y858 x5_1).f0, (rd_T24 y858 x5_1).f1, (rd_T24 y858 x5_1).f2, wrap64 ((wrap64 ((wrap64 (x1_1 + 1)) + 1)) + 1), (rd_T24 y858 x5_1).f4, (rd_T24 y858 x5_1).f5, (rd_T24 y858 x5_1).f6⟩ : S24)) := ⟨_, rfl⟩
          replace H : ((some (y859.set (x5_1 : Int).toNat (⟨(rd_T24 y859 x5_1).f0, (rd_T24 y859 x5_1).f1, (rd_T24 y859 x5_1).f2, (rd_T24 y859 x5_1).f3, wrap64 ((wrap64 ((wrap64 ((wrap64 (x1_1 + 1)) + 1)) + 1)) + 1), (rd_T24 y859 x5_1).f5, (rd_T24 y859 x5_1).f6⟩ : S24) : List (S24))).bind fun y860 => ((some (y860.set (x5_1 : Int).toNat (⟨(rd_T24 y860 x5_1).f0, (rd_T24 y860 x5_1).f1, (rd_T24 y860 x5_1).f2, (rd_T24 y860 x5_1).f3, (rd_T24 y860 x5_1).f4, wrap64 ((wrap64 ((wrap64 ((wrap64 ((wrap64 (x1_1 + 1)) + 1)) + 1)) + 1)) + 1), (rd_T24 y860 x5_1).f6⟩ : S24) : List (S24))).bind fun y861 => (laws_markRulRuleS.l0 k1 (y861.set (x5_1 : Int).toNat (⟨(rd_T24 y861 x5_1).f0, (rd_T24 y861 x5_1).f1, (rd_T24 y861 x5_1).f2, (rd_T24 y861 x5_1).f3, (rd_T24 y861 x5_1).f4, (rd_T24 y861 x5_1).f5, wrap64 ((wrap64 ((wrap64 ((wrap64 ((wrap64 ((wrap64 (x1_1 + 1)) + 1)) + 1)) + 1)) + 1)) + 1)⟩ : S24)) (wrap64 ((wrap64 ((wrap64 ((wrap64 ((wrap64 ((wrap64 ((wrap64 (x1_1 + 1)) + 1)) + 1)) + 1)) + 1)) + 1)) + 1)) (wrap64 (x5_1 + 1))))) = some (r1, r2) := by first | (rw [hy859]; with_reducible exact H) | (have H2_ := (Option.bind_some _ _).symm.trans H; rw [hy859]; with_reducible exact H2_) | (have H2_ := (Option.bind_some _ _).symm.trans H; with_reducible exact H2_) | with_reducible exact H | (rw [hy859]; exact H) | exact H
          have Ny859 := Aside0.mk hy859
          clear hy859
          obtain ⟨y860, hy860⟩ : ∃ y_ : List (S24), y_ = (y859.set (x5_1 : Int).toNat (⟨(rd_T24 y859 x5_1).f0, (rd_T24 y859 x5_1).f1, (rd_T24 y859 x5_1).f2, (rd_T24 y859 x5_1).f3, wrap64 ((wrap64 ((wrap64 ((wrap64 (x1_1 + 1)) + 1)) + 1)) + 1), (rd_T24 y859 x5_1).f5, (rd_T24 y859 x5_1).f6⟩ : S24)) := ⟨_, rfl⟩
          replace H : ((some (y860.set (x5_1 : Int).toNat (⟨(rd_T24 y860 x5_1).f0, (rd_T24 y860 x5_1).f1, (rd_T24 y860 x5_1).f2, (rd_T24 y860 x5_1).f3, (rd_T24 y860 x5_1).f4, wrap64 ((wrap64 ((wrap64 ((wrap64 ((wrap64 (x1_1 + 1)) + 1)) + 1)) + 1)) + 1), (rd_T24 y860 x5_1).f6⟩ : S24) : List (S24))).bind fun y861 => (laws_markRulRuleS.l0 k1 (y861.set (x5_1 : Int).toNat (⟨(rd_T24 y861 x5_1).f0, (rd_T24 y861 x5_1).f1, (rd_T24 y861 x5_1).f2, (rd_T24 y861 x5_1).f3, (rd_T24 y861 x5_1).f4, (rd_T24 y861 x5_1).f5, wrap64 ((wrap64 ((wrap64 ((wrap64 ((wrap64 ((wrap64 (x1_1 + 1)) + 1)) + 1)) + 1)) + 1)) + 1)⟩ : S24)) (wrap64 ((wrap64 ((wrap64 ((wrap64 ((wrap64 ((wrap64 ((wrap64 (x1_1 + 1)) + 1)) + 1)) + 1)) + 1)) + 1)) + 1)) (wrap64 (x5_1 + 1)))) = some (r1, r2) := by first | (rw [hy860]; with_reducible exact H) | (have H2_ := (Option.bind_some _ _).symm.trans H; rw [hy860]; with_reducible exact H2_) | (have H2_ := (Option.bind_some _ _).symm.trans H; with_reducible exact H2_) | with_reducible exact H | (rw [hy860]; exact H) | exact H
          have Ny860 := Aside0.mk hy860
          clear hy860
          obtain ⟨y861, hy861⟩ : ∃ y_ : List (S24), y_ = (y860.set (x5_1 : Int).toNat (⟨(rd_T24 y860 x5_1).f0, (rd_T24 y860 x5_1).f1, (rd_T24 y860 x5_1).f2, (rd_T24 y860 x5_1).f3, (rd_T24 y860 x5_1).f4, wrap64 ((wrap64 ((wrap64 ((wrap64 ((wrap64 (x1_1 + 1)) + 1)) + 1)) + 1)) + 1), (rd_T24 y860 x5_1).f6⟩ : S24)) := ⟨_, rfl⟩
          replace H : (laws_markRulRuleS.l0 k1 (y861.set (x5_1 : Int).toNat (⟨(rd_T24 y861 x5_1).f0, (rd_T24 y861 x5_1).f1, (rd_T24 y861 x5_1).f2, (rd_T24 y861 x5_1).f3, (rd_T24 y861 x5_1).f4, (rd_T24 y861 x5_1).f5, wrap64 ((wrap64 ((wrap64 ((wrap64 ((wrap64 ((wrap64 (x1_1 + 1)) + 1)) + 1)) + 1)) + 1)) + 1)⟩ : S24)) (wrap64 ((wrap64 ((wrap64 ((wrap64 ((wrap64 ((wrap64 ((wrap64 (x1_1 + 1)) + 1)) + 1)) + 1)) + 1)) + 1)) + 1)) (wrap64 (x5_1 + 1))) = some (r1, r2) := by first | (rw [hy861]; with_reducible exact H) | (have H2_ := (Option.bind_some _ _).symm.trans H; rw [hy861]; with_reducible exact H2_) | (have H2_ := (Option.bind_some _ _).symm.trans H; with_reducible exact H2_) | with_reducible exact H | (rw [hy861]; exact H) | exact H
          have Ny861 := Aside0.mk hy861
          clear hy861
          obtain ⟨y862, hy862⟩ : ∃ y_ : List (S24), y_ = (y861.set (x5_1 : Int).toNat (⟨(rd_T24 y861 x5_1).f0, (rd_T24 y861 x5_1).f1, (rd_T24 y861 x5_1).f2, (rd_T24 y861 x5_1).f3, (rd_T24 y861 x5_1).f4, (rd_T24 y861 x5_1).f5, wrap64 ((wrap64 ((wrap64 ((wrap64 ((wrap64 ((wrap64 (x1_1 + 1)) + 1)) + 1)) + 1)) + 1)) + 1)⟩ : S24)) := ⟨_, rfl⟩
          replace H : (laws_markRulRuleS.l0 k1 y862 (wrap64 ((wrap64 ((wrap64 ((wrap64 ((wrap64 ((wrap64 ((wrap64 (x1_1 + 1)) + 1)) + 1)) + 1)) + 1)) + 1)) + 1)) (wrap64 (x5_1 + 1))) = some (r1, r2) := by first | (rw [hy862]; with_reducible exact H) | (have H2_ := (Option.bind_some _ _).symm.trans H; rw [hy862]; with_reducible exact H2_) | (have H2_ := (Option.bind_some _ _).symm.trans H; with_reducible exact H2_) | with_reducible exact H | (rw [hy862]; exact H) | exact H
          have Ny862 := Aside0.mk hy862
          clear hy862
          have H' := Aside0.mk H
          clear H
          obtain ⟨Ao12, co12, eo12⟩ := Kd.R_slice HO_0.out
          subst eo12
          have p5 : 0 ≤ (x5_1 : Int) := of_decide_eq_true (by first | (with_reducible assumption) | assumption)
          have q5 : (x5_1 : Int) < ((x0_1.length : Int) : Int) := of_decide_eq_true (by first | (with_reducible assumption) | assumption)
          obtain ⟨go5, co5, eo5, gb5, gl5, cl5, HG5⟩ := Kd.R_form HO_0.out (by omega)
          (first | cases eo5 | (injection eo5 with ea_ en_ ec_; (first | subst ea_ | (injection ea_ with ea_; subst ea_)); subst ec_; clear en_))
          have GB5 := Aside0.mk gb5
          have GG5 := Aside0.mk HG5
          clear gb5 gl5 HG5
          have HMgo5 := Aside0.mk (show (P0_ go5 ∨ w.heap.size ≤ go5) from (HO_0.out.1 _ rfl))
          obtain ⟨ce5, hcl5, hM5, hcc5, hfr5⟩ := Kd.R_elem HO_0.out z24 (x5_1 : Int) p5 q5
          obtain rfl := k24_openM hM5
          have hx5_0 : wr.cell? ⟨go5, (x5_1 : Int).toNat * 7, none⟩ = some (.bool ((rd_T24 x0_1 x5_1).f0)) := hcc5 0 _ rfl
          have hx5_1 : wr.cell? ⟨go5, (x5_1 : Int).toNat * 7 + 1, none⟩ = some (.int .i64 ((rd_T24 x0_1 x5_1).f1)) := hcc5 1 _ rfl
          have hx5_2 : wr.cell? ⟨go5, (x5_1 : Int).toNat * 7 + 2, none⟩ = some (.int .i64 ((rd_T24 x0_1 x5_1).f2)) := hcc5 2 _ rfl
          have hx5_3 : wr.cell? ⟨go5, (x5_1 : Int).toNat * 7 + 3, none⟩ = some (.int .i64 ((rd_T24 x0_1 x5_1).f3)) := hcc5 3 _ rfl
          have hx5_4 : wr.cell? ⟨go5, (x5_1 : Int).toNat * 7 + 4, none⟩ = some (.int .i64 ((rd_T24 x0_1 x5_1).f4)) := hcc5 4 _ rfl
          have hx5_5 : wr.cell? ⟨go5, (x5_1 : Int).toNat * 7 + 5, none⟩ = some (.int .i64 ((rd_T24 x0_1 x5_1).f5)) := hcc5 5 _ rfl
          have hx5_6 : wr.cell? ⟨go5, (x5_1 : Int).toNat * 7 + 6, none⟩ = some (.int .i64 ((rd_T24 x0_1 x5_1).f6)) := hcc5 6 _ rfl
          have hf5_0 : wr.frozen? ⟨go5, (x5_1 : Int).toNat * 7, none⟩ = false := hfr5 0
          have hf5_1 : wr.frozen? ⟨go5, (x5_1 : Int).toNat * 7 + 1, none⟩ = false := hfr5 1
          have hf5_2 : wr.frozen? ⟨go5, (x5_1 : Int).toNat * 7 + 2, none⟩ = false := hfr5 2
          have hf5_3 : wr.frozen? ⟨go5, (x5_1 : Int).toNat * 7 + 3, none⟩ = false := hfr5 3
          have hf5_4 : wr.frozen? ⟨go5, (x5_1 : Int).toNat * 7 + 4, none⟩ = false := hfr5 4
          have hf5_5 : wr.frozen? ⟨go5, (x5_1 : Int).toNat * 7 + 5, none⟩ = false := hfr5 5
          have hf5_6 : wr.frozen? ⟨go5, (x5_1 : Int).toNat * 7 + 6, none⟩ = false := hfr5 6
          clear hcl5 hcc5 hfr5 hM5
          replace p5 := eq_true p5
          replace q5 := eq_true q5
          have HX13 := Aside0.mk (show Kd.R k24 24 wr w0.heap.size (fun k_ => (P0_ k_ ∨ w.heap.size ≤ k_)) (.slice (some ⟨go5, 0, none⟩) x0_1.length co12) x0_1 from (rs HO_0))
          obtain ⟨ce13, hcl13, hM13, hcc13, hfr13⟩ := Kd.R_elem HX13.out z24 (x5_1 : Int) (of_decide_eq_true (by first | (with_reducible assumption) | assumption)) (by have h_ : (x5_1 : Int) < ((x0_1.length : Int) : Int) := of_decide_eq_true (by first | (with_reducible assumption) | assumption); first | exact h_ | (have e_ := (Kd.R_reads' HO_0.out).1; omega) | simpa using h_)
          obtain rfl := k24_openM hM13
          have HP13 := Kd.R_seg HX13.out (x5_1 : Int) (of_decide_eq_true (by first | (with_reducible assumption) | assumption)) (by have h_ : (x5_1 : Int) < ((x0_1.length : Int) : Int) := of_decide_eq_true (by first | (with_reducible assumption) | assumption); first | exact h_ | (have e_ := (Kd.R_reads' HO_0.out).1; omega) | simpa using h_) (seg := [.bool ((Int.tmod x1_1 3) == 0)]) (j := 0) hcl13 hcc13 (show 1 ≤ 7 from by decide) (x' := (⟨((Int.tmod x1_1 3) == 0), (rd_T24 x0_1 x5_1).f1, (rd_T24 x0_1 x5_1).f2, (rd_T24 x0_1 x5_1).f3, (rd_T24 x0_1 x5_1).f4, (rd_T24 x0_1 x5_1).f5, (rd_T24 x0_1 x5_1).f6⟩ : S24)) (k24_mkM _ _ _ (⟨((Int.tmod x1_1 3) == 0), (rd_T24 x0_1 x5_1).f1, (rd_T24 x0_1 x5_1).f2, (rd_T24 x0_1 x5_1).f3, (rd_T24 x0_1 x5_1).f4, (rd_T24 x0_1 x5_1).f5, (rd_T24 x0_1 x5_1).f6⟩ : S24) ) (fun _ hk => hk)
          have hx13_0 := hcc13 0 _ rfl
          (try simp only [show (k24).sz = 7 from rfl, Nat.mul_one, Nat.add_zero] at hx13_0)
          have hf13_0 := hfr13 0
          (try simp only [show (k24).sz = 7 from rfl, Nat.mul_one, Nat.add_zero] at hf13_0)
          clear hcl13 hcc13 hfr13 hM13
          go_wp2_with (first | ((with_reducible refine gate_store (t := 4) (p := 18) rfl ?_); refine store_event (t := 4) (p := 18) (v := ?vo_w14) (w1 := (wr.setCell ⟨go5, (x5_1 : Int).toNat * 7, none⟩ (.bool ((Int.tmod x1_1 3) == 0)))) ?hg ?ho ?hn ?hr ?_; (case ho => rfl); (case hg => rfl); (case hn => rfl); (case hr => first | (go_simp; done) | (go_simp; rfl)); intro w14 hw; have hg : wr.grownBy w14 (some go5) := (by rw [hw]; exact HP13.2); have hp_ : Kd.R k24 24 w14 w0.heap.size (fun k_ => (P0_ k_ ∨ w.heap.size ≤ k_)) (.slice (some ⟨go5, 0, none⟩) x0_1.length co12) y856 := (by rw [hw, Ny856.out]; exact HP13.1); clear HP13; have n0_ := Aside0.mk (hp_); have n1_ := Aside0.mk ((by rw [hw]; exact below_set (HB.out) GB5.out : Below w0.heap.size w0 w14)); have n2_ := Aside0.mk (Kept.of_grown (S := (fun k_ => P0_ k_)) hg (by repeat (first | (with_reducible first | exact HK.out | apply Kept.alloc | apply Kept.drewN | apply Kept.drew) | exact HK.out)) (fun k_ e_ => (HO_0.out.1 k_ e_))); clear HO_0; clear HB; clear HK; have HO_0 := n0_; have HB := n1_; have HK := n2_; clear n0_ n1_ n2_; clear hg hw hp_; have p6 : 0 ≤ (x5_1 : Int) := of_decide_eq_true (by first | (with_reducible assumption) | assumption); have q6 : (x5_1 : Int) < ((x0_1.length : Int) : Int) := of_decide_eq_true (by first | (with_reducible assumption) | assumption); obtain ⟨ce6, hcl6, hM6, hcc6, hfr6⟩ := Kd.R_elem HO_0.out z24 (x5_1 : Int) p6 q6; obtain rfl := k24_openM hM6; have hx6_0 : w14.cell? ⟨go5, (x5_1 : Int).toNat * 7, none⟩ = some (.bool ((rd_T24 y856 x5_1).f0)) := hcc6 0 _ rfl; have hx6_1 : w14.cell? ⟨go5, (x5_1 : Int).toNat * 7 + 1, none⟩ = some (.int .i64 ((rd_T24 y856 x5_1).f1)) := hcc6 1 _ rfl; have hx6_2 : w14.cell? ⟨go5, (x5_1 : Int).toNat * 7 + 2, none⟩ = some (.int .i64 ((rd_T24 y856 x5_1).f2)) := hcc6 2 _ rfl; have hx6_3 : w14.cell? ⟨go5, (x5_1 : Int).toNat * 7 + 3, none⟩ = some (.int .i64 ((rd_T24 y856 x5_1).f3)) := hcc6 3 _ rfl; have hx6_4 : w14.cell? ⟨go5, (x5_1 : Int).toNat * 7 + 4, none⟩ = some (.int .i64 ((rd_T24 y856 x5_1).f4)) := hcc6 4 _ rfl; have hx6_5 : w14.cell? ⟨go5, (x5_1 : Int).toNat * 7 + 5, none⟩ = some (.int .i64 ((rd_T24 y856 x5_1).f5)) := hcc6 5 _ rfl; have hx6_6 : w14.cell? ⟨go5, (x5_1 : Int).toNat * 7 + 6, none⟩ = some (.int .i64 ((rd_T24 y856 x5_1).f6)) := hcc6 6 _ rfl; have hf6_0 : w14.frozen? ⟨go5, (x5_1 : Int).toNat * 7, none⟩ = false := hfr6 0; have hf6_1 : w14.frozen? ⟨go5, (x5_1 : Int).toNat * 7 + 1, none⟩ = false := hfr6 1; have hf6_2 : w14.frozen? ⟨go5, (x5_1 : Int).toNat * 7 + 2, none⟩ = false := hfr6 2; have hf6_3 : w14.frozen? ⟨go5, (x5_1 : Int).toNat * 7 + 3, none⟩ = false := hfr6 3; have hf6_4 : w14.frozen? ⟨go5, (x5_1 : Int).toNat * 7 + 4, none⟩ = false := hfr6 4; have hf6_5 : w14.frozen? ⟨go5, (x5_1 : Int).toNat * 7 + 5, none⟩ = false := hfr6 5; have hf6_6 : w14.frozen? ⟨go5, (x5_1 : Int).toNat * 7 + 6, none⟩ = false := hfr6 6; clear hcl6 hcc6 hfr6 hM6; replace p6 := eq_true p6; replace q6 := eq_true q6; have HX15 := Aside0.mk (show Kd.R k24 24 w14 w0.heap.size (fun k_ => (P0_ k_ ∨ w.heap.size ≤ k_)) (.slice (some ⟨go5, 0, none⟩) x0_1.length co12) y856 from (rs HO_0)); obtain ⟨ce15, hcl15, hM15, hcc15, hfr15⟩ := Kd.R_elem HX15.out z24 (x5_1 : Int) (of_decide_eq_true (by first | (with_reducible assumption) | assumption)) (by have h_ : (x5_1 : Int) < ((x0_1.length : Int) : Int) := of_decide_eq_true (by first | (with_reducible assumption) | assumption); first | exact h_ | (have e_ := (Kd.R_reads' HO_0.out).1; omega) | simpa using h_); obtain rfl := k24_openM hM15; have HP15 := Kd.R_seg HX15.out (x5_1 : Int) (of_decide_eq_true (by first | (with_reducible assumption) | assumption)) (by have h_ : (x5_1 : Int) < ((x0_1.length : Int) : Int) := of_decide_eq_true (by first | (with_reducible assumption) | assumption); first | exact h_ | (have e_ := (Kd.R_reads' HO_0.out).1; omega) | simpa using h_) (seg := [.int .i64 (wrap64 (x1_1 + 1))]) (j := 1) hcl15 hcc15 (show 2 ≤ 7 from by decide) (x' := (⟨(rd_T24 y856 x5_1).f0, wrap64 (x1_1 + 1), (rd_T24 y856 x5_1).f2, (rd_T24 y856 x5_1).f3, (rd_T24 y856 x5_1).f4, (rd_T24 y856 x5_1).f5, (rd_T24 y856 x5_1).f6⟩ : S24)) (k24_mkM _ _ _ (⟨(rd_T24 y856 x5_1).f0, wrap64 (x1_1 + 1), (rd_T24 y856 x5_1).f2, (rd_T24 y856 x5_1).f3, (rd_T24 y856 x5_1).f4, (rd_T24 y856 x5_1).f5, (rd_T24 y856 x5_1).f6⟩ : S24) ) (fun _ hk => hk); have hx15_1 := hcc15 1 _ rfl; (try simp only [show (k24).sz = 7 from rfl, Nat.mul_one, Nat.add_zero] at hx15_1); have hf15_1 := hfr15 1; (try simp only [show (k24).sz = 7 from rfl, Nat.mul_one, Nat.add_zero] at hf15_1); clear hcl15 hcc15 hfr15 hM15) | ((with_reducible refine gate_store (t := 3) (p := 25) rfl ?_); refine store_event (t := 3) (p := 25) (v := ?vo_w16) (w1 := (w14.setCell ⟨go5, (x5_1 : Int).toNat * 7 + 1, none⟩ (.int .i64 (wrap64 (x1_1 + 1))))) ?hg ?ho ?hn ?hr ?_; (case ho => rfl); (case hg => rfl); (case hn => rfl); (case hr => first | (go_simp; done) | (go_simp; rfl)); intro w16 hw; have hg : w14.grownBy w16 (some go5) := (by rw [hw]; exact HP15.2); have hp_ : Kd.R k24 24 w16 w0.heap.size (fun k_ => (P0_ k_ ∨ w.heap.size ≤ k_)) (.slice (some ⟨go5, 0, none⟩) x0_1.length co12) y857 := (by rw [hw, Ny857.out]; exact HP15.1); clear HP15; have n0_ := Aside0.mk (hp_); have n1_ := Aside0.mk ((by rw [hw]; exact below_set (HB.out) GB5.out : Below w0.heap.size w0 w16)); have n2_ := Aside0.mk (Kept.of_grown (S := (fun k_ => P0_ k_)) hg (by repeat (first | (with_reducible first | exact HK.out | apply Kept.alloc | apply Kept.drewN | apply Kept.drew) | exact HK.out)) (fun k_ e_ => (HO_0.out.1 k_ e_))); clear HO_0; clear HB; clear HK; have HO_0 := n0_; have HB := n1_; have HK := n2_; clear n0_ n1_ n2_; clear hg hw hp_; have p7 : 0 ≤ (x5_1 : Int) := of_decide_eq_true (by first | (with_reducible assumption) | assumption); have q7 : (x5_1 : Int) < ((x0_1.length : Int) : Int) := of_decide_eq_true (by first | (with_reducible assumption) | assumption); obtain ⟨ce7, hcl7, hM7, hcc7, hfr7⟩ := Kd.R_elem HO_0.out z24 (x5_1 : Int) p7 q7; obtain rfl := k24_openM hM7; have hx7_0 : w16.cell? ⟨go5, (x5_1 : Int).toNat * 7, none⟩ = some (.bool ((rd_T24 y857 x5_1).f0)) := hcc7 0 _ rfl; have hx7_1 : w16.cell? ⟨go5, (x5_1 : Int).toNat * 7 + 1, none⟩ = some (.int .i64 ((rd_T24 y857 x5_1).f1)) := hcc7 1 _ rfl; have hx7_2 : w16.cell? ⟨go5, (x5_1 : Int).toNat * 7 + 2, none⟩ = some (.int .i64 ((rd_T24 y857 x5_1).f2)) := hcc7 2 _ rfl; have hx7_3 : w16.cell? ⟨go5, (x5_1 : Int).toNat * 7 + 3, none⟩ = some (.int .i64 ((rd_T24 y857 x5_1).f3)) := hcc7 3 _ rfl; have hx7_4 : w16.cell? ⟨go5, (x5_1 : Int).toNat * 7 + 4, none⟩ = some (.int .i64 ((rd_T24 y857 x5_1).f4)) := hcc7 4 _ rfl; have hx7_5 : w16.cell? ⟨go5, (x5_1 : Int).toNat * 7 + 5, none⟩ = some (.int .i64 ((rd_T24 y857 x5_1).f5)) := hcc7 5 _ rfl; have hx7_6 : w16.cell? ⟨go5, (x5_1 : Int).toNat * 7 + 6, none⟩ = some (.int .i64 ((rd_T24 y857 x5_1).f6)) := hcc7 6 _ rfl; have hf7_0 : w16.frozen? ⟨go5, (x5_1 : Int).toNat * 7, none⟩ = false := hfr7 0; have hf7_1 : w16.frozen? ⟨go5, (x5_1 : Int).toNat * 7 + 1, none⟩ = false := hfr7 1; have hf7_2 : w16.frozen? ⟨go5, (x5_1 : Int).toNat * 7 + 2, none⟩ = false := hfr7 2; have hf7_3 : w16.frozen? ⟨go5, (x5_1 : Int).toNat * 7 + 3, none⟩ = false := hfr7 3; have hf7_4 : w16.frozen? ⟨go5, (x5_1 : Int).toNat * 7 + 4, none⟩ = false := hfr7 4; have hf7_5 : w16.frozen? ⟨go5, (x5_1 : Int).toNat * 7 + 5, none⟩ = false := hfr7 5; have hf7_6 : w16.frozen? ⟨go5, (x5_1 : Int).toNat * 7 + 6, none⟩ = false := hfr7 6; clear hcl7 hcc7 hfr7 hM7; replace p7 := eq_true p7; replace q7 := eq_true q7; have HX17 := Aside0.mk (show Kd.R k24 24 w16 w0.heap.size (fun k_ => (P0_ k_ ∨ w.heap.size ≤ k_)) (.slice (some ⟨go5, 0, none⟩) x0_1.length co12) y857 from (rs HO_0)); obtain ⟨ce17, hcl17, hM17, hcc17, hfr17⟩ := Kd.R_elem HX17.out z24 (x5_1 : Int) (of_decide_eq_true (by first | (with_reducible assumption) | assumption)) (by have h_ : (x5_1 : Int) < ((x0_1.length : Int) : Int) := of_decide_eq_true (by first | (with_reducible assumption) | assumption); first | exact h_ | (have e_ := (Kd.R_reads' HO_0.out).1; omega) | simpa using h_); obtain rfl := k24_openM hM17; have HP17 := Kd.R_seg HX17.out (x5_1 : Int) (of_decide_eq_true (by first | (with_reducible assumption) | assumption)) (by have h_ : (x5_1 : Int) < ((x0_1.length : Int) : Int) := of_decide_eq_true (by first | (with_reducible assumption) | assumption); first | exact h_ | (have e_ := (Kd.R_reads' HO_0.out).1; omega) | simpa using h_) (seg := [.int .i64 (wrap64 ((wrap64 (x1_1 + 1)) + 1))]) (j := 2) hcl17 hcc17 (show 3 ≤ 7 from by decide) (x' := (⟨(rd_T24 y857 x5_1).f0, (rd_T24 y857 x5_1).f1, wrap64 ((wrap64 (x1_1 + 1)) + 1), (rd_T24 y857 x5_1).f3, (rd_T24 y857 x5_1).f4, (rd_T24 y857 x5_1).f5, (rd_T24 y857 x5_1).f6⟩ : S24)) (k24_mkM _ _ _ (⟨(rd_T24 y857 x5_1).f0, (rd_T24 y857 x5_1).f1, wrap64 ((wrap64 (x1_1 + 1)) + 1), (rd_T24 y857 x5_1).f3, (rd_T24 y857 x5_1).f4, (rd_T24 y857 x5_1).f5, (rd_T24 y857 x5_1).f6⟩ : S24) ) (fun _ hk => hk); have hx17_2 := hcc17 2 _ rfl; (try simp only [show (k24).sz = 7 from rfl, Nat.mul_one, Nat.add_zero] at hx17_2); have hf17_2 := hfr17 2; (try simp only [show (k24).sz = 7 from rfl, Nat.mul_one, Nat.add_zero] at hf17_2); clear hcl17 hcc17 hfr17 hM17) | ((with_reducible refine gate_store (t := 3) (p := 32) rfl ?_); refine store_event (t := 3) (p := 32) (v := ?vo_w18) (w1 := (w16.setCell ⟨go5, (x5_1 : Int).toNat * 7 + 2, none⟩ (.int .i64 (wrap64 ((wrap64 (x1_1 + 1)) + 1))))) ?hg ?ho ?hn ?hr ?_; (case ho => rfl); (case hg => rfl); (case hn => rfl); (case hr => first | (go_simp; done) | (go_simp; rfl)); intro w18 hw; have hg : w16.grownBy w18 (some go5) := (by rw [hw]; exact HP17.2); have hp_ : Kd.R k24 24 w18 w0.heap.size (fun k_ => (P0_ k_ ∨ w.heap.size ≤ k_)) (.slice (some ⟨go5, 0, none⟩) x0_1.length co12) y858 := (by rw [hw, Ny858.out]; exact HP17.1); clear HP17; have n0_ := Aside0.mk (hp_); have n1_ := Aside0.mk ((by rw [hw]; exact below_set (HB.out) GB5.out : Below w0.heap.size w0 w18)); have n2_ := Aside0.mk (Kept.of_grown (S := (fun k_ => P0_ k_)) hg (by repeat (first | (with_reducible first | exact HK.out | apply Kept.alloc | apply Kept.drewN | apply Kept.drew) | exact HK.out)) (fun k_ e_ => (HO_0.out.1 k_ e_))); clear HO_0; clear HB; clear HK; have HO_0 := n0_; have HB := n1_; have HK := n2_; clear n0_ n1_ n2_; clear hg hw hp_; have p8 : 0 ≤ (x5_1 : Int) := of_decide_eq_true (by first | (with_reducible assumption) | assumption); have q8 : (x5_1 : Int) < ((x0_1.length : Int) : Int) := of_decide_eq_true (by first | (with_reducible assumption) | assumption); obtain ⟨ce8, hcl8, hM8, hcc8, hfr8⟩ := Kd.R_elem HO_0.out z24 (x5_1 : Int) p8 q8; obtain rfl := k24_openM hM8; have hx8_0 : w18.cell? ⟨go5, (x5_1 : Int).toNat * 7, none⟩ = some (.bool ((rd_T24 y858 x5_1).f0)) := hcc8 0 _ rfl; have hx8_1 : w18.cell? ⟨go5, (x5_1 : Int).toNat * 7 + 1, none⟩ = some (.int .i64 ((rd_T24 y858 x5_1).f1)) := hcc8 1 _ rfl; have hx8_2 : w18.cell? ⟨go5, (x5_1 : Int).toNat * 7 + 2, none⟩ = some (.int .i64 ((rd_T24 y858 x5_1).f2)) := hcc8 2 _ rfl; have hx8_3 : w18.cell? ⟨go5, (x5_1 : Int).toNat * 7 + 3, none⟩ = some (.int .i64 ((rd_T24 y858 x5_1).f3)) := hcc8 3 _ rfl; have hx8_4 : w18.cell? ⟨go5, (x5_1 : Int).toNat * 7 + 4, none⟩ = some (.int .i64 ((rd_T24 y858 x5_1).f4)) := hcc8 4 _ rfl; have hx8_5 : w18.cell? ⟨go5, (x5_1 : Int).toNat * 7 + 5, none⟩ = some (.int .i64 ((rd_T24 y858 x5_1).f5)) := hcc8 5 _ rfl; have hx8_6 : w18.cell? ⟨go5, (x5_1 : Int).toNat * 7 + 6, none⟩ = some (.int .i64 ((rd_T24 y858 x5_1).f6)) := hcc8 6 _ rfl; have hf8_0 : w18.frozen? ⟨go5, (x5_1 : Int).toNat * 7, none⟩ = false := hfr8 0; have hf8_1 : w18.frozen? ⟨go5, (x5_1 : Int).toNat * 7 + 1, none⟩ = false := hfr8 1; have hf8_2 : w18.frozen? ⟨go5, (x5_1 : Int).toNat * 7 + 2, none⟩ = false := hfr8 2; have hf8_3 : w18.frozen? ⟨go5, (x5_1 : Int).toNat * 7 + 3, none⟩ = false := hfr8 3; have hf8_4 : w18.frozen? ⟨go5, (x5_1 : Int).toNat * 7 + 4, none⟩ = false := hfr8 4; have hf8_5 : w18.frozen? ⟨go5, (x5_1 : Int).toNat * 7 + 5, none⟩ = false := hfr8 5; have hf8_6 : w18.frozen? ⟨go5, (x5_1 : Int).toNat * 7 + 6, none⟩ = false := hfr8 6; clear hcl8 hcc8 hfr8 hM8; replace p8 := eq_true p8; replace q8 := eq_true q8; have HX19 := Aside0.mk (show Kd.R k24 24 w18 w0.heap.size (fun k_ => (P0_ k_ ∨ w.heap.size ≤ k_)) (.slice (some ⟨go5, 0, none⟩) x0_1.length co12) y858 from (rs HO_0)); obtain ⟨ce19, hcl19, hM19, hcc19, hfr19⟩ := Kd.R_elem HX19.out z24 (x5_1 : Int) (of_decide_eq_true (by first | (with_reducible assumption) | assumption)) (by have h_ : (x5_1 : Int) < ((x0_1.length : Int) : Int) := of_decide_eq_true (by first | (with_reducible assumption) | assumption); first | exact h_ | (have e_ := (Kd.R_reads' HO_0.out).1; omega) | simpa using h_); obtain rfl := k24_openM hM19; have HP19 := Kd.R_seg HX19.out (x5_1 : Int) (of_decide_eq_true (by first | (with_reducible assumption) | assumption)) (by have h_ : (x5_1 : Int) < ((x0_1.length : Int) : Int) := of_decide_eq_true (by first | (with_reducible assumption) | assumption); first | exact h_ | (have e_ := (Kd.R_reads' HO_0.out).1; omega) | simpa using h_) (seg := [.int .i64 (wrap64 ((wrap64 ((wrap64 (x1_1 + 1)) + 1)) + 1))]) (j := 3) hcl19 hcc19 (show 4 ≤ 7 from by decide) (x' := (⟨(rd_T24 y858 x5_1).f0, (rd_T24 y858 x5_1).f1, (rd_T24 y858 x5_1).f2, wrap64 ((wrap64 ((wrap64 (x1_1 + 1)) + 1)) + 1), (rd_T24 y858 x5_1).f4, (rd_T24 y858 x5_1).f5, (rd_T24 y858 x5_1).f6⟩ : S24)) (k24_mkM _ _ _ (⟨(rd_T24 y858 x5_1).f0, (rd_T24 y858 x5_1).f1, (rd_T24 y858 x5_1).f2, wrap64 ((wrap64 ((wrap64 (x1_1 + 1)) + 1)) + 1), (rd_T24 y858 x5_1).f4, (rd_T24 y858 x5_1).f5, (rd_T24 y858 x5_1).f6⟩ : S24) ) (fun _ hk => hk); have hx19_3 := hcc19 3 _ rfl; (try simp only [show (k24).sz = 7 from rfl, Nat.mul_one, Nat.add_zero] at hx19_3); have hf19_3 := hfr19 3; (try simp only [show (k24).sz = 7 from rfl, Nat.mul_one, Nat.add_zero] at hf19_3); clear hcl19 hcc19 hfr19 hM19) | ((with_reducible refine gate_store (t := 3) (p := 39) rfl ?_); refine store_event (t := 3) (p := 39) (v := ?vo_w20) (w1 := (w18.setCell ⟨go5, (x5_1 : Int).toNat * 7 + 3, none⟩ (.int .i64 (wrap64 ((wrap64 ((wrap64 (x1_1 + 1)) + 1)) + 1))))) ?hg ?ho ?hn ?hr ?_; (case ho => rfl); (case hg => rfl); (case hn => rfl); (case hr => first | (go_simp; done) | (go_simp; rfl)); intro w20 hw; have hg : w18.grownBy w20 (some go5) := (by rw [hw]; exact HP19.2); have hp_ : Kd.R k24 24 w20 w0.heap.size (fun k_ => (P0_ k_ ∨ w.heap.size ≤ k_)) (.slice (some ⟨go5, 0, none⟩) x0_1.length co12) y859 := (by rw [hw, Ny859.out]; exact HP19.1); clear HP19; have n0_ := Aside0.mk (hp_); have n1_ := Aside0.mk ((by rw [hw]; exact below_set (HB.out) GB5.out : Below w0.heap.size w0 w20)); have n2_ := Aside0.mk (Kept.of_grown (S := (fun k_ => P0_ k_)) hg (by repeat (first | (with_reducible first | exact HK.out | apply Kept.alloc | apply Kept.drewN | apply Kept.drew) | exact HK.out)) (fun k_ e_ => (HO_0.out.1 k_ e_))); clear HO_0; clear HB; clear HK; have HO_0 := n0_; have HB := n1_; have HK := n2_; clear n0_ n1_ n2_; clear hg hw hp_; have p9 : 0 ≤ (x5_1 : Int) := of_decide_eq_true (by first | (with_reducible assumption) | assumption); have q9 : (x5_1 : Int) < ((x0_1.length : Int) : Int) := of_decide_eq_true (by first | (with_reducible assumption) | assumption); obtain ⟨ce9, hcl9, hM9, hcc9, hfr9⟩ := Kd.R_elem HO_0.out z24 (x5_1 : Int) p9 q9; obtain rfl := k24_openM hM9; have hx9_0 : w20.cell? ⟨go5, (x5_1 : Int).toNat * 7, none⟩ = some (.bool ((rd_T24 y859 x5_1).f0)) := hcc9 0 _ rfl; have hx9_1 : w20.cell? ⟨go5, (x5_1 : Int).toNat * 7 + 1, none⟩ = some (.int .i64 ((rd_T24 y859 x5_1).f1)) := hcc9 1 _ rfl; have hx9_2 : w20.cell? ⟨go5, (x5_1 : Int).toNat * 7 + 2, none⟩ = some (.int .i64 ((rd_T24 y859 x5_1).f2)) := hcc9 2 _ rfl; have hx9_3 : w20.cell? ⟨go5, (x5_1 : Int).toNat * 7 + 3, none⟩ = some (.int .i64 ((rd_T24 y859 x5_1).f3)) := hcc9 3 _ rfl; have hx9_4 : w20.cell? ⟨go5, (x5_1 : Int).toNat * 7 + 4, none⟩ = some (.int .i64 ((rd_T24 y859 x5_1).f4)) := hcc9 4 _ rfl; have hx9_5 : w20.cell? ⟨go5, (x5_1 : Int).toNat * 7 + 5, none⟩ = some (.int .i64 ((rd_T24 y859 x5_1).f5)) := hcc9 5 _ rfl; have hx9_6 : w20.cell? ⟨go5, (x5_1 : Int).toNat * 7 + 6, none⟩ = some (.int .i64 ((rd_T24 y859 x5_1).f6)) := hcc9 6 _ rfl; have hf9_0 : w20.frozen? ⟨go5, (x5_1 : Int).toNat * 7, none⟩ = false := hfr9 0; have hf9_1 : w20.frozen? ⟨go5, (x5_1 : Int).toNat * 7 + 1, none⟩ = false := hfr9 1; have hf9_2 : w20.frozen? ⟨go5, (x5_1 : Int).toNat * 7 + 2, none⟩ = false := hfr9 2; have hf9_3 : w20.frozen? ⟨go5, (x5_1 : Int).toNat * 7 + 3, none⟩ = false := hfr9 3; have hf9_4 : w20.frozen? ⟨go5, (x5_1 : Int).toNat * 7 + 4, none⟩ = false := hfr9 4; have hf9_5 : w20.frozen? ⟨go5, (x5_1 : Int).toNat * 7 + 5, none⟩ = false := hfr9 5; have hf9_6 : w20.frozen? ⟨go5, (x5_1 : Int).toNat * 7 + 6, none⟩ = false := hfr9 6; clear hcl9 hcc9 hfr9 hM9; replace p9 := eq_true p9; replace q9 := eq_true q9; have HX21 := Aside0.mk (show Kd.R k24 24 w20 w0.heap.size (fun k_ => (P0_ k_ ∨ w.heap.size ≤ k_)) (.slice (some ⟨go5, 0, none⟩) x0_1.length co12) y859 from (rs HO_0)); obtain ⟨ce21, hcl21, hM21, hcc21, hfr21⟩ := Kd.R_elem HX21.out z24 (x5_1 : Int) (of_decide_eq_true (by first | (with_reducible assumption) | assumption)) (by have h_ : (x5_1 : Int) < ((x0_1.length : Int) : Int) := of_decide_eq_true (by first | (with_reducible assumption) | assumption); first | exact h_ | (have e_ := (Kd.R_reads' HO_0.out).1; omega) | simpa using h_); obtain rfl := k24_openM hM21; have HP21 := Kd.R_seg HX21.out (x5_1 : Int) (of_decide_eq_true (by first | (with_reducible assumption) | assumption)) (by have h_ : (x5_1 : Int) < ((x0_1.length : Int) : Int) := of_decide_eq_true (by first | (with_reducible assumption) | assumption); first | exact h_ | (have e_ := (Kd.R_reads' HO_0.out).1; omega) | simpa using h_) (seg := [.int .i64 (wrap64 ((wrap64 ((wrap64 ((wrap64 (x1_1 + 1)) + 1)) + 1)) + 1))]) (j := 4) hcl21 hcc21 (show 5 ≤ 7 from by decide) (x' := (⟨(rd_T24 y859 x5_1).f0, (rd_T24 y859 x5_1).f1, (rd_T24 y859 x5_1).f2, (rd_T24 y859 x5_1).f3, wrap64 ((wrap64 ((wrap64 ((wrap64 (x1_1 + 1)) + 1)) + 1)) + 1), (rd_T24 y859 x5_1).f5, (rd_T24 y859 x5_1).f6⟩ : S24)) (k24_mkM _ _ _ (⟨(rd_T24 y859 x5_1).f0, (rd_T24 y859 x5_1).f1, (rd_T24 y859 x5_1).f2, (rd_T24 y859 x5_1).f3, wrap64 ((wrap64 ((wrap64 ((wrap64 (x1_1 + 1)) + 1)) + 1)) + 1), (rd_T24 y859 x5_1).f5, (rd_T24 y859 x5_1).f6⟩ : S24) ) (fun _ hk => hk); have hx21_4 := hcc21 4 _ rfl; (try simp only [show (k24).sz = 7 from rfl, Nat.mul_one, Nat.add_zero] at hx21_4); have hf21_4 := hfr21 4; (try simp only [show (k24).sz = 7 from rfl, Nat.mul_one, Nat.add_zero] at hf21_4); clear hcl21 hcc21 hfr21 hM21) | ((with_reducible refine gate_store (t := 3) (p := 46) rfl ?_); refine store_event (t := 3) (p := 46) (v := ?vo_w22) (w1 := (w20.setCell ⟨go5, (x5_1 : Int).toNat * 7 + 4, none⟩ (.int .i64 (wrap64 ((wrap64 ((wrap64 ((wrap64 (x1_1 + 1)) + 1)) + 1)) + 1))))) ?hg ?ho ?hn ?hr ?_; (case ho => rfl); (case hg => rfl); (case hn => rfl); (case hr => first | (go_simp; done) | (go_simp; rfl)); intro w22 hw; have hg : w20.grownBy w22 (some go5) := (by rw [hw]; exact HP21.2); have hp_ : Kd.R k24 24 w22 w0.heap.size (fun k_ => (P0_ k_ ∨ w.heap.size ≤ k_)) (.slice (some ⟨go5, 0, none⟩) x0_1.length co12) y860 := (by rw [hw, Ny860.out]; exact HP21.1); clear HP21; have n0_ := Aside0.mk (hp_); have n1_ := Aside0.mk ((by rw [hw]; exact below_set (HB.out) GB5.out : Below w0.heap.size w0 w22)); have n2_ := Aside0.mk (Kept.of_grown (S := (fun k_ => P0_ k_)) hg (by repeat (first | (with_reducible first | exact HK.out | apply Kept.alloc | apply Kept.drewN | apply Kept.drew) | exact HK.out)) (fun k_ e_ => (HO_0.out.1 k_ e_))); clear HO_0; clear HB; clear HK; have HO_0 := n0_; have HB := n1_; have HK := n2_; clear n0_ n1_ n2_; clear hg hw hp_; have p10 : 0 ≤ (x5_1 : Int) := of_decide_eq_true (by first | (with_reducible assumption) | assumption); have q10 : (x5_1 : Int) < ((x0_1.length : Int) : Int) := of_decide_eq_true (by first | (with_reducible assumption) | assumption); obtain ⟨ce10, hcl10, hM10, hcc10, hfr10⟩ := Kd.R_elem HO_0.out z24 (x5_1 : Int) p10 q10; obtain rfl := k24_openM hM10; have hx10_0 : w22.cell? ⟨go5, (x5_1 : Int).toNat * 7, none⟩ = some (.bool ((rd_T24 y860 x5_1).f0)) := hcc10 0 _ rfl; have hx10_1 : w22.cell? ⟨go5, (x5_1 : Int).toNat * 7 + 1, none⟩ = some (.int .i64 ((rd_T24 y860 x5_1).f1)) := hcc10 1 _ rfl; have hx10_2 : w22.cell? ⟨go5, (x5_1 : Int).toNat * 7 + 2, none⟩ = some (.int .i64 ((rd_T24 y860 x5_1).f2)) := hcc10 2 _ rfl; have hx10_3 : w22.cell? ⟨go5, (x5_1 : Int).toNat * 7 + 3, none⟩ = some (.int .i64 ((rd_T24 y860 x5_1).f3)) := hcc10 3 _ rfl; have hx10_4 : w22.cell? ⟨go5, (x5_1 : Int).toNat * 7 + 4, none⟩ = some (.int .i64 ((rd_T24 y860 x5_1).f4)) := hcc10 4 _ rfl; have hx10_5 : w22.cell? ⟨go5, (x5_1 : Int).toNat * 7 + 5, none⟩ = some (.int .i64 ((rd_T24 y860 x5_1).f5)) := hcc10 5 _ rfl; have hx10_6 : w22.cell? ⟨go5, (x5_1 : Int).toNat * 7 + 6, none⟩ = some (.int .i64 ((rd_T24 y860 x5_1).f6)) := hcc10 6 _ rfl; have hf10_0 : w22.frozen? ⟨go5, (x5_1 : Int).toNat * 7, none⟩ = false := hfr10 0; have hf10_1 : w22.frozen? ⟨go5, (x5_1 : Int).toNat * 7 + 1, none⟩ = false := hfr10 1; have hf10_2 : w22.frozen? ⟨go5, (x5_1 : Int).toNat * 7 + 2, none⟩ = false := hfr10 2; have hf10_3 : w22.frozen? ⟨go5, (x5_1 : Int).toNat * 7 + 3, none⟩ = false := hfr10 3; have hf10_4 : w22.frozen? ⟨go5, (x5_1 : Int).toNat * 7 + 4, none⟩ = false := hfr10 4; have hf10_5 : w22.frozen? ⟨go5, (x5_1 : Int).toNat * 7 + 5, none⟩ = false := hfr10 5; have hf10_6 : w22.frozen? ⟨go5, (x5_1 : Int).toNat * 7 + 6, none⟩ = false := hfr10 6; clear hcl10 hcc10 hfr10 hM10; replace p10 := eq_true p10; replace q10 := eq_true q10; have HX23 := Aside0.mk (show Kd.R k24 24 w22 w0.heap.size (fun k_ => (P0_ k_ ∨ w.heap.size ≤ k_)) (.slice (some ⟨go5, 0, none⟩) x0_1.length co12) y860 from (rs HO_0)); obtain ⟨ce23, hcl23, hM23, hcc23, hfr23⟩ := Kd.R_elem HX23.out z24 (x5_1 : Int) (of_decide_eq_true (by first | (with_reducible assumption) | assumption)) (by have h_ : (x5_1 : Int) < ((x0_1.length : Int) : Int) := of_decide_eq_true (by first | (with_reducible assumption) | assumption); first | exact h_ | (have e_ := (Kd.R_reads' HO_0.out).1; omega) | simpa using h_); obtain rfl := k24_openM hM23; have HP23 := Kd.R_seg HX23.out (x5_1 : Int) (of_decide_eq_true (by first | (with_reducible assumption) | assumption)) (by have h_ : (x5_1 : Int) < ((x0_1.length : Int) : Int) := of_decide_eq_true (by first | (with_reducible assumption) | assumption); first | exact h_ | (have e_ := (Kd.R_reads' HO_0.out).1; omega) | simpa using h_) (seg := [.int .i64 (wrap64 ((wrap64 ((wrap64 ((wrap64 ((wrap64 (x1_1 + 1)) + 1)) + 1)) + 1)) + 1))]) (j := 5) hcl23 hcc23 (show 6 ≤ 7 from by decide) (x' := (⟨(rd_T24 y860 x5_1).f0, (rd_T24 y860 x5_1).f1, (rd_T24 y860 x5_1).f2, (rd_T24 y860 x5_1).f3, (rd_T24 y860 x5_1).f4, wrap64 ((wrap64 ((wrap64 ((wrap64 ((wrap64 (x1_1 + 1)) + 1)) + 1)) + 1)) + 1), (rd_T24 y860 x5_1).f6⟩ : S24)) (k24_mkM _ _ _ (⟨(rd_T24 y860 x5_1).f0, (rd_T24 y860 x5_1).f1, (rd_T24 y860 x5_1).f2, (rd_T24 y860 x5_1).f3, (rd_T24 y860 x5_1).f4, wrap64 ((wrap64 ((wrap64 ((wrap64 ((wrap64 (x1_1 + 1)) + 1)) + 1)) + 1)) + 1), (rd_T24 y860 x5_1).f6⟩ : S24) ) (fun _ hk => hk); have hx23_5 := hcc23 5 _ rfl; (try simp only [show (k24).sz = 7 from rfl, Nat.mul_one, Nat.add_zero] at hx23_5); have hf23_5 := hfr23 5; (try simp only [show (k24).sz = 7 from rfl, Nat.mul_one, Nat.add_zero] at hf23_5); clear hcl23 hcc23 hfr23 hM23) | ((with_reducible refine gate_store (t := 3) (p := 53) rfl ?_); refine store_event (t := 3) (p := 53) (v := ?vo_w24) (w1 := (w22.setCell ⟨go5, (x5_1 : Int).toNat * 7 + 5, none⟩ (.int .i64 (wrap64 ((wrap64 ((wrap64 ((wrap64 ((wrap64 (x1_1 + 1)) + 1)) + 1)) + 1)) + 1))))) ?hg ?ho ?hn ?hr ?_; (case ho => rfl); (case hg => rfl); (case hn => rfl); (case hr => first | (go_simp; done) | (go_simp; rfl)); intro w24 hw; have hg : w22.grownBy w24 (some go5) := (by rw [hw]; exact HP23.2); have hp_ : Kd.R k24 24 w24 w0.heap.size (fun k_ => (P0_ k_ ∨ w.heap.size ≤ k_)) (.slice (some ⟨go5, 0, none⟩) x0_1.length co12) y861 := (by rw [hw, Ny861.out]; exact HP23.1); clear HP23; have n0_ := Aside0.mk (hp_); have n1_ := Aside0.mk ((by rw [hw]; exact below_set (HB.out) GB5.out : Below w0.heap.size w0 w24)); have n2_ := Aside0.mk (Kept.of_grown (S := (fun k_ => P0_ k_)) hg (by repeat (first | (with_reducible first | exact HK.out | apply Kept.alloc | apply Kept.drewN | apply Kept.drew) | exact HK.out)) (fun k_ e_ => (HO_0.out.1 k_ e_))); clear HO_0; clear HB; clear HK; have HO_0 := n0_; have HB := n1_; have HK := n2_; clear n0_ n1_ n2_; clear hg hw hp_; have p11 : 0 ≤ (x5_1 : Int) := of_decide_eq_true (by first | (with_reducible assumption) | assumption); have q11 : (x5_1 : Int) < ((x0_1.length : Int) : Int) := of_decide_eq_true (by first | (with_reducible assumption) | assumption); obtain ⟨ce11, hcl11, hM11, hcc11, hfr11⟩ := Kd.R_elem HO_0.out z24 (x5_1 : Int) p11 q11; obtain rfl := k24_openM hM11; have hx11_0 : w24.cell? ⟨go5, (x5_1 : Int).toNat * 7, none⟩ = some (.bool ((rd_T24 y861 x5_1).f0)) := hcc11 0 _ rfl; have hx11_1 : w24.cell? ⟨go5, (x5_1 : Int).toNat * 7 + 1, none⟩ = some (.int .i64 ((rd_T24 y861 x5_1).f1)) := hcc11 1 _ rfl; have hx11_2 : w24.cell? ⟨go5, (x5_1 : Int).toNat * 7 + 2, none⟩ = some (.int .i64 ((rd_T24 y861 x5_1).f2)) := hcc11 2 _ rfl; have hx11_3 : w24.cell? ⟨go5, (x5_1 : Int).toNat * 7 + 3, none⟩ = some (.int .i64 ((rd_T24 y861 x5_1).f3)) := hcc11 3 _ rfl; have hx11_4 : w24.cell? ⟨go5, (x5_1 : Int).toNat * 7 + 4, none⟩ = some (.int .i64 ((rd_T24 y861 x5_1).f4)) := hcc11 4 _ rfl; have hx11_5 : w24.cell? ⟨go5, (x5_1 : Int).toNat * 7 + 5, none⟩ = some (.int .i64 ((rd_T24 y861 x5_1).f5)) := hcc11 5 _ rfl; have hx11_6 : w24.cell? ⟨go5, (x5_1 : Int).toNat * 7 + 6, none⟩ = some (.int .i64 ((rd_T24 y861 x5_1).f6)) := hcc11 6 _ rfl; have hf11_0 : w24.frozen? ⟨go5, (x5_1 : Int).toNat * 7, none⟩ = false := hfr11 0; have hf11_1 : w24.frozen? ⟨go5, (x5_1 : Int).toNat * 7 + 1, none⟩ = false := hfr11 1; have hf11_2 : w24.frozen? ⟨go5, (x5_1 : Int).toNat * 7 + 2, none⟩ = false := hfr11 2; have hf11_3 : w24.frozen? ⟨go5, (x5_1 : Int).toNat * 7 + 3, none⟩ = false := hfr11 3; have hf11_4 : w24.frozen? ⟨go5, (x5_1 : Int).toNat * 7 + 4, none⟩ = false := hfr11 4; have hf11_5 : w24.frozen? ⟨go5, (x5_1 : Int).toNat * 7 + 5, none⟩ = false := hfr11 5; have hf11_6 : w24.frozen? ⟨go5, (x5_1 : Int).toNat * 7 + 6, none⟩ = false := hfr11 6; clear hcl11 hcc11 hfr11 hM11; replace p11 := eq_true p11; replace q11 := eq_true q11; have HX25 := Aside0.mk (show Kd.R k24 24 w24 w0.heap.size (fun k_ => (P0_ k_ ∨ w.heap.size ≤ k_)) (.slice (some ⟨go5, 0, none⟩) x0_1.length co12) y861 from (rs HO_0)); obtain ⟨ce25, hcl25, hM25, hcc25, hfr25⟩ := Kd.R_elem HX25.out z24 (x5_1 : Int) (of_decide_eq_true (by first | (with_reducible assumption) | assumption)) (by have h_ : (x5_1 : Int) < ((x0_1.length : Int) : Int) := of_decide_eq_true (by first | (with_reducible assumption) | assumption); first | exact h_ | (have e_ := (Kd.R_reads' HO_0.out).1; omega) | simpa using h_); obtain rfl := k24_openM hM25; have HP25 := Kd.R_seg HX25.out (x5_1 : Int) (of_decide_eq_true (by first | (with_reducible assumption) | assumption)) (by have h_ : (x5_1 : Int) < ((x0_1.length : Int) : Int) := of_decide_eq_true (by first | (with_reducible assumption) | assumption); first | exact h_ | (have e_ := (Kd.R_reads' HO_0.out).1; omega) | simpa using h_) (seg := [.int .i64 (wrap64 ((wrap64 ((wrap64 ((wrap64 ((wrap64 ((wrap64 (x1_1 + 1)) + 1)) + 1)) + 1)) + 1)) + 1))]) (j := 6) hcl25 hcc25 (show 7 ≤ 7 from by decide) (x' := (⟨(rd_T24 y861 x5_1).f0, (rd_T24 y861 x5_1).f1, (rd_T24 y861 x5_1).f2, (rd_T24 y861 x5_1).f3, (rd_T24 y861 x5_1).f4, (rd_T24 y861 x5_1).f5, wrap64 ((wrap64 ((wrap64 ((wrap64 ((wrap64 ((wrap64 (x1_1 + 1)) + 1)) + 1)) + 1)) + 1)) + 1)⟩ : S24)) (k24_mkM _ _ _ (⟨(rd_T24 y861 x5_1).f0, (rd_T24 y861 x5_1).f1, (rd_T24 y861 x5_1).f2, (rd_T24 y861 x5_1).f3, (rd_T24 y861 x5_1).f4, (rd_T24 y861 x5_1).f5, wrap64 ((wrap64 ((wrap64 ((wrap64 ((wrap64 ((wrap64 (x1_1 + 1)) + 1)) + 1)) + 1)) + 1)) + 1)⟩ : S24) ) (fun _ hk => hk); have hx25_6 := hcc25 6 _ rfl; (try simp only [show (k24).sz = 7 from rfl, Nat.mul_one, Nat.add_zero] at hx25_6); have hf25_6 := hfr25 6; (try simp only [show (k24).sz = 7 from rfl, Nat.mul_one, Nat.add_zero] at hf25_6); clear hcl25 hcc25 hfr25 hM25) | ((with_reducible refine gate_store (t := 3) (p := 60) rfl ?_); refine store_event (t := 3) (p := 60) (v := ?vo_w26) (w1 := (w24.setCell ⟨go5, (x5_1 : Int).toNat * 7 + 6, none⟩ (.int .i64 (wrap64 ((wrap64 ((wrap64 ((wrap64 ((wrap64 ((wrap64 (x1_1 + 1)) + 1)) + 1)) + 1)) + 1)) + 1))))) ?hg ?ho ?hn ?hr ?_; (case ho => rfl); (case hg => rfl); (case hn => rfl); (case hr => first | (go_simp; done) | (go_simp; rfl)); intro w26 hw; have hg : w24.grownBy w26 (some go5) := (by rw [hw]; exact HP25.2); have hp_ : Kd.R k24 24 w26 w0.heap.size (fun k_ => (P0_ k_ ∨ w.heap.size ≤ k_)) (.slice (some ⟨go5, 0, none⟩) x0_1.length co12) y862 := (by rw [hw, Ny862.out]; exact HP25.1); clear HP25; have n0_ := Aside0.mk (hp_); have n1_ := Aside0.mk ((by rw [hw]; exact below_set (HB.out) GB5.out : Below w0.heap.size w0 w26)); have n2_ := Aside0.mk (Kept.of_grown (S := (fun k_ => P0_ k_)) hg (by repeat (first | (with_reducible first | exact HK.out | apply Kept.alloc | apply Kept.drewN | apply Kept.drew) | exact HK.out)) (fun k_ e_ => (HO_0.out.1 k_ e_))); clear HO_0; clear HB; clear HK; have HO_0 := n0_; have HB := n1_; have HK := n2_; clear n0_ n1_ n2_; clear hg hw hp_))
          go_roundg k1
          case measure => have := HK1.out; omega
          case rel => exact ⟨(y862), (wrap64 ((wrap64 ((wrap64 ((wrap64 ((wrap64 ((wrap64 ((wrap64 (x1_1 + 1)) + 1)) + 1)) + 1)) + 1)) + 1)) + 1)), (wrap64 (x5_1 + 1)), (by first | rfl | (simp; done) | (simp [*]; done)), (by first | rfl | (simp; done) | (simp [*]; done)), H', ⟨by have := HK1.out; omega⟩, ⟨by (with_reducible repeat apply ru); exact HO_0.out⟩, ⟨by repeat (first | (with_reducible first | exact HK.out | apply Kept.alloc | apply Kept.drewN | apply Kept.drew) | exact HK.out)⟩, ⟨by repeat (first | (with_reducible first | exact HB.out | apply below_alloc | apply pw_below_drewN | apply below_drew1) | exact HB.out)⟩⟩
        · rw [if_neg c4] at H
          exact absurd H (by simp)
      · rw [if_neg c3] at H
        have c3b0 : decide (x5_1 < (x0_1.length : Int)) = false := decide_eq_false c3
        clear c3
        simp only [Option.some.injEq, Prod.mk.injEq] at H
        obtain ⟨rfl, rfl⟩ := H
        obtain ⟨Ao27, co27, eo27⟩ := Kd.R_slice HO_0.out
        subst eo27
        go_wp2
        go_ret
        exact ⟨by first | rfl | (simp [errW_none, errW_some] <;> rfl) | (simp [*, errW_none, errW_some] <;> rfl), by (with_reducible repeat apply ru); exact HO_0.out, by repeat (first | (with_reducible first | exact HB.out | apply below_alloc | apply pw_below_drewN | apply below_drew1) | exact HB.out), by repeat (first | (with_reducible first | exact HK.out | apply Kept.alloc | apply Kept.drewN | apply Kept.drew) | exact HK.out)⟩

end Go.Proofs.Ytiocgkggegahhaa.P

-- written by hw.py for this claim
namespace Go.Proofs.Ytiocgkggegahhaa.P
open Go.RowKit Go.Proofs.YtiocgkggegahhaaUFnExactBoxNew.PrintWords Go.Proofs.YtiocgkggegahhaaUFnExactBoxNew.PrintLast Go.Proofs.YtiocgkggegahhaaUFnExactBoxNew.PrintMore
attribute [local go_sem] max2_int min2_int max_two min_two max_three min_three max_four min_four
set_option linter.unusedVariables false
set_option linter.unusedSimpArgs false

/-! ### laws_markEndPointS: function 73 -/
def laws_markEndPointS.l0 : Nat → List (S29) → Int → Int → Option (Int × (List (S29)))
  | 0, _, _, _ => none
  | k + 1, x0, x1, x5 => if x5 < (x0.length : Int) then (if 0 ≤ x5 then ((some (x0.set (x5 : Int).toNat (⟨x1, (rd_T29 x0 x5).f1⟩ : S29) : List (S29))).bind fun y728 => (laws_markEndPointS.l0 k (y728.set (x5 : Int).toNat (⟨(rd_T29 y728 x5).f0, wrap64 (x1 + 1)⟩ : S29)) (wrap64 ((wrap64 (x1 + 1)) + 1)) (wrap64 (x5 + 1)))) else (none)) else (some (x1, x0))
def laws_markEndPointS.f (k : Nat) (l0 : List (S29)) (a1 : Int) : Option (Int × (List (S29))) := laws_markEndPointS.l0 k l0 a1 0
theorem laws_markEndPointS.mono_l : ∀ k, (∀ y0 y1 y2, LeO (laws_markEndPointS.l0 k y0 y1 y2) (laws_markEndPointS.l0 (k + 1) y0 y1 y2))
  | 0 => fun _ _ _ r h => by simp [laws_markEndPointS.l0] at h
  | k + 1 => by
    have ih0 := laws_markEndPointS.mono_l k
    · intro y0 y1 y2
      unfold laws_markEndPointS.l0
      repeat' first
      | (with_reducible exact ih0 _ _ _)
      | (with_reducible exact LeO.refl _)
      | (with_reducible exact LeO.none _)
      | (with_reducible refine LeO.ite ?_ ?_)
      | (with_reducible refine LeO.bind ?_ (fun _ => ?_))
      | exact ih0 _ _ _
      | exact LeO.none _
      | refine LeO.ite ?_ ?_
      | refine LeO.bind ?_ (fun _ => ?_)
theorem laws_markEndPointS.mono : ∀ a0 a1 k, LeO (laws_markEndPointS.f k a0 a1) (laws_markEndPointS.f (k + 1) a0 a1) := by
  intro a0 a1 k
  have ih0 := laws_markEndPointS.mono_l k
  unfold laws_markEndPointS.f
  repeat' first
      | (with_reducible exact ih0 _ _ _)
      | (with_reducible exact LeO.refl _)
      | (with_reducible exact LeO.none _)
      | (with_reducible refine LeO.ite ?_ ?_)
      | (with_reducible refine LeO.bind ?_ (fun _ => ?_))
      | exact ih0 _ _ _
      | exact LeO.none _
      | refine LeO.ite ?_ ?_
      | refine LeO.bind ?_ (fun _ => ?_)
set_option maxHeartbeats 8000000 in
set_option maxRecDepth 100000 in
theorem laws_markEndPointS.calls (k : Nat) (P0_ : Nat → Prop) (u9000_ : Value) (l0 : List (S29)) (a1 : Int) (r1 : Int) (r2 : List (S29)) (w0 w : World) (hB : Below w0.heap.size w0 w) (ho0 : Kd.R k29 29 w w0.heap.size P0_ u9000_ l0) (h : laws_markEndPointS.f k l0 a1 = some (r1, r2)) :
    Calls Try.prog 73 #[u9000_, .int .i64 a1] w fun e w' => e = .returned (.int .i64 r1) ∧ Kd.R k29 29 w' w0.heap.size (fun k_ => (P0_ k_ ∨ w.heap.size ≤ k_)) u9000_ r2 ∧ Below w0.heap.size w0 w' ∧ Kept w w' (fun k_ => P0_ k_) := by
  have HO0 := Aside0.mk (show Kd.R k29 29 w w0.heap.size (fun k_ => (P0_ k_ ∨ w.heap.size ≤ k_)) u9000_ l0 from Kd.R_mono ho0 (fun k_ hk => (.inl hk)))
  have HK := Aside0.mk (Kept.refl w (fun k_ => P0_ k_))
  have HW0 := Aside0.mk hB.size
  have HB := Aside0.mk hB
  clear hB
  have H : (laws_markEndPointS.l0 k l0 a1 0) = some (r1, r2) := h
  clear h
  have H' := Aside0.mk H
  clear H
  go_enter Try.func73, Try.ntmps73
  go_wp2
  go_loopg [1, 5] k (fun kq v1 v5 w' => ∃ (x0_1 : List (S29)) (x1_1 : Int) (x5_1 : Int), v1 = .int .i64 x1_1 ∧ v5 = .int .i64 x5_1 ∧ Aside0 (laws_markEndPointS.l0 kq x0_1 x1_1 x5_1 = some (r1, r2)) ∧ Aside0 (kq ≤ k) ∧ Aside0 (Kd.R k29 29 w' w0.heap.size (fun k_ => (P0_ k_ ∨ w.heap.size ≤ k_)) u9000_ x0_1) ∧ Aside0 (Kept w w' (fun k_ => P0_ k_)) ∧ Aside0 (Below w0.heap.size w0 w'))
  case atStart => exact ⟨(l0), (a1), (0), (by first | rfl | (simp; done) | (simp [*]; done)), (by first | rfl | (simp; done) | (simp [*]; done)), H', ⟨Nat.le_refl _⟩, ⟨by (with_reducible repeat apply ru); exact HO0.out⟩, ⟨by repeat (first | (with_reducible first | exact HK.out | apply Kept.alloc | apply Kept.drewN | apply Kept.drew) | exact HK.out)⟩, ⟨by repeat (first | (with_reducible first | exact HB.out | apply below_alloc | apply pw_below_drewN | apply below_drew1) | exact HB.out)⟩⟩
  case round =>
    clear H'
    try clear p2
    obtain ⟨x0_1, x1_1, x5_1, rfl, rfl, HA, HK1, HO_0, HK, HB⟩ := hrel
    cases gk with
    | zero => exact absurd HA.out (by simp [laws_markEndPointS.l0])
    | succ k1 =>
      have H := HA.out
      clear HA
      simp only [laws_markEndPointS.l0] at H
      by_cases c3 : x5_1 < (x0_1.length : Int)
      · rw [if_pos c3] at H
        have c3b0 : decide (x5_1 < (x0_1.length : Int)) = true := decide_eq_true c3
        clear c3
        by_cases c4 : 0 ≤ x5_1
        · rw [if_pos c4] at H
          have c4b0 : decide (0 ≤ x5_1) = true := decide_eq_true c4
          clear c4
          obtain ⟨y728, hy728⟩ : ∃ y_ : List (S29), y_ = (x0_1.set (x5_1 : Int).toNat (⟨x1_1, (rd_T29 x0_1 x5_1).f1⟩ : S29)) := ⟨_, rfl⟩
          replace H : (laws_markEndPointS.l0 k1 (y728.set (x5_1 : Int).toNat (⟨(rd_T29 y728 x5_1).f0, wrap64 (x1_1 + 1)⟩ : S29)) (wrap64 ((wrap64 (x1_1 + 1)) + 1)) (wrap64 (x5_1 + 1))) = some (r1, r2) := by first | (rw [hy728]; with_reducible exact H) | (have H2_ := (Option.bind_some _ _).symm.trans H; rw [hy728]; with_reducible exact H2_) | (have H2_ := (Option.bind_some _ _).symm.trans H; with_reducible exact H2_) | with_reducible exact H | (rw [hy728]; exact H) | exact H
          have Ny728 := Aside0.mk hy728
          clear hy728
          obtain ⟨y729, hy729⟩ : ∃ y_ : List (S29), y_ = (y728.set (x5_1 : Int).toNat (⟨(rd_T29 y728 x5_1).f0, wrap64 (x1_1 + 1)⟩ : S29)) := ⟨_, rfl⟩
          replace H : (laws_markEndPointS.l0 k1 y729 (wrap64 ((wrap64 (x1_1 + 1)) + 1)) (wrap64 (x5_1 + 1))) = some (r1, r2) := by first | (rw [hy729]; with_reducible exact H) | (have H2_ := (Option.bind_some _ _).symm.trans H; rw [hy729]; with_reducible exact H2_) | (have H2_ := (Option.bind_some _ _).symm.trans H; with_reducible exact H2_) | with_reducible exact H | (rw [hy729]; exact H) | exact H
          have Ny729 := Aside0.mk hy729
          clear hy729
          have H' := Aside0.mk H
          clear H
          obtain ⟨Ao7, co7, eo7⟩ := Kd.R_slice HO_0.out
          subst eo7
          have p5 : 0 ≤ (x5_1 : Int) := of_decide_eq_true (by first | (with_reducible assumption) | assumption)
          have q5 : (x5_1 : Int) < ((x0_1.length : Int) : Int) := of_decide_eq_true (by first | (with_reducible assumption) | assumption)
          obtain ⟨go5, co5, eo5, gb5, gl5, cl5, HG5⟩ := Kd.R_form HO_0.out (by omega)
          (first | cases eo5 | (injection eo5 with ea_ en_ ec_; (first | subst ea_ | (injection ea_ with ea_; subst ea_)); subst ec_; clear en_))
          have GB5 := Aside0.mk gb5
          have GG5 := Aside0.mk HG5
          clear gb5 gl5 HG5
          have HMgo5 := Aside0.mk (show (P0_ go5 ∨ w.heap.size ≤ go5) from (HO_0.out.1 _ rfl))
          obtain ⟨ce5, hcl5, hM5, hcc5, hfr5⟩ := Kd.R_elem HO_0.out z29 (x5_1 : Int) p5 q5
          obtain rfl := k29_openM hM5
          have hx5_0 : wr.cell? ⟨go5, (x5_1 : Int).toNat * 2, none⟩ = some (.int .i64 ((rd_T29 x0_1 x5_1).f0)) := hcc5 0 _ rfl
          have hx5_1 : wr.cell? ⟨go5, (x5_1 : Int).toNat * 2 + 1, none⟩ = some (.int .i64 ((rd_T29 x0_1 x5_1).f1)) := hcc5 1 _ rfl
          have hf5_0 : wr.frozen? ⟨go5, (x5_1 : Int).toNat * 2, none⟩ = false := hfr5 0
          have hf5_1 : wr.frozen? ⟨go5, (x5_1 : Int).toNat * 2 + 1, none⟩ = false := hfr5 1
          clear hcl5 hcc5 hfr5 hM5
          replace p5 := eq_true p5
          replace q5 := eq_true q5
          have HX8 := Aside0.mk (show Kd.R k29 29 wr w0.heap.size (fun k_ => (P0_ k_ ∨ w.heap.size ≤ k_)) (.slice (some ⟨go5, 0, none⟩) x0_1.length co7) x0_1 from (rs HO_0))
          obtain ⟨ce8, hcl8, hM8, hcc8, hfr8⟩ := Kd.R_elem HX8.out z29 (x5_1 : Int) (of_decide_eq_true (by first | (with_reducible assumption) | assumption)) (by have h_ : (x5_1 : Int) < ((x0_1.length : Int) : Int) := of_decide_eq_true (by first | (with_reducible assumption) | assumption); first | exact h_ | (have e_ := (Kd.R_reads' HO_0.out).1; omega) | simpa using h_)
          obtain rfl := k29_openM hM8
          have HP8 := Kd.R_seg HX8.out (x5_1 : Int) (of_decide_eq_true (by first | (with_reducible assumption) | assumption)) (by have h_ : (x5_1 : Int) < ((x0_1.length : Int) : Int) := of_decide_eq_true (by first | (with_reducible assumption) | assumption); first | exact h_ | (have e_ := (Kd.R_reads' HO_0.out).1; omega) | simpa using h_) (seg := [.int .i64 x1_1]) (j := 0) hcl8 hcc8 (show 1 ≤ 2 from by decide) (x' := (⟨x1_1, (rd_T29 x0_1 x5_1).f1⟩ : S29)) (k29_mkM _ _ _ (⟨x1_1, (rd_T29 x0_1 x5_1).f1⟩ : S29) ) (fun _ hk => hk)
          have hx8_0 := hcc8 0 _ rfl
          (try simp only [show (k29).sz = 2 from rfl, Nat.mul_one, Nat.add_zero] at hx8_0)
          have hf8_0 := hfr8 0
          (try simp only [show (k29).sz = 2 from rfl, Nat.mul_one, Nat.add_zero] at hf8_0)
          clear hcl8 hcc8 hfr8 hM8
          go_wp2_with (first | ((with_reducible refine gate_store (t := 3) (p := 16) rfl ?_); refine store_event (t := 3) (p := 16) (v := ?vo_w9) (w1 := (wr.setCell ⟨go5, (x5_1 : Int).toNat * 2, none⟩ (.int .i64 x1_1))) ?hg ?ho ?hn ?hr ?_; (case ho => rfl); (case hg => rfl); (case hn => rfl); (case hr => first | (go_simp; done) | (go_simp; rfl)); intro w9 hw; have hg : wr.grownBy w9 (some go5) := (by rw [hw]; exact HP8.2); have hp_ : Kd.R k29 29 w9 w0.heap.size (fun k_ => (P0_ k_ ∨ w.heap.size ≤ k_)) (.slice (some ⟨go5, 0, none⟩) x0_1.length co7) y728 := (by rw [hw, Ny728.out]; exact HP8.1); clear HP8; have n0_ := Aside0.mk (hp_); have n1_ := Aside0.mk ((by rw [hw]; exact below_set (HB.out) GB5.out : Below w0.heap.size w0 w9)); have n2_ := Aside0.mk (Kept.of_grown (S := (fun k_ => P0_ k_)) hg (by repeat (first | (with_reducible first | exact HK.out | apply Kept.alloc | apply Kept.drewN | apply Kept.drew) | exact HK.out)) (fun k_ e_ => (HO_0.out.1 k_ e_))); clear HO_0; clear HB; clear HK; have HO_0 := n0_; have HB := n1_; have HK := n2_; clear n0_ n1_ n2_; clear hg hw hp_; have p6 : 0 ≤ (x5_1 : Int) := of_decide_eq_true (by first | (with_reducible assumption) | assumption); have q6 : (x5_1 : Int) < ((x0_1.length : Int) : Int) := of_decide_eq_true (by first | (with_reducible assumption) | assumption); obtain ⟨ce6, hcl6, hM6, hcc6, hfr6⟩ := Kd.R_elem HO_0.out z29 (x5_1 : Int) p6 q6; obtain rfl := k29_openM hM6; have hx6_0 : w9.cell? ⟨go5, (x5_1 : Int).toNat * 2, none⟩ = some (.int .i64 ((rd_T29 y728 x5_1).f0)) := hcc6 0 _ rfl; have hx6_1 : w9.cell? ⟨go5, (x5_1 : Int).toNat * 2 + 1, none⟩ = some (.int .i64 ((rd_T29 y728 x5_1).f1)) := hcc6 1 _ rfl; have hf6_0 : w9.frozen? ⟨go5, (x5_1 : Int).toNat * 2, none⟩ = false := hfr6 0; have hf6_1 : w9.frozen? ⟨go5, (x5_1 : Int).toNat * 2 + 1, none⟩ = false := hfr6 1; clear hcl6 hcc6 hfr6 hM6; replace p6 := eq_true p6; replace q6 := eq_true q6; have HX10 := Aside0.mk (show Kd.R k29 29 w9 w0.heap.size (fun k_ => (P0_ k_ ∨ w.heap.size ≤ k_)) (.slice (some ⟨go5, 0, none⟩) x0_1.length co7) y728 from (rs HO_0)); obtain ⟨ce10, hcl10, hM10, hcc10, hfr10⟩ := Kd.R_elem HX10.out z29 (x5_1 : Int) (of_decide_eq_true (by first | (with_reducible assumption) | assumption)) (by have h_ : (x5_1 : Int) < ((x0_1.length : Int) : Int) := of_decide_eq_true (by first | (with_reducible assumption) | assumption); first | exact h_ | (have e_ := (Kd.R_reads' HO_0.out).1; omega) | simpa using h_); obtain rfl := k29_openM hM10; have HP10 := Kd.R_seg HX10.out (x5_1 : Int) (of_decide_eq_true (by first | (with_reducible assumption) | assumption)) (by have h_ : (x5_1 : Int) < ((x0_1.length : Int) : Int) := of_decide_eq_true (by first | (with_reducible assumption) | assumption); first | exact h_ | (have e_ := (Kd.R_reads' HO_0.out).1; omega) | simpa using h_) (seg := [.int .i64 (wrap64 (x1_1 + 1))]) (j := 1) hcl10 hcc10 (show 2 ≤ 2 from by decide) (x' := (⟨(rd_T29 y728 x5_1).f0, wrap64 (x1_1 + 1)⟩ : S29)) (k29_mkM _ _ _ (⟨(rd_T29 y728 x5_1).f0, wrap64 (x1_1 + 1)⟩ : S29) ) (fun _ hk => hk); have hx10_1 := hcc10 1 _ rfl; (try simp only [show (k29).sz = 2 from rfl, Nat.mul_one, Nat.add_zero] at hx10_1); have hf10_1 := hfr10 1; (try simp only [show (k29).sz = 2 from rfl, Nat.mul_one, Nat.add_zero] at hf10_1); clear hcl10 hcc10 hfr10 hM10) | ((with_reducible refine gate_store (t := 3) (p := 23) rfl ?_); refine store_event (t := 3) (p := 23) (v := ?vo_w11) (w1 := (w9.setCell ⟨go5, (x5_1 : Int).toNat * 2 + 1, none⟩ (.int .i64 (wrap64 (x1_1 + 1))))) ?hg ?ho ?hn ?hr ?_; (case ho => rfl); (case hg => rfl); (case hn => rfl); (case hr => first | (go_simp; done) | (go_simp; rfl)); intro w11 hw; have hg : w9.grownBy w11 (some go5) := (by rw [hw]; exact HP10.2); have hp_ : Kd.R k29 29 w11 w0.heap.size (fun k_ => (P0_ k_ ∨ w.heap.size ≤ k_)) (.slice (some ⟨go5, 0, none⟩) x0_1.length co7) y729 := (by rw [hw, Ny729.out]; exact HP10.1); clear HP10; have n0_ := Aside0.mk (hp_); have n1_ := Aside0.mk ((by rw [hw]; exact below_set (HB.out) GB5.out : Below w0.heap.size w0 w11)); have n2_ := Aside0.mk (Kept.of_grown (S := (fun k_ => P0_ k_)) hg (by repeat (first | (with_reducible first | exact HK.out | apply Kept.alloc | apply Kept.drewN | apply Kept.drew) | exact HK.out)) (fun k_ e_ => (HO_0.out.1 k_ e_))); clear HO_0; clear HB; clear HK; have HO_0 := n0_; have HB := n1_; have HK := n2_; clear n0_ n1_ n2_; clear hg hw hp_))
          go_roundg k1
          case measure => have := HK1.out; omega
          case rel => exact ⟨(y729), (wrap64 ((wrap64 (x1_1 + 1)) + 1)), (wrap64 (x5_1 + 1)), (by first | rfl | (simp; done) | (simp [*]; done)), (by first | rfl | (simp; done) | (simp [*]; done)), H', ⟨by have := HK1.out; omega⟩, ⟨by (with_reducible repeat apply ru); exact HO_0.out⟩, ⟨by repeat (first | (with_reducible first | exact HK.out | apply Kept.alloc | apply Kept.drewN | apply Kept.drew) | exact HK.out)⟩, ⟨by repeat (first | (with_reducible first | exact HB.out | apply below_alloc | apply pw_below_drewN | apply below_drew1) | exact HB.out)⟩⟩
        · rw [if_neg c4] at H
          exact absurd H (by simp)
      · rw [if_neg c3] at H
        have c3b0 : decide (x5_1 < (x0_1.length : Int)) = false := decide_eq_false c3
        clear c3
        simp only [Option.some.injEq, Prod.mk.injEq] at H
        obtain ⟨rfl, rfl⟩ := H
        obtain ⟨Ao12, co12, eo12⟩ := Kd.R_slice HO_0.out
        subst eo12
        go_wp2
        go_ret
        exact ⟨by first | rfl | (simp [errW_none, errW_some] <;> rfl) | (simp [*, errW_none, errW_some] <;> rfl), by (with_reducible repeat apply ru); exact HO_0.out, by repeat (first | (with_reducible first | exact HB.out | apply below_alloc | apply pw_below_drewN | apply below_drew1) | exact HB.out), by repeat (first | (with_reducible first | exact HK.out | apply Kept.alloc | apply Kept.drewN | apply Kept.drew) | exact HK.out)⟩

end Go.Proofs.Ytiocgkggegahhaa.P

-- written by hw.py for this claim
namespace Go.Proofs.Ytiocgkggegahhaa.P
open Go.RowKit Go.Proofs.YtiocgkggegahhaaUFnExactBoxNew.PrintWords Go.Proofs.YtiocgkggegahhaaUFnExactBoxNew.PrintLast Go.Proofs.YtiocgkggegahhaaUFnExactBoxNew.PrintMore
attribute [local go_sem] max2_int min2_int max_two min_two max_three min_three max_four min_four
set_option linter.unusedVariables false
set_option linter.unusedSimpArgs false

/-! ### laws_markMapTab: function 32 -/
def laws_markMapTab.f (k : Nat) (l0_0 : List (S29)) (a1 : Int) : Option (Int × (List (S29))) := (laws_markEndPointS.f k l0_0 a1).bind fun bt731 => (some (bt731.1, bt731.2))
theorem laws_markMapTab.mono : ∀ a0 a1 k, LeO (laws_markMapTab.f k a0 a1) (laws_markMapTab.f (k + 1) a0 a1) := by
  intro a0 a1 k
  unfold laws_markMapTab.f
  repeat' first
      | (with_reducible exact laws_markEndPointS.mono _ _ _)
      | (with_reducible exact LeO.refl _)
      | (with_reducible exact LeO.none _)
      | (with_reducible refine LeO.ite ?_ ?_)
      | (with_reducible refine LeO.bind ?_ (fun _ => ?_))
      | exact laws_markEndPointS.mono _ _ _
      | exact LeO.none _
      | refine LeO.ite ?_ ?_
      | refine LeO.bind ?_ (fun _ => ?_)
set_option maxHeartbeats 8000000 in
set_option maxRecDepth 100000 in
theorem laws_markMapTab.calls (k : Nat) (P0_0_ : Nat → Prop) (u9000_ : Value) (l0_0 : List (S29)) (a1 : Int) (r1 : Int) (r2 : List (S29)) (w0 w : World) (hB : Below w0.heap.size w0 w) (ho0_0 : Kd.R k29 29 w w0.heap.size P0_0_ u9000_ l0_0) (h : laws_markMapTab.f k l0_0 a1 = some (r1, r2)) :
    Calls Try.prog 32 #[.agg #[u9000_], .int .i64 a1] w fun e w' => e = .returned (.int .i64 r1) ∧ Kd.R k29 29 w' w0.heap.size (fun k_ => (P0_0_ k_ ∨ w.heap.size ≤ k_)) u9000_ r2 ∧ Below w0.heap.size w0 w' ∧ Kept w w' (fun k_ => P0_0_ k_) := by
  have hu45 := Try.underlying45
  have HO0_0 := Aside0.mk (show Kd.R k29 29 w w0.heap.size (fun k_ => (P0_0_ k_ ∨ w.heap.size ≤ k_)) u9000_ l0_0 from Kd.R_mono ho0_0 (fun k_ hk => (.inl hk)))
  have HK := Aside0.mk (Kept.refl w (fun k_ => P0_0_ k_))
  have HW0 := Aside0.mk hB.size
  have HB := Aside0.mk hB
  clear hB
  have H : ((laws_markEndPointS.f k l0_0 a1).bind fun bt731 => (some (bt731.1, bt731.2))) = some (r1, r2) := h
  clear h
  replace H := Option.bind_eq_some_iff.mp H
  obtain ⟨⟨t731, t732⟩, A30, H⟩ := H
  replace H : (some (t731, t732)) = some (r1, r2) := H
  have A3 := Aside0.mk A30
  clear A30
  simp only [Option.some.injEq, Prod.mk.injEq] at H
  obtain ⟨rfl, rfl⟩ := H
  obtain ⟨Ao4, co4, eo4⟩ := Kd.R_slice HO0_0.out
  subst eo4
  go_enter Try.func32, Try.ntmps32
  go_wp2_with (first | ((with_reducible refine gate_dst (N := 2) rfl ?_); refine box_event ?hg (N := 2) ?hd (cs := #[.slice Ao4 l0_0.length co4]) (t := 45) ?hr ?_; (case hd => rfl); (case hg => rfl); (case hr => first | (go_simp; done) | (go_simp; rfl)); intro gb730 hg w5 hbox hb; have n0_ := Aside0.mk (Kd.R_below (rs HO0_0) hb); have n1_ := Aside0.mk (Kept.below (S := (fun k_ => P0_0_ k_)) (by repeat (first | (with_reducible first | exact HK.out | apply Kept.alloc | apply Kept.drewN | apply Kept.drew) | exact HK.out)) hb); have n2_ := Aside0.mk (below_step (bl HB) hb); have n3_ := Aside0.mk (hbox); have n4_ := Aside0.mk ((by rw [hg]; exact (by first | exact HK.out.1 | exact (show Kept w _ (fun k_ => P0_0_ k_) from by repeat (first | (with_reducible first | exact HK.out | apply Kept.alloc | apply Kept.drewN | apply Kept.drew) | exact HK.out)).1) : w.heap.size ≤ gb730)); have n5_ := Aside0.mk ((by rw [hg]; exact (below_size (bl HB)) : w0.heap.size ≤ gb730)); clear HO0_0; clear HK; clear HB; have HO0_0 := n0_; have HK := n1_; have HB := n2_; have BK730 := n3_; have GW730 := n4_; have GE730 := n5_; clear n0_ n1_ n2_ n3_ n4_ n5_; clear hb hbox hg; have hcz6_0 : w5.cell? ⟨gb730, 0, none⟩ = some (.slice Ao4 l0_0.length co4) := (blk_cell BK730.out 0).trans rfl; have hfz6_0 := blk_frozen BK730.out 0) | ((with_reducible refine gate_callee (f := 73) rfl ?_); refine goesL_ (some 8) rfl rfl Try.func73 (by kernel_rfl) rfl #[.slice Ao4 l0_0.length co4, .int .i64 a1] rfl (by (try simp only [List.map_toArray, List.map_cons, List.map_nil]); first | done | rfl | (simp only [List.length_drop, List.length_take]; rfl)) ?_; (with_reducible refine (laws_markEndPointS.calls k (fun k_ => some k_ = (.slice Ao4 l0_0.length co4 : Value).ownBlock) (.slice Ao4 l0_0.length co4) l0_0 a1 t731 t732 w0 _ ?side1 ?side2 A3.out).mono ?_); (case side1 => repeat (first | (with_reducible first | exact HB.out | apply below_alloc | apply pw_below_drewN | apply below_drew1 | refine below_set ?_ GE730.out) | exact HB.out)); (case side2 => exact Kd.R_tight rfl HO0_0.out); rintro e w7 ⟨rfl, hy0, hb, hkp⟩; refine ⟨_, rfl, ?_⟩; have n0_ := Aside0.mk (Kd.R_reok rfl hy0 (fun k_ e_ => HO0_0.out.1 k_ e_)); have n1_ := Aside0.mk (blk_kept (bk BK730) hkp (fun hs_ => (fun e_ => (Kd.R_ne HO0_0.out BK730.out (by decide)) e_) hs_)); have n2_ := Aside0.mk (Kept.then_ (S := (fun k_ => P0_0_ k_)) (by repeat (first | (with_reducible first | exact HK.out | apply Kept.alloc | apply Kept.drewN | apply Kept.drew | refine Kept.setCell ?_ (.inr GW730.out) _) | exact HK.out)) hkp (fun k_ hs_ => (fun e_ => (HO0_0.out.1 k_ e_.symm)) hs_)); have n3_ := Aside0.mk (hb); clear HO0_0; clear BK730; clear HK; clear HB; have HO0_0 := n0_; have BK730 := n1_; have HK := n2_; have HB := n3_; clear n0_ n1_ n2_ n3_; (try clear hb); (try clear hkp); (try clear hy0)))
  go_ret
  exact ⟨by first | rfl | (simp [errW_none, errW_some] <;> rfl) | (simp [*, errW_none, errW_some] <;> rfl), by (with_reducible repeat apply ru); exact HO0_0.out, by repeat (first | (with_reducible first | exact HB.out | apply below_alloc | apply pw_below_drewN | apply below_drew1 | refine below_set ?_ GE730.out) | exact HB.out), by repeat (first | (with_reducible first | exact HK.out | apply Kept.alloc | apply Kept.drewN | apply Kept.drew | refine Kept.setCell ?_ (.inr GW730.out) _) | exact HK.out)⟩

end Go.Proofs.Ytiocgkggegahhaa.P

-- written by hw.py for this claim
namespace Go.Proofs.Ytiocgkggegahhaa.P
open Go.RowKit Go.Proofs.YtiocgkggegahhaaUFnExactBoxNew.PrintWords Go.Proofs.YtiocgkggegahhaaUFnExactBoxNew.PrintLast Go.Proofs.YtiocgkggegahhaaUFnExactBoxNew.PrintMore
attribute [local go_sem] max2_int min2_int max_two min_two max_three min_three max_four min_four
set_option linter.unusedVariables false
set_option linter.unusedSimpArgs false

/-! ### laws_markText: function 99 -/
def laws_markText.l0 : Nat → Int → ByteArray → Option (ByteArray)
  | 0, _, _ => none
  | k + 1, x0, x3 => if x0 > 0 then ((some (([(wrap64 (48 + (Int.tmod x0 10))) % 256] : List Int) : List Int)).bind fun y863 => (if (strOfNums y863).size + x3.size ≤ 9223372036854775807 then (laws_markText.l0 k (wrap64 (Int.tdiv x0 10)) ((strOfNums y863) ++ x3)) else (none))) else (if 1 + x3.size ≤ 9223372036854775807 then (some ((⟨#[109]⟩ : ByteArray) ++ x3)) else (none))
def laws_markText.f (k : Nat) (a0 : Int) : Option (ByteArray) := if a0 ≤ 0 then (some (⟨#[109, 48]⟩ : ByteArray)) else (laws_markText.l0 k a0 (⟨#[]⟩ : ByteArray))
theorem laws_markText.mono_l : ∀ k, (∀ y0 y1, LeO (laws_markText.l0 k y0 y1) (laws_markText.l0 (k + 1) y0 y1))
  | 0 => fun _ _ r h => by simp [laws_markText.l0] at h
  | k + 1 => by
    have ih0 := laws_markText.mono_l k
    · intro y0 y1
      unfold laws_markText.l0
      repeat' first
      | (with_reducible exact ih0 _ _)
      | (with_reducible exact LeO.refl _)
      | (with_reducible exact LeO.none _)
      | (with_reducible refine LeO.ite ?_ ?_)
      | (with_reducible refine LeO.bind ?_ (fun _ => ?_))
      | exact ih0 _ _
      | exact LeO.none _
      | refine LeO.ite ?_ ?_
      | refine LeO.bind ?_ (fun _ => ?_)
theorem laws_markText.mono : ∀ a0 k, LeO (laws_markText.f k a0) (laws_markText.f (k + 1) a0) := by
  intro a0 k
  have ih0 := laws_markText.mono_l k
  unfold laws_markText.f
  repeat' first
      | (with_reducible exact ih0 _ _)
      | (with_reducible exact LeO.refl _)
      | (with_reducible exact LeO.none _)
      | (with_reducible refine LeO.ite ?_ ?_)
      | (with_reducible refine LeO.bind ?_ (fun _ => ?_))
      | exact ih0 _ _
      | exact LeO.none _
      | refine LeO.ite ?_ ?_
      | refine LeO.bind ?_ (fun _ => ?_)
set_option maxHeartbeats 8000000 in
set_option maxRecDepth 100000 in
theorem laws_markText.calls (k : Nat) (a0 : Int) (r : ByteArray) (w : World) (h : laws_markText.f k a0 = some r) :
    Calls Try.prog 99 #[.int .i64 a0] w fun e w' => e = .returned (.string r) ∧ Below w.heap.size w w' := by
  have HB := Aside0.mk (Below.refl w.heap.size w)
  have H : (if a0 ≤ 0 then (some (⟨#[109, 48]⟩ : ByteArray)) else (laws_markText.l0 k a0 (⟨#[]⟩ : ByteArray))) = some r := h
  clear h
  by_cases c2 : a0 ≤ 0
  · rw [if_pos c2] at H
    have c2b0 : decide (a0 ≤ 0) = true := decide_eq_true c2
    clear c2
    obtain rfl := Option.some.inj H
    go_enter Try.func99, Try.ntmps99
    go_wp2
    go_ret
    exact ⟨by first | rfl | (simp [errW_none, errW_some] <;> rfl) | (simp [*, errW_none, errW_some] <;> rfl), by repeat (first | (with_reducible first | exact HB.out | apply below_alloc | apply pw_below_drewN | apply below_drew1) | exact HB.out)⟩
  · rw [if_neg c2] at H
    have c2b0 : decide (a0 ≤ 0) = false := decide_eq_false c2
    clear c2
    have H' := Aside0.mk H
    clear H
    go_enter Try.func99, Try.ntmps99
    go_wp2
    go_loopg [0, 3] k (fun kq v0 v3 w' => ∃ (x0_1 : Int) (x3_1 : ByteArray), v0 = .int .i64 x0_1 ∧ v3 = .string x3_1 ∧ Aside0 (laws_markText.l0 kq x0_1 x3_1 = some r) ∧ Aside0 (kq ≤ k) ∧ Aside0 (Below w.heap.size w w'))
    case atStart => exact ⟨(a0), ((⟨#[]⟩ : ByteArray)), (by first | rfl | (simp; done) | (simp [*]; done)), (by first | rfl | (simp; done) | (simp [*]; done)), H', ⟨Nat.le_refl _⟩, ⟨by repeat (first | (with_reducible first | exact HB.out | apply below_alloc | apply pw_below_drewN | apply below_drew1) | exact HB.out)⟩⟩
    case round =>
      clear H'
      try clear c2
      try clear c2b0
      try clear p2
      obtain ⟨x0_1, x3_1, rfl, rfl, HA, HK1, HB⟩ := hrel
      cases gk with
      | zero => exact absurd HA.out (by simp [laws_markText.l0])
      | succ k1 =>
        have H := HA.out
        clear HA
        simp only [laws_markText.l0] at H
        by_cases c3 : x0_1 > 0
        · rw [if_pos c3] at H
          have c3b0 : decide (0 < x0_1) = true := decide_eq_true c3
          clear c3
          obtain ⟨y863, hy863⟩ : ∃ y_ : List Int, y_ = (([(wrap64 (48 + (Int.tmod x0_1 10))) % 256] : List Int)) := ⟨_, rfl⟩
          replace H : (if (strOfNums y863).size + x3_1.size ≤ 9223372036854775807 then (laws_markText.l0 k1 (wrap64 (Int.tdiv x0_1 10)) ((strOfNums y863) ++ x3_1)) else (none)) = some r := by first | (rw [hy863]; with_reducible exact H) | (have H2_ := (Option.bind_some _ _).symm.trans H; rw [hy863]; with_reducible exact H2_) | (have H2_ := (Option.bind_some _ _).symm.trans H; with_reducible exact H2_) | with_reducible exact H | (rw [hy863]; exact H) | exact H
          have Ny863 := Aside0.mk hy863
          clear hy863
          by_cases c4 : (strOfNums y863).size + x3_1.size ≤ 9223372036854775807
          · rw [if_pos c4] at H
            have c4b0 := eq_true c4
            have c4b1 : decide ((strOfNums y863).size + x3_1.size ≤ 9223372036854775807) = true := decide_eq_true c4
            try have c4b2 : (9223372036854775807 < (strOfNums y863).size + x3_1.size) = False := eq_false (Nat.not_lt.2 c4)
            have H' := Aside0.mk H
            clear H
            go_wp2_with (first | ((with_reducible refine gate_dst (N := 12) rfl ?_); refine Kd.R_lit (Kd.int .u8) _ 5 ?hg (N := 12) ?hd (xs := ([(wrap64 (48 + (Int.tmod x0_1 10))) % 256] : List Int)) (inner := [.int .u8 ((wrap64 (48 + (Int.tmod x0_1 10))) % 256)]) (ok := fun _ => True) (okp := fun _ => True) ?hr ?hp (fun _ hk => hk) trivial (Below.refl _ _) (Nat.le_refl _) (by simp) ?_; (case hd => rfl); (case hg => rfl); (case hr => first | (go_simp; done) | (go_simp; rfl)); (case hp => exact (Reps.one (show Kd.M (Kd.int .u8) _ _ _ ((wrap64 (48 + (Int.tmod x0_1 10))) % 256) [.int .u8 ((wrap64 (48 + (Int.tmod x0_1 10))) % 256)] from rfl) (Reps.none _ _))); intro v864 w5 ho6 hb hg_ hnew_; clear hg_ hnew_; (first | rw [← Ny863.out] at ho6 | (simp only [Int.reduceToNat] at ho6; rw [← Ny863.out] at ho6)); have n0_ := Aside0.mk (Kd.R_lower ho6 (below_size (bl HB))); have n1_ := Aside0.mk (below_step (bl HB) hb); clear HB; have HO865 := n0_; have HB := n1_; clear n0_ n1_; clear hb ho6; have hcv7 := own_string (P := Try.prog) Try.underlying22 Try.underlying5 Try.underlying9 (Kd.own_of_R HO865.out)))
            go_roundg k1
            case measure => have := HK1.out; omega
            case rel => exact ⟨(wrap64 (Int.tdiv x0_1 10)), ((strOfNums y863) ++ x3_1), (by first | rfl | (simp; done) | (simp [*]; done)), (by first | rfl | (simp; done) | (simp [*]; done)), H', ⟨by have := HK1.out; omega⟩, ⟨by repeat (first | (with_reducible first | exact HB.out | apply below_alloc | apply pw_below_drewN | apply below_drew1) | exact HB.out)⟩⟩
          · rw [if_neg c4] at H
            exact absurd H (by simp)
        · rw [if_neg c3] at H
          have c3b0 : decide (0 < x0_1) = false := decide_eq_false c3
          clear c3
          by_cases c8 : 1 + x3_1.size ≤ 9223372036854775807
          · rw [if_pos c8] at H
            have c8b0 := eq_true c8
            have c8b1 : decide (1 + x3_1.size ≤ 9223372036854775807) = true := decide_eq_true c8
            try have c8b2 : (9223372036854775807 < 1 + x3_1.size) = False := eq_false (Nat.not_lt.2 c8)
            obtain rfl := Option.some.inj H
            go_wp2
            go_ret
            exact ⟨by first | rfl | (simp [errW_none, errW_some] <;> rfl) | (simp [*, errW_none, errW_some] <;> rfl), by repeat (first | (with_reducible first | exact HB.out | apply below_alloc | apply pw_below_drewN | apply below_drew1) | exact HB.out)⟩
          · rw [if_neg c8] at H
            exact absurd H (by simp)

end Go.Proofs.Ytiocgkggegahhaa.P
