import Derived.Test.YtiocgkggegahhaaGLawFnExactRulMayx0
-- written by hw.py for this claim
namespace Go.Proofs.Ytiocgkggegahhaa.P
open Go.RowKit Go.Proofs.YtiocgkggegahhaaUFnExactRulMay.PrintWords Go.Proofs.YtiocgkggegahhaaUFnExactRulMay.PrintLast Go.Proofs.YtiocgkggegahhaaUFnExactRulMay.PrintMore
attribute [local go_sem] max2_int min2_int max_two min_two max_three min_three max_four min_four
set_option linter.unusedVariables false
set_option linter.unusedSimpArgs false

/-! ### spec_l20In: function 61 -/
def spec_l20In.f (k : Nat) (s0_0 : List Int) (s0_1 : Int) : Option (Int × Int × Int) := (spec_l20Rd_pick.f k s0_0 s0_1 4).bind fun bt333 => ((spec_l20Rd_pick.f k s0_0 bt333.2 40).bind fun bt335 => ((some (([7, 20, 300, 999, wrap64 (1 + bt335.1)] : List Int) : List Int)).bind fun y337 => ((spec_l20Rd_pick.f k s0_0 bt335.2 5).bind fun bt340 => (if 0 ≤ bt340.1 then (if bt340.1 < (y337.length : Int) then (some (wrap64 (1 + bt333.1), rd y337 bt340.1, bt340.2)) else (none)) else (none)))))
theorem spec_l20In.mono : ∀ a0 a1 k, LeO (spec_l20In.f k a0 a1) (spec_l20In.f (k + 1) a0 a1) := by
  intro a0 a1 k
  unfold spec_l20In.f
  repeat' first
      | (with_reducible exact spec_l20Rd_pick.mono _ _ _ _)
      | (with_reducible exact LeO.refl _)
      | (with_reducible exact LeO.none _)
      | (with_reducible refine LeO.ite ?_ ?_)
      | (with_reducible refine LeO.bind ?_ (fun _ => ?_))
      | exact spec_l20Rd_pick.mono _ _ _ _
      | exact LeO.none _
      | refine LeO.ite ?_ ?_
      | refine LeO.bind ?_ (fun _ => ?_)
set_option maxHeartbeats 8000000 in
set_option maxRecDepth 100000 in
theorem spec_l20In.calls (k : Nat) (g : Nat) (s0_0 : List Int) (s0_1 : Int) (r1 : Int) (r2 : Int) (r3 : Int) (w0 w : World) (hI : IsS102 w0 w g s0_0 s0_1) (hB : Below w0.heap.size w0 w) (h : spec_l20In.f k s0_0 s0_1 = some (r1, r2, r3)) :
    Calls Try.prog 61 #[.pointer (some ⟨g, 0, none⟩)] w fun e w' => e = .returned (.agg #[.int .i64 r1, .int .i64 r2]) ∧ IsS102 w0 w' g s0_0 r3 ∧ Below w0.heap.size w0 w' ∧ KeepBut w w' g none := by
  have hu29 := Try.underlying29
  have HI0 := Aside0.mk hI
  have HK := Aside0.mk (KeepBut.refl w g none)
  have HL := Aside0.mk hB.size
  clear hI
  have HW0 := Aside0.mk hB.size
  have HB := Aside0.mk hB
  clear hB
  have H : ((spec_l20Rd_pick.f k s0_0 s0_1 4).bind fun bt333 => ((spec_l20Rd_pick.f k s0_0 bt333.2 40).bind fun bt335 => ((some (([7, 20, 300, 999, wrap64 (1 + bt335.1)] : List Int) : List Int)).bind fun y337 => ((spec_l20Rd_pick.f k s0_0 bt335.2 5).bind fun bt340 => (if 0 ≤ bt340.1 then (if bt340.1 < (y337.length : Int) then (some (wrap64 (1 + bt333.1), rd y337 bt340.1, bt340.2)) else (none)) else (none)))))) = some (r1, r2, r3) := h
  clear h
  replace H := Option.bind_eq_some_iff.mp H
  obtain ⟨⟨t333, t334⟩, A20, H⟩ := H
  replace H : ((spec_l20Rd_pick.f k s0_0 t334 40).bind fun bt335 => ((some (([7, 20, 300, 999, wrap64 (1 + bt335.1)] : List Int) : List Int)).bind fun y337 => ((spec_l20Rd_pick.f k s0_0 bt335.2 5).bind fun bt340 => (if 0 ≤ bt340.1 then (if bt340.1 < (y337.length : Int) then (some (wrap64 (1 + t333), rd y337 bt340.1, bt340.2)) else (none)) else (none))))) = some (r1, r2, r3) := H
  have A2 := Aside0.mk A20
  clear A20
  replace H := Option.bind_eq_some_iff.mp H
  obtain ⟨⟨t335, t336⟩, A30, H⟩ := H
  replace H : ((some (([7, 20, 300, 999, wrap64 (1 + t335)] : List Int) : List Int)).bind fun y337 => ((spec_l20Rd_pick.f k s0_0 t336 5).bind fun bt340 => (if 0 ≤ bt340.1 then (if bt340.1 < (y337.length : Int) then (some (wrap64 (1 + t333), rd y337 bt340.1, bt340.2)) else (none)) else (none)))) = some (r1, r2, r3) := H
  have A3 := Aside0.mk A30
  clear A30
  obtain ⟨y337, hy337⟩ : ∃ y_ : List Int, y_ = (([7, 20, 300, 999, wrap64 (1 + t335)] : List Int)) := ⟨_, rfl⟩
  replace H : ((spec_l20Rd_pick.f k s0_0 t336 5).bind fun bt340 => (if 0 ≤ bt340.1 then (if bt340.1 < (y337.length : Int) then (some (wrap64 (1 + t333), rd y337 bt340.1, bt340.2)) else (none)) else (none))) = some (r1, r2, r3) := by first | (rw [hy337]; with_reducible exact H) | (have H2_ := (Option.bind_some _ _).symm.trans H; rw [hy337]; with_reducible exact H2_) | (have H2_ := (Option.bind_some _ _).symm.trans H; with_reducible exact H2_) | with_reducible exact H | (rw [hy337]; exact H) | exact H
  have Ny337 := Aside0.mk hy337
  clear hy337
  replace H := Option.bind_eq_some_iff.mp H
  obtain ⟨⟨t340, t341⟩, A40, H⟩ := H
  replace H : (if 0 ≤ t340 then (if t340 < (y337.length : Int) then (some (wrap64 (1 + t333), rd y337 t340, t341)) else (none)) else (none)) = some (r1, r2, r3) := H
  have A4 := Aside0.mk A40
  clear A40
  by_cases c5 : 0 ≤ t340
  · rw [if_pos c5] at H
    have c5b0 : decide (0 ≤ t340) = true := decide_eq_true c5
    clear c5
    by_cases c6 : t340 < (y337.length : Int)
    · rw [if_pos c6] at H
      have c6b0 : decide (t340 < (y337.length : Int)) = true := decide_eq_true c6
      clear c6
      simp only [Option.some.injEq, Prod.mk.injEq] at H
      obtain ⟨rfl, rfl, rfl⟩ := H
      go_enter Try.func61, Try.ntmps61
      go_wp2_with (first | ((with_reducible refine gate_dst (N := 2) rfl ?_); refine box_event ?hg (N := 2) ?hd (cs := #[.int .i64 0, .int .i64 0]) (t := 29) ?hr ?_; (case hd => rfl); (case hg => rfl); (case hr => first | (go_simp; done) | (go_simp; rfl)); intro gb332 hg w7 hbox hb; have n0_ := Aside0.mk (IsS102.below (by repeat (first | (with_reducible first | exact HI0.out | apply IsS102.alloc | apply IsS102.drewN | apply IsS102.drew | apply IsS102.set_1) | exact HI0.out)) hb); have n1_ := Aside0.mk (KeepBut.trans (by repeat (first | (with_reducible first | exact HK.out | apply KeepBut.set_ | apply keep_drewN | apply keep_drew | apply keep_alloc) | exact HK.out)) (KeepBut.of_below hb g none) (.inl rfl)); have n2_ := Aside0.mk (below_step (by repeat (first | (with_reducible first | exact HB.out | apply below_alloc | apply pw_below_drewN | apply below_drew1 | refine below_set ?_ (IsS102.ge HI0.out)) | exact HB.out)) hb); have n3_ := Aside0.mk (hbox); have n4_ := Aside0.mk ((by rw [hg]; exact (keep_size (w := w) (g := g) (row := none) (by repeat (first | (with_reducible first | exact HK.out | apply KeepBut.set_ | apply keep_drewN | apply keep_drew | apply keep_alloc) | exact HK.out))) : w.heap.size ≤ gb332)); have n5_ := Aside0.mk ((Nat.le_trans HW0.out (by rw [hg]; exact (keep_size (w := w) (g := g) (row := none) (by repeat (first | (with_reducible first | exact HK.out | apply KeepBut.set_ | apply keep_drewN | apply keep_drew | apply keep_alloc) | exact HK.out))) : w.heap.size ≤ gb332) : w0.heap.size ≤ gb332)); have n6_ := Aside0.mk ((by rw [hg]; exact Nat.ne_of_lt (IsS102.lt (show IsS102 w0 _ g s0_0 s0_1 from by repeat (first | (with_reducible first | exact HI0.out | apply IsS102.alloc | apply IsS102.drewN | apply IsS102.drew | apply IsS102.set_1) | exact HI0.out))) : g ≠ gb332)); have n7_ := Aside0.mk ((by rw [hg]; exact Nat.ne_of_gt (IsS102.lt (show IsS102 w0 _ g s0_0 s0_1 from by repeat (first | (with_reducible first | exact HI0.out | apply IsS102.alloc | apply IsS102.drewN | apply IsS102.drew | apply IsS102.set_1) | exact HI0.out))) : gb332 ≠ g)); clear HI0; clear HK; clear HB; have HI0 := n0_; have HK := n1_; have HB := n2_; have BK332 := n3_; have GW332 := n4_; have GE332 := n5_; have NB0_332 := n6_; have NB332_0 := n7_; clear n0_ n1_ n2_ n3_ n4_ n5_ n6_ n7_; clear hb hbox hg) | ((with_reducible refine gate_callee (f := 58) rfl ?_); refine goesL_ (some 4) rfl rfl Try.func58 (by kernel_rfl) rfl #[.pointer (some ⟨g, 0, none⟩), .int .i64 4] rfl (by (try simp only [List.map_toArray, List.map_cons, List.map_nil]); first | done | rfl | (simp only [List.length_drop, List.length_take]; rfl)) ?_; (with_reducible refine (spec_l20Rd_pick.calls k g s0_0 s0_1 4 t333 t334 w0 _ ?side1 ?side2 A2.out).mono ?_); (case side1 => repeat (first | (with_reducible first | exact HI0.out | apply IsS102.alloc | apply IsS102.drewN | apply IsS102.drew | apply IsS102.set_1 | refine IsS102.far ?_ NB0_332.out _) | exact HI0.out)); (case side2 => repeat (first | (with_reducible first | exact HB.out | apply below_alloc | apply pw_below_drewN | apply below_drew1 | refine below_set ?_ (IsS102.ge HI0.out) | refine below_set ?_ GE332.out) | exact HB.out)); rintro e w8 ⟨rfl, hi, hb, hk⟩; refine ⟨_, rfl, ?_⟩; have n0_ := Aside0.mk (KeepBut.blk hk (g' := gb332) (o := .cells #[.int .i64 0, .int .i64 0] 29 (0, 0)) (bk BK332) NB332_0.out (by simp)); have n1_ := Aside0.mk (KeepBut.trans (by repeat (first | (with_reducible first | exact HK.out | apply KeepBut.set_ | apply keep_drewN | apply keep_drew | apply keep_alloc | refine keep_far ?_ GW332.out _) | exact HK.out)) hk (.inl rfl)); have n2_ := Aside0.mk (hb); have n3_ := Aside0.mk (hi); clear BK332; clear HK; clear HB; clear HI0; have BK332 := n0_; have HK := n1_; have HB := n2_; have HI0 := n3_; clear n0_ n1_ n2_ n3_; (try clear hb); (try clear hb2); (try clear hk); (try clear hi)) | ((with_reducible refine gate_callee (f := 58) rfl ?_); refine goesL_ (some 7) rfl rfl Try.func58 (by kernel_rfl) rfl #[.pointer (some ⟨g, 0, none⟩), .int .i64 40] rfl (by (try simp only [List.map_toArray, List.map_cons, List.map_nil]); first | done | rfl | (simp only [List.length_drop, List.length_take]; rfl)) ?_; (with_reducible refine (spec_l20Rd_pick.calls k g s0_0 t334 40 t335 t336 w0 _ ?side1 ?side2 A3.out).mono ?_); (case side1 => repeat (first | (with_reducible first | exact HI0.out | apply IsS102.alloc | apply IsS102.drewN | apply IsS102.drew | apply IsS102.set_1 | refine IsS102.far ?_ NB0_332.out _) | exact HI0.out)); (case side2 => repeat (first | (with_reducible first | exact HB.out | apply below_alloc | apply pw_below_drewN | apply below_drew1 | refine below_set ?_ (IsS102.ge HI0.out) | refine below_set ?_ GE332.out) | exact HB.out)); rintro e w9 ⟨rfl, hi, hb, hk⟩; refine ⟨_, rfl, ?_⟩; have n0_ := Aside0.mk (KeepBut.blk hk (g' := gb332) (o := .cells #[.int .i64 0, .int .i64 0] 29 (0, 0)) (bk BK332) NB332_0.out (by simp)); have n1_ := Aside0.mk (KeepBut.trans (by repeat (first | (with_reducible first | exact HK.out | apply KeepBut.set_ | apply keep_drewN | apply keep_drew | apply keep_alloc | refine keep_far ?_ GW332.out _) | exact HK.out)) hk (.inl rfl)); have n2_ := Aside0.mk (hb); have n3_ := Aside0.mk (hi); clear BK332; clear HK; clear HB; clear HI0; have BK332 := n0_; have HK := n1_; have HB := n2_; have HI0 := n3_; clear n0_ n1_ n2_ n3_; (try clear hb); (try clear hb2); (try clear hk); (try clear hi)) | ((with_reducible refine gate_dst (N := 9) rfl ?_); refine Kd.R_lit (Kd.int .i64) _ 3 ?hg (N := 9) ?hd (xs := ([7, 20, 300, 999, wrap64 (1 + t335)] : List Int)) (inner := [.int .i64 7, .int .i64 20, .int .i64 300, .int .i64 999, .int .i64 (wrap64 (1 + t335))]) (ok := fun _ => True) (okp := fun _ => True) ?hr ?hp (fun _ hk => hk) trivial (Below.refl _ _) (Nat.le_refl _) (by simp) ?_; (case hd => rfl); (case hg => rfl); (case hr => first | (go_simp; done) | (go_simp; rfl)); (case hp => exact (Reps.one (show Kd.M (Kd.int .i64) _ _ _ 7 [.int .i64 7] from rfl) (Reps.one (show Kd.M (Kd.int .i64) _ _ _ 20 [.int .i64 20] from rfl) (Reps.one (show Kd.M (Kd.int .i64) _ _ _ 300 [.int .i64 300] from rfl) (Reps.one (show Kd.M (Kd.int .i64) _ _ _ 999 [.int .i64 999] from rfl) (Reps.one (show Kd.M (Kd.int .i64) _ _ _ (wrap64 (1 + t335)) [.int .i64 (wrap64 (1 + t335))] from rfl) (Reps.none _ _))))))); intro v338 w10 ho11 hb hg_ hnew_; clear hg_ hnew_; (first | rw [← Ny337.out] at ho11 | (simp only [Int.reduceToNat] at ho11; rw [← Ny337.out] at ho11)); have n0_ := Aside0.mk (Kd.R_lower ho11 (keep_size (w := w) (g := g) (row := none) (by repeat (first | (with_reducible first | exact HK.out | apply KeepBut.set_ | apply keep_drewN | apply keep_drew | apply keep_alloc | refine keep_far ?_ GW332.out _) | exact HK.out)))); have n1_ := Aside0.mk (IsS102.below (by repeat (first | (with_reducible first | exact HI0.out | apply IsS102.alloc | apply IsS102.drewN | apply IsS102.drew | apply IsS102.set_1 | refine IsS102.far ?_ NB0_332.out _) | exact HI0.out)) hb); have n2_ := bkB BK332 hb; have n3_ := Aside0.mk (KeepBut.trans (by repeat (first | (with_reducible first | exact HK.out | apply KeepBut.set_ | apply keep_drewN | apply keep_drew | apply keep_alloc | refine keep_far ?_ GW332.out _) | exact HK.out)) (KeepBut.of_below hb g none) (.inl rfl)); have n4_ := Aside0.mk (below_step (by repeat (first | (with_reducible first | exact HB.out | apply below_alloc | apply pw_below_drewN | apply below_drew1 | refine below_set ?_ (IsS102.ge HI0.out) | refine below_set ?_ GE332.out) | exact HB.out)) hb); clear HI0; clear BK332; clear HK; clear HB; have HO339 := n0_; have HI0 := n1_; have BK332 := n2_; have HK := n3_; have HB := n4_; clear n0_ n1_ n2_ n3_ n4_; clear hb ho11) | ((with_reducible refine gate_callee (f := 58) rfl ?_); refine goesL_ (some 11) rfl rfl Try.func58 (by kernel_rfl) rfl #[.pointer (some ⟨g, 0, none⟩), .int .i64 5] rfl (by (try simp only [List.map_toArray, List.map_cons, List.map_nil]); first | done | rfl | (simp only [List.length_drop, List.length_take]; rfl)) ?_; (with_reducible refine (spec_l20Rd_pick.calls k g s0_0 t336 5 t340 t341 w0 _ ?side1 ?side2 A4.out).mono ?_); (case side1 => repeat (first | (with_reducible first | exact HI0.out | apply IsS102.alloc | apply IsS102.drewN | apply IsS102.drew | apply IsS102.set_1 | refine IsS102.far ?_ NB0_332.out _) | exact HI0.out)); (case side2 => repeat (first | (with_reducible first | exact HB.out | apply below_alloc | apply pw_below_drewN | apply below_drew1 | refine below_set ?_ (IsS102.ge HI0.out) | refine below_set ?_ GE332.out) | exact HB.out)); rintro e w12 ⟨rfl, hi, hb, hk⟩; refine ⟨_, rfl, ?_⟩; have n0_ := Aside0.mk (KeepBut.blk hk (g' := gb332) (o := .cells #[.int .i64 0, .int .i64 0] 29 (0, 0)) (bk BK332) NB332_0.out (by simp)); have n1_ := Aside0.mk (Kd.R_mono (Kd.R_keep (IsS102.apart (show IsS102 w0 _ g s0_0 t336 from by repeat (first | (with_reducible first | exact HI0.out | apply IsS102.alloc | apply IsS102.drewN | apply IsS102.drew | apply IsS102.set_1 | refine IsS102.far ?_ NB0_332.out _) | exact HI0.out)) (rs HO339) (by decide)) hk (fun _ h => h.2)) (fun _ h => h.1)); have n2_ := Aside0.mk (KeepBut.trans (by repeat (first | (with_reducible first | exact HK.out | apply KeepBut.set_ | apply keep_drewN | apply keep_drew | apply keep_alloc | refine keep_far ?_ GW332.out _) | exact HK.out)) hk (.inl rfl)); have n3_ := Aside0.mk (hb); have n4_ := Aside0.mk (hi); clear BK332; clear HO339; clear HK; clear HB; clear HI0; have BK332 := n0_; have HO339 := n1_; have HK := n2_; have HB := n3_; have HI0 := n4_; clear n0_ n1_ n2_ n3_ n4_; (try clear hb); (try clear hb2); (try clear hk); (try clear hi); obtain ⟨Ao13, co13, eo13⟩ := Kd.R_slice HO339.out; subst eo13; have p342 : 0 ≤ (t340 : Int) := of_decide_eq_true (by first | (with_reducible assumption) | assumption); have q342 : t340 < (y337.length : Int) := of_decide_eq_true (by first | (with_reducible assumption) | assumption); obtain ⟨ad342, e342, hx342_0⟩ := Kd.at_int (Kd.R_reads' HO339.out).2.2 t340 p342 q342; cases e342; replace p342 := eq_true p342; replace q342 := eq_true q342; have hnb14 := NB332_0.out; have hnc14 := NB0_332.out; have hcz15_0 : w12.cell? ⟨gb332, 0, none⟩ = some (.int .i64 0) := (blk_cell BK332.out 0).trans rfl; have hcz15_1 : w12.cell? ⟨gb332, 1, none⟩ = some (.int .i64 0) := (blk_cell BK332.out 1).trans rfl; have hfz15_0 := blk_frozen BK332.out 0; have hfz15_1 := blk_frozen BK332.out 1))
      refine bodyPost_ret (results_cell_row rfl _ _ gb332 29 #[.int .i64 (wrap64 (1 + t333)), .int .i64 (rd y337 t340)] (0, 0) _ rfl (by (with_reducible repeat refine bu ?_); refine blk_put (cs := #[.int .i64 (wrap64 (1 + t333)), .int .i64 0]) ?_ 1 _ rfl; (with_reducible repeat refine bu ?_); refine blk_put (cs := #[.int .i64 0, .int .i64 0]) ?_ 0 _ rfl; (with_reducible repeat refine bu ?_); exact BK332.out) Try.underlying29 rfl (by kernel_rfl)) rfl ?_
      exact ⟨by first | rfl | (simp [errW_none, errW_some] <;> rfl) | (simp [*, errW_none, errW_some] <;> rfl), by repeat (first | (with_reducible first | exact HI0.out | apply IsS102.alloc | apply IsS102.drewN | apply IsS102.drew | apply IsS102.set_1 | refine IsS102.far ?_ NB0_332.out _) | exact HI0.out), by repeat (first | (with_reducible first | exact HB.out | apply below_alloc | apply pw_below_drewN | apply below_drew1 | refine below_set ?_ (IsS102.ge HI0.out) | refine below_set ?_ GE332.out) | exact HB.out), by repeat (first | (with_reducible first | exact HK.out | apply KeepBut.set_ | apply keep_drewN | apply keep_drew | apply keep_alloc | refine keep_far ?_ GW332.out _) | exact HK.out)⟩
    · rw [if_neg c6] at H
      exact absurd H (by simp)
  · rw [if_neg c5] at H
    exact absurd H (by simp)

end Go.Proofs.Ytiocgkggegahhaa.P

-- written by hw.py for this claim
namespace Go.Proofs.Ytiocgkggegahhaa.P
open Go.RowKit Go.Proofs.YtiocgkggegahhaaUFnExactRulMay.PrintWords Go.Proofs.YtiocgkggegahhaaUFnExactRulMay.PrintLast Go.Proofs.YtiocgkggegahhaaUFnExactRulMay.PrintMore
attribute [local go_sem] max2_int min2_int max_two min_two max_three min_three max_four min_four
set_option linter.unusedVariables false
set_option linter.unusedSimpArgs false

/-! ### spec_l20Out: function 62 -/
def spec_l20Out.f (k : Nat) (s0_0 : List Int) (s0_1 : Int) : Option (Int × Int × Int) := (spec_l20Rd_pick.f k s0_0 s0_1 3).bind fun bt344 => ((some (([21, 21, 80, 7] : List Int) : List Int)).bind fun y346 => ((spec_l20Rd_pick.f k s0_0 bt344.2 4).bind fun bt349 => (if 0 ≤ bt349.1 then (if bt349.1 < (y346.length : Int) then (some (wrap64 (100 + bt344.1), rd y346 bt349.1, bt349.2)) else (none)) else (none))))
theorem spec_l20Out.mono : ∀ a0 a1 k, LeO (spec_l20Out.f k a0 a1) (spec_l20Out.f (k + 1) a0 a1) := by
  intro a0 a1 k
  unfold spec_l20Out.f
  repeat' first
      | (with_reducible exact spec_l20Rd_pick.mono _ _ _ _)
      | (with_reducible exact LeO.refl _)
      | (with_reducible exact LeO.none _)
      | (with_reducible refine LeO.ite ?_ ?_)
      | (with_reducible refine LeO.bind ?_ (fun _ => ?_))
      | exact spec_l20Rd_pick.mono _ _ _ _
      | exact LeO.none _
      | refine LeO.ite ?_ ?_
      | refine LeO.bind ?_ (fun _ => ?_)
set_option maxHeartbeats 8000000 in
set_option maxRecDepth 100000 in
theorem spec_l20Out.calls (k : Nat) (g : Nat) (s0_0 : List Int) (s0_1 : Int) (r1 : Int) (r2 : Int) (r3 : Int) (w0 w : World) (hI : IsS102 w0 w g s0_0 s0_1) (hB : Below w0.heap.size w0 w) (h : spec_l20Out.f k s0_0 s0_1 = some (r1, r2, r3)) :
    Calls Try.prog 62 #[.pointer (some ⟨g, 0, none⟩)] w fun e w' => e = .returned (.agg #[.int .i64 r1, .int .i64 r2]) ∧ IsS102 w0 w' g s0_0 r3 ∧ Below w0.heap.size w0 w' ∧ KeepBut w w' g none := by
  have hu29 := Try.underlying29
  have HI0 := Aside0.mk hI
  have HK := Aside0.mk (KeepBut.refl w g none)
  have HL := Aside0.mk hB.size
  clear hI
  have HW0 := Aside0.mk hB.size
  have HB := Aside0.mk hB
  clear hB
  have H : ((spec_l20Rd_pick.f k s0_0 s0_1 3).bind fun bt344 => ((some (([21, 21, 80, 7] : List Int) : List Int)).bind fun y346 => ((spec_l20Rd_pick.f k s0_0 bt344.2 4).bind fun bt349 => (if 0 ≤ bt349.1 then (if bt349.1 < (y346.length : Int) then (some (wrap64 (100 + bt344.1), rd y346 bt349.1, bt349.2)) else (none)) else (none))))) = some (r1, r2, r3) := h
  clear h
  replace H := Option.bind_eq_some_iff.mp H
  obtain ⟨⟨t344, t345⟩, A20, H⟩ := H
  replace H : ((some (([21, 21, 80, 7] : List Int) : List Int)).bind fun y346 => ((spec_l20Rd_pick.f k s0_0 t345 4).bind fun bt349 => (if 0 ≤ bt349.1 then (if bt349.1 < (y346.length : Int) then (some (wrap64 (100 + t344), rd y346 bt349.1, bt349.2)) else (none)) else (none)))) = some (r1, r2, r3) := H
  have A2 := Aside0.mk A20
  clear A20
  obtain ⟨y346, hy346⟩ : ∃ y_ : List Int, y_ = (([21, 21, 80, 7] : List Int)) := ⟨_, rfl⟩
  replace H : ((spec_l20Rd_pick.f k s0_0 t345 4).bind fun bt349 => (if 0 ≤ bt349.1 then (if bt349.1 < (y346.length : Int) then (some (wrap64 (100 + t344), rd y346 bt349.1, bt349.2)) else (none)) else (none))) = some (r1, r2, r3) := by first | (rw [hy346]; with_reducible exact H) | (have H2_ := (Option.bind_some _ _).symm.trans H; rw [hy346]; with_reducible exact H2_) | (have H2_ := (Option.bind_some _ _).symm.trans H; with_reducible exact H2_) | with_reducible exact H | (rw [hy346]; exact H) | exact H
  have Ny346 := Aside0.mk hy346
  clear hy346
  replace H := Option.bind_eq_some_iff.mp H
  obtain ⟨⟨t349, t350⟩, A30, H⟩ := H
  replace H : (if 0 ≤ t349 then (if t349 < (y346.length : Int) then (some (wrap64 (100 + t344), rd y346 t349, t350)) else (none)) else (none)) = some (r1, r2, r3) := H
  have A3 := Aside0.mk A30
  clear A30
  by_cases c4 : 0 ≤ t349
  · rw [if_pos c4] at H
    have c4b0 : decide (0 ≤ t349) = true := decide_eq_true c4
    clear c4
    by_cases c5 : t349 < (y346.length : Int)
    · rw [if_pos c5] at H
      have c5b0 : decide (t349 < (y346.length : Int)) = true := decide_eq_true c5
      clear c5
      simp only [Option.some.injEq, Prod.mk.injEq] at H
      obtain ⟨rfl, rfl, rfl⟩ := H
      go_enter Try.func62, Try.ntmps62
      go_wp2_with (first | ((with_reducible refine gate_dst (N := 2) rfl ?_); refine box_event ?hg (N := 2) ?hd (cs := #[.int .i64 0, .int .i64 0]) (t := 29) ?hr ?_; (case hd => rfl); (case hg => rfl); (case hr => first | (go_simp; done) | (go_simp; rfl)); intro gb343 hg w6 hbox hb; have n0_ := Aside0.mk (IsS102.below (by repeat (first | (with_reducible first | exact HI0.out | apply IsS102.alloc | apply IsS102.drewN | apply IsS102.drew | apply IsS102.set_1) | exact HI0.out)) hb); have n1_ := Aside0.mk (KeepBut.trans (by repeat (first | (with_reducible first | exact HK.out | apply KeepBut.set_ | apply keep_drewN | apply keep_drew | apply keep_alloc) | exact HK.out)) (KeepBut.of_below hb g none) (.inl rfl)); have n2_ := Aside0.mk (below_step (by repeat (first | (with_reducible first | exact HB.out | apply below_alloc | apply pw_below_drewN | apply below_drew1 | refine below_set ?_ (IsS102.ge HI0.out)) | exact HB.out)) hb); have n3_ := Aside0.mk (hbox); have n4_ := Aside0.mk ((by rw [hg]; exact (keep_size (w := w) (g := g) (row := none) (by repeat (first | (with_reducible first | exact HK.out | apply KeepBut.set_ | apply keep_drewN | apply keep_drew | apply keep_alloc) | exact HK.out))) : w.heap.size ≤ gb343)); have n5_ := Aside0.mk ((Nat.le_trans HW0.out (by rw [hg]; exact (keep_size (w := w) (g := g) (row := none) (by repeat (first | (with_reducible first | exact HK.out | apply KeepBut.set_ | apply keep_drewN | apply keep_drew | apply keep_alloc) | exact HK.out))) : w.heap.size ≤ gb343) : w0.heap.size ≤ gb343)); have n6_ := Aside0.mk ((by rw [hg]; exact Nat.ne_of_lt (IsS102.lt (show IsS102 w0 _ g s0_0 s0_1 from by repeat (first | (with_reducible first | exact HI0.out | apply IsS102.alloc | apply IsS102.drewN | apply IsS102.drew | apply IsS102.set_1) | exact HI0.out))) : g ≠ gb343)); have n7_ := Aside0.mk ((by rw [hg]; exact Nat.ne_of_gt (IsS102.lt (show IsS102 w0 _ g s0_0 s0_1 from by repeat (first | (with_reducible first | exact HI0.out | apply IsS102.alloc | apply IsS102.drewN | apply IsS102.drew | apply IsS102.set_1) | exact HI0.out))) : gb343 ≠ g)); clear HI0; clear HK; clear HB; have HI0 := n0_; have HK := n1_; have HB := n2_; have BK343 := n3_; have GW343 := n4_; have GE343 := n5_; have NB0_343 := n6_; have NB343_0 := n7_; clear n0_ n1_ n2_ n3_ n4_ n5_ n6_ n7_; clear hb hbox hg) | ((with_reducible refine gate_callee (f := 58) rfl ?_); refine goesL_ (some 4) rfl rfl Try.func58 (by kernel_rfl) rfl #[.pointer (some ⟨g, 0, none⟩), .int .i64 3] rfl (by (try simp only [List.map_toArray, List.map_cons, List.map_nil]); first | done | rfl | (simp only [List.length_drop, List.length_take]; rfl)) ?_; (with_reducible refine (spec_l20Rd_pick.calls k g s0_0 s0_1 3 t344 t345 w0 _ ?side1 ?side2 A2.out).mono ?_); (case side1 => repeat (first | (with_reducible first | exact HI0.out | apply IsS102.alloc | apply IsS102.drewN | apply IsS102.drew | apply IsS102.set_1 | refine IsS102.far ?_ NB0_343.out _) | exact HI0.out)); (case side2 => repeat (first | (with_reducible first | exact HB.out | apply below_alloc | apply pw_below_drewN | apply below_drew1 | refine below_set ?_ (IsS102.ge HI0.out) | refine below_set ?_ GE343.out) | exact HB.out)); rintro e w7 ⟨rfl, hi, hb, hk⟩; refine ⟨_, rfl, ?_⟩; have n0_ := Aside0.mk (KeepBut.blk hk (g' := gb343) (o := .cells #[.int .i64 0, .int .i64 0] 29 (0, 0)) (bk BK343) NB343_0.out (by simp)); have n1_ := Aside0.mk (KeepBut.trans (by repeat (first | (with_reducible first | exact HK.out | apply KeepBut.set_ | apply keep_drewN | apply keep_drew | apply keep_alloc | refine keep_far ?_ GW343.out _) | exact HK.out)) hk (.inl rfl)); have n2_ := Aside0.mk (hb); have n3_ := Aside0.mk (hi); clear BK343; clear HK; clear HB; clear HI0; have BK343 := n0_; have HK := n1_; have HB := n2_; have HI0 := n3_; clear n0_ n1_ n2_ n3_; (try clear hb); (try clear hb2); (try clear hk); (try clear hi)) | ((with_reducible refine gate_dst (N := 6) rfl ?_); refine Kd.R_lit (Kd.int .i64) _ 3 ?hg (N := 6) ?hd (xs := ([21, 21, 80, 7] : List Int)) (inner := [.int .i64 21, .int .i64 21, .int .i64 80, .int .i64 7]) (ok := fun _ => True) (okp := fun _ => True) ?hr ?hp (fun _ hk => hk) trivial (Below.refl _ _) (Nat.le_refl _) (by simp) ?_; (case hd => rfl); (case hg => rfl); (case hr => first | (go_simp; done) | (go_simp; rfl)); (case hp => exact (Reps.one (show Kd.M (Kd.int .i64) _ _ _ 21 [.int .i64 21] from rfl) (Reps.one (show Kd.M (Kd.int .i64) _ _ _ 21 [.int .i64 21] from rfl) (Reps.one (show Kd.M (Kd.int .i64) _ _ _ 80 [.int .i64 80] from rfl) (Reps.one (show Kd.M (Kd.int .i64) _ _ _ 7 [.int .i64 7] from rfl) (Reps.none _ _)))))); intro v347 w8 ho9 hb hg_ hnew_; clear hg_ hnew_; (first | rw [← Ny346.out] at ho9 | (simp only [Int.reduceToNat] at ho9; rw [← Ny346.out] at ho9)); have n0_ := Aside0.mk (Kd.R_lower ho9 (keep_size (w := w) (g := g) (row := none) (by repeat (first | (with_reducible first | exact HK.out | apply KeepBut.set_ | apply keep_drewN | apply keep_drew | apply keep_alloc | refine keep_far ?_ GW343.out _) | exact HK.out)))); have n1_ := Aside0.mk (IsS102.below (by repeat (first | (with_reducible first | exact HI0.out | apply IsS102.alloc | apply IsS102.drewN | apply IsS102.drew | apply IsS102.set_1 | refine IsS102.far ?_ NB0_343.out _) | exact HI0.out)) hb); have n2_ := bkB BK343 hb; have n3_ := Aside0.mk (KeepBut.trans (by repeat (first | (with_reducible first | exact HK.out | apply KeepBut.set_ | apply keep_drewN | apply keep_drew | apply keep_alloc | refine keep_far ?_ GW343.out _) | exact HK.out)) (KeepBut.of_below hb g none) (.inl rfl)); have n4_ := Aside0.mk (below_step (by repeat (first | (with_reducible first | exact HB.out | apply below_alloc | apply pw_below_drewN | apply below_drew1 | refine below_set ?_ (IsS102.ge HI0.out) | refine below_set ?_ GE343.out) | exact HB.out)) hb); clear HI0; clear BK343; clear HK; clear HB; have HO348 := n0_; have HI0 := n1_; have BK343 := n2_; have HK := n3_; have HB := n4_; clear n0_ n1_ n2_ n3_ n4_; clear hb ho9) | ((with_reducible refine gate_callee (f := 58) rfl ?_); refine goesL_ (some 8) rfl rfl Try.func58 (by kernel_rfl) rfl #[.pointer (some ⟨g, 0, none⟩), .int .i64 4] rfl (by (try simp only [List.map_toArray, List.map_cons, List.map_nil]); first | done | rfl | (simp only [List.length_drop, List.length_take]; rfl)) ?_; (with_reducible refine (spec_l20Rd_pick.calls k g s0_0 t345 4 t349 t350 w0 _ ?side1 ?side2 A3.out).mono ?_); (case side1 => repeat (first | (with_reducible first | exact HI0.out | apply IsS102.alloc | apply IsS102.drewN | apply IsS102.drew | apply IsS102.set_1 | refine IsS102.far ?_ NB0_343.out _) | exact HI0.out)); (case side2 => repeat (first | (with_reducible first | exact HB.out | apply below_alloc | apply pw_below_drewN | apply below_drew1 | refine below_set ?_ (IsS102.ge HI0.out) | refine below_set ?_ GE343.out) | exact HB.out)); rintro e w10 ⟨rfl, hi, hb, hk⟩; refine ⟨_, rfl, ?_⟩; have n0_ := Aside0.mk (KeepBut.blk hk (g' := gb343) (o := .cells #[.int .i64 0, .int .i64 0] 29 (0, 0)) (bk BK343) NB343_0.out (by simp)); have n1_ := Aside0.mk (Kd.R_mono (Kd.R_keep (IsS102.apart (show IsS102 w0 _ g s0_0 t345 from by repeat (first | (with_reducible first | exact HI0.out | apply IsS102.alloc | apply IsS102.drewN | apply IsS102.drew | apply IsS102.set_1 | refine IsS102.far ?_ NB0_343.out _) | exact HI0.out)) (rs HO348) (by decide)) hk (fun _ h => h.2)) (fun _ h => h.1)); have n2_ := Aside0.mk (KeepBut.trans (by repeat (first | (with_reducible first | exact HK.out | apply KeepBut.set_ | apply keep_drewN | apply keep_drew | apply keep_alloc | refine keep_far ?_ GW343.out _) | exact HK.out)) hk (.inl rfl)); have n3_ := Aside0.mk (hb); have n4_ := Aside0.mk (hi); clear BK343; clear HO348; clear HK; clear HB; clear HI0; have BK343 := n0_; have HO348 := n1_; have HK := n2_; have HB := n3_; have HI0 := n4_; clear n0_ n1_ n2_ n3_ n4_; (try clear hb); (try clear hb2); (try clear hk); (try clear hi); obtain ⟨Ao11, co11, eo11⟩ := Kd.R_slice HO348.out; subst eo11; have p351 : 0 ≤ (t349 : Int) := of_decide_eq_true (by first | (with_reducible assumption) | assumption); have q351 : t349 < (y346.length : Int) := of_decide_eq_true (by first | (with_reducible assumption) | assumption); obtain ⟨ad351, e351, hx351_0⟩ := Kd.at_int (Kd.R_reads' HO348.out).2.2 t349 p351 q351; cases e351; replace p351 := eq_true p351; replace q351 := eq_true q351; have hnb12 := NB343_0.out; have hnc12 := NB0_343.out; have hcz13_0 : w10.cell? ⟨gb343, 0, none⟩ = some (.int .i64 0) := (blk_cell BK343.out 0).trans rfl; have hcz13_1 : w10.cell? ⟨gb343, 1, none⟩ = some (.int .i64 0) := (blk_cell BK343.out 1).trans rfl; have hfz13_0 := blk_frozen BK343.out 0; have hfz13_1 := blk_frozen BK343.out 1))
      refine bodyPost_ret (results_cell_row rfl _ _ gb343 29 #[.int .i64 (wrap64 (100 + t344)), .int .i64 (rd y346 t349)] (0, 0) _ rfl (by (with_reducible repeat refine bu ?_); refine blk_put (cs := #[.int .i64 (wrap64 (100 + t344)), .int .i64 0]) ?_ 1 _ rfl; (with_reducible repeat refine bu ?_); refine blk_put (cs := #[.int .i64 0, .int .i64 0]) ?_ 0 _ rfl; (with_reducible repeat refine bu ?_); exact BK343.out) Try.underlying29 rfl (by kernel_rfl)) rfl ?_
      exact ⟨by first | rfl | (simp [errW_none, errW_some] <;> rfl) | (simp [*, errW_none, errW_some] <;> rfl), by repeat (first | (with_reducible first | exact HI0.out | apply IsS102.alloc | apply IsS102.drewN | apply IsS102.drew | apply IsS102.set_1 | refine IsS102.far ?_ NB0_343.out _) | exact HI0.out), by repeat (first | (with_reducible first | exact HB.out | apply below_alloc | apply pw_below_drewN | apply below_drew1 | refine below_set ?_ (IsS102.ge HI0.out) | refine below_set ?_ GE343.out) | exact HB.out), by repeat (first | (with_reducible first | exact HK.out | apply KeepBut.set_ | apply keep_drewN | apply keep_drew | apply keep_alloc | refine keep_far ?_ GW343.out _) | exact HK.out)⟩
    · rw [if_neg c5] at H
      exact absurd H (by simp)
  · rw [if_neg c4] at H
    exact absurd H (by simp)

end Go.Proofs.Ytiocgkggegahhaa.P

-- written by hw.py for this claim
namespace Go.Proofs.Ytiocgkggegahhaa.P
open Go.RowKit Go.Proofs.YtiocgkggegahhaaUFnExactRulMay.PrintWords Go.Proofs.YtiocgkggegahhaaUFnExactRulMay.PrintLast Go.Proofs.YtiocgkggegahhaaUFnExactRulMay.PrintMore
attribute [local go_sem] max2_int min2_int max_two min_two max_three min_three max_four min_four
set_option linter.unusedVariables false
set_option linter.unusedSimpArgs false

/-! ### spec_l20End: function 60 -/
def spec_l20End.f (k : Nat) (s0_0 : List Int) (s0_1 : Int) (a1 : Int) : Option (Int × Int × Int) := (spec_l20Rd_odd.f k s0_0 s0_1 a1).bind fun bt353 => (if bt353.1 = true then ((some (([(⟨0, 0⟩ : S29), (⟨10, 5⟩ : S29), (⟨1, 0⟩ : S29), (⟨1, 1000⟩ : S29), (⟨110, 3⟩ : S29), (⟨(-1), (-1)⟩ : S29)] : List (S29)) : List (S29))).bind fun y355 => ((spec_l20Rd_pick.f k s0_0 bt353.2 6).bind fun bt358 => (if 0 ≤ bt358.1 then (if bt358.1 < (y355.length : Int) then (some ((rd_T29 y355 bt358.1).f0, (rd_T29 y355 bt358.1).f1, bt358.2)) else (none)) else (none)))) else ((spec_l20In.f k s0_0 bt353.2).bind fun bt361 => ((spec_l20Out.f k s0_0 bt361.2.2).bind fun bt364 => ((spec_l20Rd_pick.f k s0_0 bt364.2.2 7).bind fun bt367 => ((some (([(⟨bt361.1, bt361.2.1⟩ : S29), (⟨bt364.1, bt364.2.1⟩ : S29), (⟨50, wrap64 (500 + bt367.1)⟩ : S29)] : List (S29)) : List (S29))).bind fun y369 => ((spec_l20Rd_pick.f k s0_0 bt367.2 3).bind fun bt372 => (if 0 ≤ bt372.1 then (if bt372.1 < (y369.length : Int) then (some ((rd_T29 y369 bt372.1).f0, (rd_T29 y369 bt372.1).f1, bt372.2)) else (none)) else (none))))))))
theorem spec_l20End.mono : ∀ a0 a1 a2 k, LeO (spec_l20End.f k a0 a1 a2) (spec_l20End.f (k + 1) a0 a1 a2) := by
  intro a0 a1 a2 k
  unfold spec_l20End.f
  repeat' first
      | (with_reducible exact spec_l20In.mono _ _ _)
      | (with_reducible exact spec_l20Out.mono _ _ _)
      | (with_reducible exact spec_l20Rd_odd.mono _ _ _ _)
      | (with_reducible exact spec_l20Rd_pick.mono _ _ _ _)
      | (with_reducible exact LeO.refl _)
      | (with_reducible exact LeO.none _)
      | (with_reducible refine LeO.ite ?_ ?_)
      | (with_reducible refine LeO.bind ?_ (fun _ => ?_))
      | exact spec_l20In.mono _ _ _
      | exact spec_l20Out.mono _ _ _
      | exact spec_l20Rd_odd.mono _ _ _ _
      | exact spec_l20Rd_pick.mono _ _ _ _
      | exact LeO.none _
      | refine LeO.ite ?_ ?_
      | refine LeO.bind ?_ (fun _ => ?_)
set_option maxHeartbeats 8000000 in
set_option maxRecDepth 100000 in
theorem spec_l20End.calls (k : Nat) (g : Nat) (s0_0 : List Int) (s0_1 : Int) (a1 : Int) (r1 : Int) (r2 : Int) (r3 : Int) (w0 w : World) (hI : IsS102 w0 w g s0_0 s0_1) (hB : Below w0.heap.size w0 w) (h : spec_l20End.f k s0_0 s0_1 a1 = some (r1, r2, r3)) :
    Calls Try.prog 60 #[.pointer (some ⟨g, 0, none⟩), .int .i64 a1] w fun e w' => e = .returned (.agg #[.int .i64 r1, .int .i64 r2]) ∧ IsS102 w0 w' g s0_0 r3 ∧ Below w0.heap.size w0 w' ∧ KeepBut w w' g none := by
  have hu29 := Try.underlying29
  have HI0 := Aside0.mk hI
  have HK := Aside0.mk (KeepBut.refl w g none)
  have HL := Aside0.mk hB.size
  clear hI
  have HW0 := Aside0.mk hB.size
  have HB := Aside0.mk hB
  clear hB
  have H : ((spec_l20Rd_odd.f k s0_0 s0_1 a1).bind fun bt353 => (if bt353.1 = true then ((some (([(⟨0, 0⟩ : S29), (⟨10, 5⟩ : S29), (⟨1, 0⟩ : S29), (⟨1, 1000⟩ : S29), (⟨110, 3⟩ : S29), (⟨(-1), (-1)⟩ : S29)] : List (S29)) : List (S29))).bind fun y355 => ((spec_l20Rd_pick.f k s0_0 bt353.2 6).bind fun bt358 => (if 0 ≤ bt358.1 then (if bt358.1 < (y355.length : Int) then (some ((rd_T29 y355 bt358.1).f0, (rd_T29 y355 bt358.1).f1, bt358.2)) else (none)) else (none)))) else ((spec_l20In.f k s0_0 bt353.2).bind fun bt361 => ((spec_l20Out.f k s0_0 bt361.2.2).bind fun bt364 => ((spec_l20Rd_pick.f k s0_0 bt364.2.2 7).bind fun bt367 => ((some (([(⟨bt361.1, bt361.2.1⟩ : S29), (⟨bt364.1, bt364.2.1⟩ : S29), (⟨50, wrap64 (500 + bt367.1)⟩ : S29)] : List (S29)) : List (S29))).bind fun y369 => ((spec_l20Rd_pick.f k s0_0 bt367.2 3).bind fun bt372 => (if 0 ≤ bt372.1 then (if bt372.1 < (y369.length : Int) then (some ((rd_T29 y369 bt372.1).f0, (rd_T29 y369 bt372.1).f1, bt372.2)) else (none)) else (none))))))))) = some (r1, r2, r3) := h
  clear h
  replace H := Option.bind_eq_some_iff.mp H
  obtain ⟨⟨t353, t354⟩, A30, H⟩ := H
  replace H : (if t353 = true then ((some (([(⟨0, 0⟩ : S29), (⟨10, 5⟩ : S29), (⟨1, 0⟩ : S29), (⟨1, 1000⟩ : S29), (⟨110, 3⟩ : S29), (⟨(-1), (-1)⟩ : S29)] : List (S29)) : List (S29))).bind fun y355 => ((spec_l20Rd_pick.f k s0_0 t354 6).bind fun bt358 => (if 0 ≤ bt358.1 then (if bt358.1 < (y355.length : Int) then (some ((rd_T29 y355 bt358.1).f0, (rd_T29 y355 bt358.1).f1, bt358.2)) else (none)) else (none)))) else ((spec_l20In.f k s0_0 t354).bind fun bt361 => ((spec_l20Out.f k s0_0 bt361.2.2).bind fun bt364 => ((spec_l20Rd_pick.f k s0_0 bt364.2.2 7).bind fun bt367 => ((some (([(⟨bt361.1, bt361.2.1⟩ : S29), (⟨bt364.1, bt364.2.1⟩ : S29), (⟨50, wrap64 (500 + bt367.1)⟩ : S29)] : List (S29)) : List (S29))).bind fun y369 => ((spec_l20Rd_pick.f k s0_0 bt367.2 3).bind fun bt372 => (if 0 ≤ bt372.1 then (if bt372.1 < (y369.length : Int) then (some ((rd_T29 y369 bt372.1).f0, (rd_T29 y369 bt372.1).f1, bt372.2)) else (none)) else (none)))))))) = some (r1, r2, r3) := H
  have A3 := Aside0.mk A30
  clear A30
  by_cases c4 : t353 = true
  · subst c4
    have H1 : ((some (([(⟨0, 0⟩ : S29), (⟨10, 5⟩ : S29), (⟨1, 0⟩ : S29), (⟨1, 1000⟩ : S29), (⟨110, 3⟩ : S29), (⟨(-1), (-1)⟩ : S29)] : List (S29)) : List (S29))).bind fun y355 => ((spec_l20Rd_pick.f k s0_0 t354 6).bind fun bt358 => (if 0 ≤ bt358.1 then (if bt358.1 < (y355.length : Int) then (some ((rd_T29 y355 bt358.1).f0, (rd_T29 y355 bt358.1).f1, bt358.2)) else (none)) else (none)))) = some (r1, r2, r3) := by rw [if_pos rfl] at H; exact H
    clear H
    have H := H1
    clear H1
    obtain ⟨y355, hy355⟩ : ∃ y_ : List (S29), y_ = (([(⟨0, 0⟩ : S29), (⟨10, 5⟩ : S29), (⟨1, 0⟩ : S29), (⟨1, 1000⟩ : S29), (⟨110, 3⟩ : S29), (⟨(-1), (-1)⟩ : S29)] : List (S29))) := ⟨_, rfl⟩
    replace H : ((spec_l20Rd_pick.f k s0_0 t354 6).bind fun bt358 => (if 0 ≤ bt358.1 then (if bt358.1 < (y355.length : Int) then (some ((rd_T29 y355 bt358.1).f0, (rd_T29 y355 bt358.1).f1, bt358.2)) else (none)) else (none))) = some (r1, r2, r3) := by first | (rw [hy355]; with_reducible exact H) | (have H2_ := (Option.bind_some _ _).symm.trans H; rw [hy355]; with_reducible exact H2_) | (have H2_ := (Option.bind_some _ _).symm.trans H; with_reducible exact H2_) | with_reducible exact H | (rw [hy355]; exact H) | exact H
    have Ny355 := Aside0.mk hy355
    clear hy355
    replace H := Option.bind_eq_some_iff.mp H
    obtain ⟨⟨t358, t359⟩, A50, H⟩ := H
    replace H : (if 0 ≤ t358 then (if t358 < (y355.length : Int) then (some ((rd_T29 y355 t358).f0, (rd_T29 y355 t358).f1, t359)) else (none)) else (none)) = some (r1, r2, r3) := H
    have A5 := Aside0.mk A50
    clear A50
    by_cases c6 : 0 ≤ t358
    · rw [if_pos c6] at H
      have c6b0 : decide (0 ≤ t358) = true := decide_eq_true c6
      clear c6
      by_cases c7 : t358 < (y355.length : Int)
      · rw [if_pos c7] at H
        have c7b0 : decide (t358 < (y355.length : Int)) = true := decide_eq_true c7
        clear c7
        simp only [Option.some.injEq, Prod.mk.injEq] at H
        obtain ⟨rfl, rfl, rfl⟩ := H
        go_enter Try.func60, Try.ntmps60
        go_wp2_with (first | ((with_reducible refine gate_dst (N := 4) rfl ?_); refine box_event ?hg (N := 4) ?hd (cs := #[.int .i64 0, .int .i64 0]) (t := 29) ?hr ?_; (case hd => rfl); (case hg => rfl); (case hr => first | (go_simp; done) | (go_simp; rfl)); intro gb352 hg w8 hbox hb; have n0_ := Aside0.mk (IsS102.below (by repeat (first | (with_reducible first | exact HI0.out | apply IsS102.alloc | apply IsS102.drewN | apply IsS102.drew | apply IsS102.set_1) | exact HI0.out)) hb); have n1_ := Aside0.mk (KeepBut.trans (by repeat (first | (with_reducible first | exact HK.out | apply KeepBut.set_ | apply keep_drewN | apply keep_drew | apply keep_alloc) | exact HK.out)) (KeepBut.of_below hb g none) (.inl rfl)); have n2_ := Aside0.mk (below_step (by repeat (first | (with_reducible first | exact HB.out | apply below_alloc | apply pw_below_drewN | apply below_drew1 | refine below_set ?_ (IsS102.ge HI0.out)) | exact HB.out)) hb); have n3_ := Aside0.mk (hbox); have n4_ := Aside0.mk ((by rw [hg]; exact (keep_size (w := w) (g := g) (row := none) (by repeat (first | (with_reducible first | exact HK.out | apply KeepBut.set_ | apply keep_drewN | apply keep_drew | apply keep_alloc) | exact HK.out))) : w.heap.size ≤ gb352)); have n5_ := Aside0.mk ((Nat.le_trans HW0.out (by rw [hg]; exact (keep_size (w := w) (g := g) (row := none) (by repeat (first | (with_reducible first | exact HK.out | apply KeepBut.set_ | apply keep_drewN | apply keep_drew | apply keep_alloc) | exact HK.out))) : w.heap.size ≤ gb352) : w0.heap.size ≤ gb352)); have n6_ := Aside0.mk ((by rw [hg]; exact Nat.ne_of_lt (IsS102.lt (show IsS102 w0 _ g s0_0 s0_1 from by repeat (first | (with_reducible first | exact HI0.out | apply IsS102.alloc | apply IsS102.drewN | apply IsS102.drew | apply IsS102.set_1) | exact HI0.out))) : g ≠ gb352)); have n7_ := Aside0.mk ((by rw [hg]; exact Nat.ne_of_gt (IsS102.lt (show IsS102 w0 _ g s0_0 s0_1 from by repeat (first | (with_reducible first | exact HI0.out | apply IsS102.alloc | apply IsS102.drewN | apply IsS102.drew | apply IsS102.set_1) | exact HI0.out))) : gb352 ≠ g)); clear HI0; clear HK; clear HB; have HI0 := n0_; have HK := n1_; have HB := n2_; have BK352 := n3_; have GW352 := n4_; have GE352 := n5_; have NB0_352 := n6_; have NB352_0 := n7_; clear n0_ n1_ n2_ n3_ n4_ n5_ n6_ n7_; clear hb hbox hg) | ((with_reducible refine gate_callee (f := 59) rfl ?_); refine goesL_ (some 7) rfl rfl Try.func59 (by kernel_rfl) rfl #[.pointer (some ⟨g, 0, none⟩), .int .i64 a1] rfl (by (try simp only [List.map_toArray, List.map_cons, List.map_nil]); first | done | rfl | (simp only [List.length_drop, List.length_take]; rfl)) ?_; (with_reducible refine (spec_l20Rd_odd.calls k g s0_0 s0_1 a1 true t354 w0 _ ?side1 ?side2 A3.out).mono ?_); (case side1 => repeat (first | (with_reducible first | exact HI0.out | apply IsS102.alloc | apply IsS102.drewN | apply IsS102.drew | apply IsS102.set_1 | refine IsS102.far ?_ NB0_352.out _) | exact HI0.out)); (case side2 => repeat (first | (with_reducible first | exact HB.out | apply below_alloc | apply pw_below_drewN | apply below_drew1 | refine below_set ?_ (IsS102.ge HI0.out) | refine below_set ?_ GE352.out) | exact HB.out)); rintro e w9 ⟨rfl, hi, hb, hk⟩; refine ⟨_, rfl, ?_⟩; have n0_ := Aside0.mk (KeepBut.blk hk (g' := gb352) (o := .cells #[.int .i64 0, .int .i64 0] 29 (0, 0)) (bk BK352) NB352_0.out (by simp)); have n1_ := Aside0.mk (KeepBut.trans (by repeat (first | (with_reducible first | exact HK.out | apply KeepBut.set_ | apply keep_drewN | apply keep_drew | apply keep_alloc | refine keep_far ?_ GW352.out _) | exact HK.out)) hk (.inl rfl)); have n2_ := Aside0.mk (hb); have n3_ := Aside0.mk (hi); clear BK352; clear HK; clear HB; clear HI0; have BK352 := n0_; have HK := n1_; have HB := n2_; have HI0 := n3_; clear n0_ n1_ n2_ n3_; (try clear hb); (try clear hb2); (try clear hk); (try clear hi)) | ((with_reducible refine gate_dst (N := 14) rfl ?_); refine Kd.R_lit k29 _ 29 ?hg (N := 14) ?hd (xs := ([(⟨0, 0⟩ : S29), (⟨10, 5⟩ : S29), (⟨1, 0⟩ : S29), (⟨1, 1000⟩ : S29), (⟨110, 3⟩ : S29), (⟨(-1), (-1)⟩ : S29)] : List (S29))) (inner := [.int .i64 0, .int .i64 0, .int .i64 10, .int .i64 5, .int .i64 1, .int .i64 0, .int .i64 1, .int .i64 1000, .int .i64 110, .int .i64 3, .int .i64 (-1), .int .i64 (-1)]) (ok := fun _ => True) (okp := fun _ => True) ?hr ?hp (fun _ hk => hk) trivial (Below.refl _ _) (Nat.le_refl _) (by simp) ?_; (case hd => rfl); (case hg => rfl); (case hr => first | (go_simp; done) | (go_simp; rfl)); (case hp => exact (Reps.c2 (show Kd.M k29 _ _ _ (⟨0, 0⟩ : S29) [.int .i64 0, .int .i64 0] from (k29_mkM _ _ _ (⟨0, 0⟩ : S29) )) (Reps.c2 (show Kd.M k29 _ _ _ (⟨10, 5⟩ : S29) [.int .i64 10, .int .i64 5] from (k29_mkM _ _ _ (⟨10, 5⟩ : S29) )) (Reps.c2 (show Kd.M k29 _ _ _ (⟨1, 0⟩ : S29) [.int .i64 1, .int .i64 0] from (k29_mkM _ _ _ (⟨1, 0⟩ : S29) )) (Reps.c2 (show Kd.M k29 _ _ _ (⟨1, 1000⟩ : S29) [.int .i64 1, .int .i64 1000] from (k29_mkM _ _ _ (⟨1, 1000⟩ : S29) )) (Reps.c2 (show Kd.M k29 _ _ _ (⟨110, 3⟩ : S29) [.int .i64 110, .int .i64 3] from (k29_mkM _ _ _ (⟨110, 3⟩ : S29) )) (Reps.c2 (show Kd.M k29 _ _ _ (⟨(-1), (-1)⟩ : S29) [.int .i64 (-1), .int .i64 (-1)] from (k29_mkM _ _ _ (⟨(-1), (-1)⟩ : S29) )) (Reps.none _ _)))))))); intro v356 w10 ho11 hb hg_ hnew_; clear hg_ hnew_; (first | rw [← Ny355.out] at ho11 | (simp only [Int.reduceToNat] at ho11; rw [← Ny355.out] at ho11)); have n0_ := Aside0.mk (Kd.R_lower (Kd.R_newB ho11 (g := gb352) (o := .cells #[.int .i64 0, .int .i64 0] 29 (0, 0)) (bk BK352)) (keep_size (w := w) (g := g) (row := none) (by repeat (first | (with_reducible first | exact HK.out | apply KeepBut.set_ | apply keep_drewN | apply keep_drew | apply keep_alloc | refine keep_far ?_ GW352.out _) | exact HK.out)))); have n1_ := Aside0.mk (IsS102.below (by repeat (first | (with_reducible first | exact HI0.out | apply IsS102.alloc | apply IsS102.drewN | apply IsS102.drew | apply IsS102.set_1 | refine IsS102.far ?_ NB0_352.out _) | exact HI0.out)) hb); have n2_ := bkB BK352 hb; have n3_ := Aside0.mk (KeepBut.trans (by repeat (first | (with_reducible first | exact HK.out | apply KeepBut.set_ | apply keep_drewN | apply keep_drew | apply keep_alloc | refine keep_far ?_ GW352.out _) | exact HK.out)) (KeepBut.of_below hb g none) (.inl rfl)); have n4_ := Aside0.mk (below_step (by repeat (first | (with_reducible first | exact HB.out | apply below_alloc | apply pw_below_drewN | apply below_drew1 | refine below_set ?_ (IsS102.ge HI0.out) | refine below_set ?_ GE352.out) | exact HB.out)) hb); clear HI0; clear BK352; clear HK; clear HB; have HO357 := n0_; have HI0 := n1_; have BK352 := n2_; have HK := n3_; have HB := n4_; clear n0_ n1_ n2_ n3_ n4_; clear hb ho11) | ((with_reducible refine gate_callee (f := 58) rfl ?_); refine goesL_ (some 16) rfl rfl Try.func58 (by kernel_rfl) rfl #[.pointer (some ⟨g, 0, none⟩), .int .i64 6] rfl (by (try simp only [List.map_toArray, List.map_cons, List.map_nil]); first | done | rfl | (simp only [List.length_drop, List.length_take]; rfl)) ?_; (with_reducible refine (spec_l20Rd_pick.calls k g s0_0 t354 6 t358 t359 w0 _ ?side1 ?side2 A5.out).mono ?_); (case side1 => repeat (first | (with_reducible first | exact HI0.out | apply IsS102.alloc | apply IsS102.drewN | apply IsS102.drew | apply IsS102.set_1 | refine IsS102.far ?_ NB0_352.out _) | exact HI0.out)); (case side2 => repeat (first | (with_reducible first | exact HB.out | apply below_alloc | apply pw_below_drewN | apply below_drew1 | refine below_set ?_ (IsS102.ge HI0.out) | refine below_set ?_ GE352.out) | exact HB.out)); rintro e w12 ⟨rfl, hi, hb, hk⟩; refine ⟨_, rfl, ?_⟩; have n0_ := Aside0.mk (KeepBut.blk hk (g' := gb352) (o := .cells #[.int .i64 0, .int .i64 0] 29 (0, 0)) (bk BK352) NB352_0.out (by simp)); have n1_ := Aside0.mk (Kd.R_mono (Kd.R_keep (IsS102.apart (show IsS102 w0 _ g s0_0 t354 from by repeat (first | (with_reducible first | exact HI0.out | apply IsS102.alloc | apply IsS102.drewN | apply IsS102.drew | apply IsS102.set_1 | refine IsS102.far ?_ NB0_352.out _) | exact HI0.out)) (rs HO357) (by decide)) hk (fun _ h => h.2)) (fun _ h => h.1)); have n2_ := Aside0.mk (KeepBut.trans (by repeat (first | (with_reducible first | exact HK.out | apply KeepBut.set_ | apply keep_drewN | apply keep_drew | apply keep_alloc | refine keep_far ?_ GW352.out _) | exact HK.out)) hk (.inl rfl)); have n3_ := Aside0.mk (hb); have n4_ := Aside0.mk (hi); clear BK352; clear HO357; clear HK; clear HB; clear HI0; have BK352 := n0_; have HO357 := n1_; have HK := n2_; have HB := n3_; have HI0 := n4_; clear n0_ n1_ n2_ n3_ n4_; (try clear hb); (try clear hb2); (try clear hk); (try clear hi); obtain ⟨Ao13, co13, eo13⟩ := Kd.R_slice HO357.out; subst eo13; have p360 : 0 ≤ (t358 : Int) := of_decide_eq_true (by first | (with_reducible assumption) | assumption); have q360 : t358 < (y355.length : Int) := of_decide_eq_true (by first | (with_reducible assumption) | assumption); obtain ⟨ad360, e360, hx360_0, hx360_1⟩ := at_T29 (Kd.R_reads' HO357.out).2.2 t358 p360 q360; cases e360; replace p360 := eq_true p360; replace q360 := eq_true q360; have hnb14 := NB352_0.out; have hnc14 := NB0_352.out; have hcz15_0 : w12.cell? ⟨gb352, 0, none⟩ = some (.int .i64 0) := (blk_cell BK352.out 0).trans rfl; have hcz15_1 : w12.cell? ⟨gb352, 1, none⟩ = some (.int .i64 0) := (blk_cell BK352.out 1).trans rfl; have hfz15_0 := blk_frozen BK352.out 0; have hfz15_1 := blk_frozen BK352.out 1))
        refine bodyPost_ret (results_cell_row rfl _ _ gb352 29 #[.int .i64 ((rd_T29 y355 t358).f0), .int .i64 ((rd_T29 y355 t358).f1)] (0, 0) _ rfl (by (with_reducible repeat refine bu ?_); refine blk_put (cs := #[.int .i64 ((rd_T29 y355 t358).f0), .int .i64 0]) ?_ 1 _ rfl; (with_reducible repeat refine bu ?_); refine blk_put (cs := #[.int .i64 0, .int .i64 0]) ?_ 0 _ rfl; (with_reducible repeat refine bu ?_); exact BK352.out) Try.underlying29 rfl (by kernel_rfl)) rfl ?_
        exact ⟨by first | rfl | (simp [errW_none, errW_some] <;> rfl) | (simp [*, errW_none, errW_some] <;> rfl), by repeat (first | (with_reducible first | exact HI0.out | apply IsS102.alloc | apply IsS102.drewN | apply IsS102.drew | apply IsS102.set_1 | refine IsS102.far ?_ NB0_352.out _) | exact HI0.out), by repeat (first | (with_reducible first | exact HB.out | apply below_alloc | apply pw_below_drewN | apply below_drew1 | refine below_set ?_ (IsS102.ge HI0.out) | refine below_set ?_ GE352.out) | exact HB.out), by repeat (first | (with_reducible first | exact HK.out | apply KeepBut.set_ | apply keep_drewN | apply keep_drew | apply keep_alloc | refine keep_far ?_ GW352.out _) | exact HK.out)⟩
      · rw [if_neg c7] at H
        exact absurd H (by simp)
    · rw [if_neg c6] at H
      exact absurd H (by simp)
  · replace c4 := Bool.eq_false_iff.mpr c4
    subst c4
    have H1 : ((spec_l20In.f k s0_0 t354).bind fun bt361 => ((spec_l20Out.f k s0_0 bt361.2.2).bind fun bt364 => ((spec_l20Rd_pick.f k s0_0 bt364.2.2 7).bind fun bt367 => ((some (([(⟨bt361.1, bt361.2.1⟩ : S29), (⟨bt364.1, bt364.2.1⟩ : S29), (⟨50, wrap64 (500 + bt367.1)⟩ : S29)] : List (S29)) : List (S29))).bind fun y369 => ((spec_l20Rd_pick.f k s0_0 bt367.2 3).bind fun bt372 => (if 0 ≤ bt372.1 then (if bt372.1 < (y369.length : Int) then (some ((rd_T29 y369 bt372.1).f0, (rd_T29 y369 bt372.1).f1, bt372.2)) else (none)) else (none))))))) = some (r1, r2, r3) := by rw [if_neg (show ¬ (false = true) by decide)] at H; exact H
    clear H
    have H := H1
    clear H1
    replace H := Option.bind_eq_some_iff.mp H
    obtain ⟨⟨t361, t362, t363⟩, A160, H⟩ := H
    replace H : ((spec_l20Out.f k s0_0 t363).bind fun bt364 => ((spec_l20Rd_pick.f k s0_0 bt364.2.2 7).bind fun bt367 => ((some (([(⟨t361, t362⟩ : S29), (⟨bt364.1, bt364.2.1⟩ : S29), (⟨50, wrap64 (500 + bt367.1)⟩ : S29)] : List (S29)) : List (S29))).bind fun y369 => ((spec_l20Rd_pick.f k s0_0 bt367.2 3).bind fun bt372 => (if 0 ≤ bt372.1 then (if bt372.1 < (y369.length : Int) then (some ((rd_T29 y369 bt372.1).f0, (rd_T29 y369 bt372.1).f1, bt372.2)) else (none)) else (none)))))) = some (r1, r2, r3) := H
    have A16 := Aside0.mk A160
    clear A160
    replace H := Option.bind_eq_some_iff.mp H
    obtain ⟨⟨t364, t365, t366⟩, A170, H⟩ := H
    replace H : ((spec_l20Rd_pick.f k s0_0 t366 7).bind fun bt367 => ((some (([(⟨t361, t362⟩ : S29), (⟨t364, t365⟩ : S29), (⟨50, wrap64 (500 + bt367.1)⟩ : S29)] : List (S29)) : List (S29))).bind fun y369 => ((spec_l20Rd_pick.f k s0_0 bt367.2 3).bind fun bt372 => (if 0 ≤ bt372.1 then (if bt372.1 < (y369.length : Int) then (some ((rd_T29 y369 bt372.1).f0, (rd_T29 y369 bt372.1).f1, bt372.2)) else (none)) else (none))))) = some (r1, r2, r3) := H
    have A17 := Aside0.mk A170
    clear A170
    replace H := Option.bind_eq_some_iff.mp H
    obtain ⟨⟨t367, t368⟩, A180, H⟩ := H
    replace H : ((some (([(⟨t361, t362⟩ : S29), (⟨t364, t365⟩ : S29), (⟨50, wrap64 (500 + t367)⟩ : S29)] : List (S29)) : List (S29))).bind fun y369 => ((spec_l20Rd_pick.f k s0_0 t368 3).bind fun bt372 => (if 0 ≤ bt372.1 then (if bt372.1 < (y369.length : Int) then (some ((rd_T29 y369 bt372.1).f0, (rd_T29 y369 bt372.1).f1, bt372.2)) else (none)) else (none)))) = some (r1, r2, r3) := H
    have A18 := Aside0.mk A180
    clear A180
    obtain ⟨y369, hy369⟩ : ∃ y_ : List (S29), y_ = (([(⟨t361, t362⟩ : S29), (⟨t364, t365⟩ : S29), (⟨50, wrap64 (500 + t367)⟩ : S29)] : List (S29))) := ⟨_, rfl⟩
    replace H : ((spec_l20Rd_pick.f k s0_0 t368 3).bind fun bt372 => (if 0 ≤ bt372.1 then (if bt372.1 < (y369.length : Int) then (some ((rd_T29 y369 bt372.1).f0, (rd_T29 y369 bt372.1).f1, bt372.2)) else (none)) else (none))) = some (r1, r2, r3) := by first | (rw [hy369]; with_reducible exact H) | (have H2_ := (Option.bind_some _ _).symm.trans H; rw [hy369]; with_reducible exact H2_) | (have H2_ := (Option.bind_some _ _).symm.trans H; with_reducible exact H2_) | with_reducible exact H | (rw [hy369]; exact H) | exact H
    have Ny369 := Aside0.mk hy369
    clear hy369
    replace H := Option.bind_eq_some_iff.mp H
    obtain ⟨⟨t372, t373⟩, A190, H⟩ := H
    replace H : (if 0 ≤ t372 then (if t372 < (y369.length : Int) then (some ((rd_T29 y369 t372).f0, (rd_T29 y369 t372).f1, t373)) else (none)) else (none)) = some (r1, r2, r3) := H
    have A19 := Aside0.mk A190
    clear A190
    by_cases c20 : 0 ≤ t372
    · rw [if_pos c20] at H
      have c20b0 : decide (0 ≤ t372) = true := decide_eq_true c20
      clear c20
      by_cases c21 : t372 < (y369.length : Int)
      · rw [if_pos c21] at H
        have c21b0 : decide (t372 < (y369.length : Int)) = true := decide_eq_true c21
        clear c21
        simp only [Option.some.injEq, Prod.mk.injEq] at H
        obtain ⟨rfl, rfl, rfl⟩ := H
        go_enter Try.func60, Try.ntmps60
        go_wp2_with (first | ((with_reducible refine gate_dst (N := 4) rfl ?_); refine box_event ?hg (N := 4) ?hd (cs := #[.int .i64 0, .int .i64 0]) (t := 29) ?hr ?_; (case hd => rfl); (case hg => rfl); (case hr => first | (go_simp; done) | (go_simp; rfl)); intro gb352 hg w22 hbox hb; have n0_ := Aside0.mk (IsS102.below (by repeat (first | (with_reducible first | exact HI0.out | apply IsS102.alloc | apply IsS102.drewN | apply IsS102.drew | apply IsS102.set_1) | exact HI0.out)) hb); have n1_ := Aside0.mk (KeepBut.trans (by repeat (first | (with_reducible first | exact HK.out | apply KeepBut.set_ | apply keep_drewN | apply keep_drew | apply keep_alloc) | exact HK.out)) (KeepBut.of_below hb g none) (.inl rfl)); have n2_ := Aside0.mk (below_step (by repeat (first | (with_reducible first | exact HB.out | apply below_alloc | apply pw_below_drewN | apply below_drew1 | refine below_set ?_ (IsS102.ge HI0.out)) | exact HB.out)) hb); have n3_ := Aside0.mk (hbox); have n4_ := Aside0.mk ((by rw [hg]; exact (keep_size (w := w) (g := g) (row := none) (by repeat (first | (with_reducible first | exact HK.out | apply KeepBut.set_ | apply keep_drewN | apply keep_drew | apply keep_alloc) | exact HK.out))) : w.heap.size ≤ gb352)); have n5_ := Aside0.mk ((Nat.le_trans HW0.out (by rw [hg]; exact (keep_size (w := w) (g := g) (row := none) (by repeat (first | (with_reducible first | exact HK.out | apply KeepBut.set_ | apply keep_drewN | apply keep_drew | apply keep_alloc) | exact HK.out))) : w.heap.size ≤ gb352) : w0.heap.size ≤ gb352)); have n6_ := Aside0.mk ((by rw [hg]; exact Nat.ne_of_lt (IsS102.lt (show IsS102 w0 _ g s0_0 s0_1 from by repeat (first | (with_reducible first | exact HI0.out | apply IsS102.alloc | apply IsS102.drewN | apply IsS102.drew | apply IsS102.set_1) | exact HI0.out))) : g ≠ gb352)); have n7_ := Aside0.mk ((by rw [hg]; exact Nat.ne_of_gt (IsS102.lt (show IsS102 w0 _ g s0_0 s0_1 from by repeat (first | (with_reducible first | exact HI0.out | apply IsS102.alloc | apply IsS102.drewN | apply IsS102.drew | apply IsS102.set_1) | exact HI0.out))) : gb352 ≠ g)); clear HI0; clear HK; clear HB; have HI0 := n0_; have HK := n1_; have HB := n2_; have BK352 := n3_; have GW352 := n4_; have GE352 := n5_; have NB0_352 := n6_; have NB352_0 := n7_; clear n0_ n1_ n2_ n3_ n4_ n5_ n6_ n7_; clear hb hbox hg) | ((with_reducible refine gate_callee (f := 59) rfl ?_); refine goesL_ (some 7) rfl rfl Try.func59 (by kernel_rfl) rfl #[.pointer (some ⟨g, 0, none⟩), .int .i64 a1] rfl (by (try simp only [List.map_toArray, List.map_cons, List.map_nil]); first | done | rfl | (simp only [List.length_drop, List.length_take]; rfl)) ?_; (with_reducible refine (spec_l20Rd_odd.calls k g s0_0 s0_1 a1 false t354 w0 _ ?side1 ?side2 A3.out).mono ?_); (case side1 => repeat (first | (with_reducible first | exact HI0.out | apply IsS102.alloc | apply IsS102.drewN | apply IsS102.drew | apply IsS102.set_1 | refine IsS102.far ?_ NB0_352.out _) | exact HI0.out)); (case side2 => repeat (first | (with_reducible first | exact HB.out | apply below_alloc | apply pw_below_drewN | apply below_drew1 | refine below_set ?_ (IsS102.ge HI0.out) | refine below_set ?_ GE352.out) | exact HB.out)); rintro e w23 ⟨rfl, hi, hb, hk⟩; refine ⟨_, rfl, ?_⟩; have n0_ := Aside0.mk (KeepBut.blk hk (g' := gb352) (o := .cells #[.int .i64 0, .int .i64 0] 29 (0, 0)) (bk BK352) NB352_0.out (by simp)); have n1_ := Aside0.mk (KeepBut.trans (by repeat (first | (with_reducible first | exact HK.out | apply KeepBut.set_ | apply keep_drewN | apply keep_drew | apply keep_alloc | refine keep_far ?_ GW352.out _) | exact HK.out)) hk (.inl rfl)); have n2_ := Aside0.mk (hb); have n3_ := Aside0.mk (hi); clear BK352; clear HK; clear HB; clear HI0; have BK352 := n0_; have HK := n1_; have HB := n2_; have HI0 := n3_; clear n0_ n1_ n2_ n3_; (try clear hb); (try clear hb2); (try clear hk); (try clear hi)) | ((with_reducible refine gate_callee (f := 61) rfl ?_); refine goesL_ (some 20) rfl rfl Try.func61 (by kernel_rfl) rfl #[.pointer (some ⟨g, 0, none⟩)] rfl (by (try simp only [List.map_toArray, List.map_cons, List.map_nil]); first | done | rfl | (simp only [List.length_drop, List.length_take]; rfl)) ?_; (with_reducible refine (spec_l20In.calls k g s0_0 t354 t361 t362 t363 w0 _ ?side1 ?side2 A16.out).mono ?_); (case side1 => repeat (first | (with_reducible first | exact HI0.out | apply IsS102.alloc | apply IsS102.drewN | apply IsS102.drew | apply IsS102.set_1 | refine IsS102.far ?_ NB0_352.out _) | exact HI0.out)); (case side2 => repeat (first | (with_reducible first | exact HB.out | apply below_alloc | apply pw_below_drewN | apply below_drew1 | refine below_set ?_ (IsS102.ge HI0.out) | refine below_set ?_ GE352.out) | exact HB.out)); rintro e w24 ⟨rfl, hi, hb, hk⟩; refine ⟨_, rfl, ?_⟩; have n0_ := Aside0.mk (KeepBut.blk hk (g' := gb352) (o := .cells #[.int .i64 0, .int .i64 0] 29 (0, 0)) (bk BK352) NB352_0.out (by simp)); have n1_ := Aside0.mk (KeepBut.trans (by repeat (first | (with_reducible first | exact HK.out | apply KeepBut.set_ | apply keep_drewN | apply keep_drew | apply keep_alloc | refine keep_far ?_ GW352.out _) | exact HK.out)) hk (.inl rfl)); have n2_ := Aside0.mk (hb); have n3_ := Aside0.mk (hi); clear BK352; clear HK; clear HB; clear HI0; have BK352 := n0_; have HK := n1_; have HB := n2_; have HI0 := n3_; clear n0_ n1_ n2_ n3_; (try clear hb); (try clear hb2); (try clear hk); (try clear hi)) | ((with_reducible refine gate_callee (f := 62) rfl ?_); refine goesL_ (some 22) rfl rfl Try.func62 (by kernel_rfl) rfl #[.pointer (some ⟨g, 0, none⟩)] rfl (by (try simp only [List.map_toArray, List.map_cons, List.map_nil]); first | done | rfl | (simp only [List.length_drop, List.length_take]; rfl)) ?_; (with_reducible refine (spec_l20Out.calls k g s0_0 t363 t364 t365 t366 w0 _ ?side1 ?side2 A17.out).mono ?_); (case side1 => repeat (first | (with_reducible first | exact HI0.out | apply IsS102.alloc | apply IsS102.drewN | apply IsS102.drew | apply IsS102.set_1 | refine IsS102.far ?_ NB0_352.out _) | exact HI0.out)); (case side2 => repeat (first | (with_reducible first | exact HB.out | apply below_alloc | apply pw_below_drewN | apply below_drew1 | refine below_set ?_ (IsS102.ge HI0.out) | refine below_set ?_ GE352.out) | exact HB.out)); rintro e w25 ⟨rfl, hi, hb, hk⟩; refine ⟨_, rfl, ?_⟩; have n0_ := Aside0.mk (KeepBut.blk hk (g' := gb352) (o := .cells #[.int .i64 0, .int .i64 0] 29 (0, 0)) (bk BK352) NB352_0.out (by simp)); have n1_ := Aside0.mk (KeepBut.trans (by repeat (first | (with_reducible first | exact HK.out | apply KeepBut.set_ | apply keep_drewN | apply keep_drew | apply keep_alloc | refine keep_far ?_ GW352.out _) | exact HK.out)) hk (.inl rfl)); have n2_ := Aside0.mk (hb); have n3_ := Aside0.mk (hi); clear BK352; clear HK; clear HB; clear HI0; have BK352 := n0_; have HK := n1_; have HB := n2_; have HI0 := n3_; clear n0_ n1_ n2_ n3_; (try clear hb); (try clear hb2); (try clear hk); (try clear hi)) | ((with_reducible refine gate_callee (f := 58) rfl ?_); refine goesL_ (some 24) rfl rfl Try.func58 (by kernel_rfl) rfl #[.pointer (some ⟨g, 0, none⟩), .int .i64 7] rfl (by (try simp only [List.map_toArray, List.map_cons, List.map_nil]); first | done | rfl | (simp only [List.length_drop, List.length_take]; rfl)) ?_; (with_reducible refine (spec_l20Rd_pick.calls k g s0_0 t366 7 t367 t368 w0 _ ?side1 ?side2 A18.out).mono ?_); (case side1 => repeat (first | (with_reducible first | exact HI0.out | apply IsS102.alloc | apply IsS102.drewN | apply IsS102.drew | apply IsS102.set_1 | refine IsS102.far ?_ NB0_352.out _) | exact HI0.out)); (case side2 => repeat (first | (with_reducible first | exact HB.out | apply below_alloc | apply pw_below_drewN | apply below_drew1 | refine below_set ?_ (IsS102.ge HI0.out) | refine below_set ?_ GE352.out) | exact HB.out)); rintro e w26 ⟨rfl, hi, hb, hk⟩; refine ⟨_, rfl, ?_⟩; have n0_ := Aside0.mk (KeepBut.blk hk (g' := gb352) (o := .cells #[.int .i64 0, .int .i64 0] 29 (0, 0)) (bk BK352) NB352_0.out (by simp)); have n1_ := Aside0.mk (KeepBut.trans (by repeat (first | (with_reducible first | exact HK.out | apply KeepBut.set_ | apply keep_drewN | apply keep_drew | apply keep_alloc | refine keep_far ?_ GW352.out _) | exact HK.out)) hk (.inl rfl)); have n2_ := Aside0.mk (hb); have n3_ := Aside0.mk (hi); clear BK352; clear HK; clear HB; clear HI0; have BK352 := n0_; have HK := n1_; have HB := n2_; have HI0 := n3_; clear n0_ n1_ n2_ n3_; (try clear hb); (try clear hb2); (try clear hk); (try clear hi)) | ((with_reducible refine gate_dst (N := 27) rfl ?_); refine Kd.R_lit k29 _ 29 ?hg (N := 27) ?hd (xs := ([(⟨t361, t362⟩ : S29), (⟨t364, t365⟩ : S29), (⟨50, wrap64 (500 + t367)⟩ : S29)] : List (S29))) (inner := [.int .i64 t361, .int .i64 t362, .int .i64 t364, .int .i64 t365, .int .i64 50, .int .i64 (wrap64 (500 + t367))]) (ok := fun _ => True) (okp := fun _ => True) ?hr ?hp (fun _ hk => hk) trivial (Below.refl _ _) (Nat.le_refl _) (by simp) ?_; (case hd => rfl); (case hg => rfl); (case hr => first | (go_simp; done) | (go_simp; rfl)); (case hp => exact (Reps.c2 (show Kd.M k29 _ _ _ (⟨t361, t362⟩ : S29) [.int .i64 t361, .int .i64 t362] from (k29_mkM _ _ _ (⟨t361, t362⟩ : S29) )) (Reps.c2 (show Kd.M k29 _ _ _ (⟨t364, t365⟩ : S29) [.int .i64 t364, .int .i64 t365] from (k29_mkM _ _ _ (⟨t364, t365⟩ : S29) )) (Reps.c2 (show Kd.M k29 _ _ _ (⟨50, wrap64 (500 + t367)⟩ : S29) [.int .i64 50, .int .i64 (wrap64 (500 + t367))] from (k29_mkM _ _ _ (⟨50, wrap64 (500 + t367)⟩ : S29) )) (Reps.none _ _))))); intro v370 w27 ho28 hb hg_ hnew_; clear hg_ hnew_; (first | rw [← Ny369.out] at ho28 | (simp only [Int.reduceToNat] at ho28; rw [← Ny369.out] at ho28)); have n0_ := Aside0.mk (Kd.R_lower (Kd.R_newB ho28 (g := gb352) (o := .cells #[.int .i64 0, .int .i64 0] 29 (0, 0)) (bk BK352)) (keep_size (w := w) (g := g) (row := none) (by repeat (first | (with_reducible first | exact HK.out | apply KeepBut.set_ | apply keep_drewN | apply keep_drew | apply keep_alloc | refine keep_far ?_ GW352.out _) | exact HK.out)))); have n1_ := Aside0.mk (IsS102.below (by repeat (first | (with_reducible first | exact HI0.out | apply IsS102.alloc | apply IsS102.drewN | apply IsS102.drew | apply IsS102.set_1 | refine IsS102.far ?_ NB0_352.out _) | exact HI0.out)) hb); have n2_ := bkB BK352 hb; have n3_ := Aside0.mk (KeepBut.trans (by repeat (first | (with_reducible first | exact HK.out | apply KeepBut.set_ | apply keep_drewN | apply keep_drew | apply keep_alloc | refine keep_far ?_ GW352.out _) | exact HK.out)) (KeepBut.of_below hb g none) (.inl rfl)); have n4_ := Aside0.mk (below_step (by repeat (first | (with_reducible first | exact HB.out | apply below_alloc | apply pw_below_drewN | apply below_drew1 | refine below_set ?_ (IsS102.ge HI0.out) | refine below_set ?_ GE352.out) | exact HB.out)) hb); clear HI0; clear BK352; clear HK; clear HB; have HO371 := n0_; have HI0 := n1_; have BK352 := n2_; have HK := n3_; have HB := n4_; clear n0_ n1_ n2_ n3_ n4_; clear hb ho28) | ((with_reducible refine gate_callee (f := 58) rfl ?_); refine goesL_ (some 29) rfl rfl Try.func58 (by kernel_rfl) rfl #[.pointer (some ⟨g, 0, none⟩), .int .i64 3] rfl (by (try simp only [List.map_toArray, List.map_cons, List.map_nil]); first | done | rfl | (simp only [List.length_drop, List.length_take]; rfl)) ?_; (with_reducible refine (spec_l20Rd_pick.calls k g s0_0 t368 3 t372 t373 w0 _ ?side1 ?side2 A19.out).mono ?_); (case side1 => repeat (first | (with_reducible first | exact HI0.out | apply IsS102.alloc | apply IsS102.drewN | apply IsS102.drew | apply IsS102.set_1 | refine IsS102.far ?_ NB0_352.out _) | exact HI0.out)); (case side2 => repeat (first | (with_reducible first | exact HB.out | apply below_alloc | apply pw_below_drewN | apply below_drew1 | refine below_set ?_ (IsS102.ge HI0.out) | refine below_set ?_ GE352.out) | exact HB.out)); rintro e w29 ⟨rfl, hi, hb, hk⟩; refine ⟨_, rfl, ?_⟩; have n0_ := Aside0.mk (KeepBut.blk hk (g' := gb352) (o := .cells #[.int .i64 0, .int .i64 0] 29 (0, 0)) (bk BK352) NB352_0.out (by simp)); have n1_ := Aside0.mk (Kd.R_mono (Kd.R_keep (IsS102.apart (show IsS102 w0 _ g s0_0 t368 from by repeat (first | (with_reducible first | exact HI0.out | apply IsS102.alloc | apply IsS102.drewN | apply IsS102.drew | apply IsS102.set_1 | refine IsS102.far ?_ NB0_352.out _) | exact HI0.out)) (rs HO371) (by decide)) hk (fun _ h => h.2)) (fun _ h => h.1)); have n2_ := Aside0.mk (KeepBut.trans (by repeat (first | (with_reducible first | exact HK.out | apply KeepBut.set_ | apply keep_drewN | apply keep_drew | apply keep_alloc | refine keep_far ?_ GW352.out _) | exact HK.out)) hk (.inl rfl)); have n3_ := Aside0.mk (hb); have n4_ := Aside0.mk (hi); clear BK352; clear HO371; clear HK; clear HB; clear HI0; have BK352 := n0_; have HO371 := n1_; have HK := n2_; have HB := n3_; have HI0 := n4_; clear n0_ n1_ n2_ n3_ n4_; (try clear hb); (try clear hb2); (try clear hk); (try clear hi); obtain ⟨Ao30, co30, eo30⟩ := Kd.R_slice HO371.out; subst eo30; have p374 : 0 ≤ (t372 : Int) := of_decide_eq_true (by first | (with_reducible assumption) | assumption); have q374 : t372 < (y369.length : Int) := of_decide_eq_true (by first | (with_reducible assumption) | assumption); obtain ⟨ad374, e374, hx374_0, hx374_1⟩ := at_T29 (Kd.R_reads' HO371.out).2.2 t372 p374 q374; cases e374; replace p374 := eq_true p374; replace q374 := eq_true q374; have hnb31 := NB352_0.out; have hnc31 := NB0_352.out; have hcz32_0 : w29.cell? ⟨gb352, 0, none⟩ = some (.int .i64 0) := (blk_cell BK352.out 0).trans rfl; have hcz32_1 : w29.cell? ⟨gb352, 1, none⟩ = some (.int .i64 0) := (blk_cell BK352.out 1).trans rfl; have hfz32_0 := blk_frozen BK352.out 0; have hfz32_1 := blk_frozen BK352.out 1))
        refine bodyPost_ret (results_cell_row rfl _ _ gb352 29 #[.int .i64 ((rd_T29 y369 t372).f0), .int .i64 ((rd_T29 y369 t372).f1)] (0, 0) _ rfl (by (with_reducible repeat refine bu ?_); refine blk_put (cs := #[.int .i64 ((rd_T29 y369 t372).f0), .int .i64 0]) ?_ 1 _ rfl; (with_reducible repeat refine bu ?_); refine blk_put (cs := #[.int .i64 0, .int .i64 0]) ?_ 0 _ rfl; (with_reducible repeat refine bu ?_); exact BK352.out) Try.underlying29 rfl (by kernel_rfl)) rfl ?_
        exact ⟨by first | rfl | (simp [errW_none, errW_some] <;> rfl) | (simp [*, errW_none, errW_some] <;> rfl), by repeat (first | (with_reducible first | exact HI0.out | apply IsS102.alloc | apply IsS102.drewN | apply IsS102.drew | apply IsS102.set_1 | refine IsS102.far ?_ NB0_352.out _) | exact HI0.out), by repeat (first | (with_reducible first | exact HB.out | apply below_alloc | apply pw_below_drewN | apply below_drew1 | refine below_set ?_ (IsS102.ge HI0.out) | refine below_set ?_ GE352.out) | exact HB.out), by repeat (first | (with_reducible first | exact HK.out | apply KeepBut.set_ | apply keep_drewN | apply keep_drew | apply keep_alloc | refine keep_far ?_ GW352.out _) | exact HK.out)⟩
      · rw [if_neg c21] at H
        exact absurd H (by simp)
    · rw [if_neg c20] at H
      exact absurd H (by simp)

end Go.Proofs.Ytiocgkggegahhaa.P

/- What the drawing functions answer: always something, its ends small. -/
namespace Go.Proofs.Ytiocgkggegahhaa.P
open Go.RowKit Go.Proofs.YtiocgkggegahhaaUFnExactRulMay.PrintWords Go.Proofs.YtiocgkggegahhaaUFnExactRulMay.PrintLast Go.Proofs.YtiocgkggegahhaaUFnExactRulMay.PrintMore
set_option linter.unusedVariables false
set_option linter.unusedSimpArgs false
theorem in_a {l : List Int} (hl : Bys l) {s B : Int} (hs : At B s) (hB : B < 800000) : Ans (fun k => spec_l20In.f k l s) (fun r => At (B + 3) r.2.2 ∧ Sm r.1 ∧ Sm r.2.1) := by
  unfold spec_l20In.f
  refine Ans.bind (pick_a hl hs (by omega) 4) ?_
  rintro ⟨v1, s1⟩ ⟨h1, p1⟩
  refine Ans.bind (pick_a hl h1 (by omega) 40) ?_
  rintro ⟨v2, s2⟩ ⟨h2, p2⟩
  dsimp only at *
  simp only [Option.bind_some]
  refine Ans.bind (pick_a hl h2 (by omega) 5) ?_
  rintro ⟨v3, s3⟩ ⟨h3, p3⟩
  dsimp only at *
  refine Ans.pos p3.1 (Ans.pos (by simp; omega) (Ans.pure ⟨at_le h3 (by omega), ?_, sm_rd ?_ _⟩))
  · rw [w64 _ (by omega)]; unfold Sm; omega
  · intro x hx
    have e : wrap64 (1 + v2) = 1 + v2 := w64 _ (by omega)
    rw [e] at hx
    simp at hx
    unfold Sm
    omega
theorem out_a {l : List Int} (hl : Bys l) {s B : Int} (hs : At B s) (hB : B < 800000) : Ans (fun k => spec_l20Out.f k l s) (fun r => At (B + 2) r.2.2 ∧ Sm r.1 ∧ Sm r.2.1) := by
  unfold spec_l20Out.f
  refine Ans.bind (pick_a hl hs (by omega) 3) ?_
  rintro ⟨v1, s1⟩ ⟨h1, p1⟩
  simp only [Option.bind_some]
  dsimp only at *
  refine Ans.bind (pick_a hl h1 (by omega) 4) ?_
  rintro ⟨v3, s3⟩ ⟨h3, p3⟩
  dsimp only at *
  refine Ans.pos p3.1 (Ans.pos (by simp; omega) (Ans.pure ⟨at_le h3 (by omega), ?_, sm_rd ?_ _⟩))
  · rw [w64 _ (by omega)]; unfold Sm; omega
  · intro x hx
    simp at hx
    unfold Sm
    omega
theorem sm_rd29 {xs : List S29} (h : ∀ x ∈ xs, Sm x.f0 ∧ Sm x.f1) (i : Int) : Sm (rd_T29 xs i).f0 ∧ Sm (rd_T29 xs i).f1 := by
  unfold rd_T29
  by_cases hi : i.toNat < xs.length
  · have e : xs.getD i.toNat z29 = xs[i.toNat] := by simp [List.getD, hi]
    rw [e]; exact h _ (List.getElem_mem hi)
  · have e : xs.getD i.toNat z29 = z29 := by simp [List.getD, Nat.not_lt.mp hi]
    rw [e]; unfold Sm z29; exact ⟨by decide, by decide⟩
theorem end_a {l : List Int} (hl : Bys l) {s B : Int} (hs : At B s) (hB : B < 700000) (n : Int) : Ans (fun k => spec_l20End.f k l s n) (fun r => At (B + 8) r.2.2 ∧ Sm r.1 ∧ Sm r.2.1) := by
  unfold spec_l20End.f
  refine Ans.bind (odd_a hl hs (by omega) n) ?_
  rintro ⟨b, s1⟩ h1
  dsimp only at *
  refine Ans.ite (fun _ => ?_) (fun _ => ?_)
  · simp only [Option.bind_some]
    refine Ans.bind (pick_a hl h1 (by omega) 6) ?_
    rintro ⟨v3, s3⟩ ⟨h3, p3⟩
    dsimp only at *
    refine Ans.pos p3.1 (Ans.pos (by simp; omega) (Ans.pure ⟨at_le h3 (by omega), sm_rd29 ?_ _⟩))
    intro x hx
    simp at hx
    unfold Sm
    rcases hx with rfl | rfl | rfl | rfl | rfl | rfl <;> exact ⟨by decide, by decide⟩
  · refine Ans.bind (in_a hl h1 (by omega)) ?_
    rintro ⟨a1, a2, s2⟩ ⟨h2, m1, m2⟩
    dsimp only at *
    refine Ans.bind (out_a hl h2 (by omega)) ?_
    rintro ⟨b1, b2, s3⟩ ⟨h3, m3, m4⟩
    dsimp only at *
    refine Ans.bind (pick_a hl h3 (by omega) 7) ?_
    rintro ⟨v4, s4⟩ ⟨h4, p4⟩
    simp only [Option.bind_some]
    dsimp only at *
    refine Ans.bind (pick_a hl h4 (by omega) 3) ?_
    rintro ⟨v5, s5⟩ ⟨h5, p5⟩
    dsimp only at *
    refine Ans.pos p5.1 (Ans.pos (by simp; omega) (Ans.pure ⟨at_le h5 (by omega), sm_rd29 ?_ _⟩))
    intro x hx
    have e : wrap64 (500 + v4) = 500 + v4 := w64 _ (by omega)
    rw [e] at hx
    simp at hx
    rcases hx with rfl | rfl | rfl
    · exact ⟨m1, m2⟩
    · exact ⟨m3, m4⟩
    · unfold Sm; exact ⟨by first | omega | (dsimp only; omega), by first | omega | (dsimp only; omega)⟩
end Go.Proofs.Ytiocgkggegahhaa.P
