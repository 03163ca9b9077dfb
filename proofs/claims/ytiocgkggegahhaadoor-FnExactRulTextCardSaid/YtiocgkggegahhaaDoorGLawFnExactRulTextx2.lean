import Derived.Test.YtiocgkggegahhaaDoorGLawFnExactRulTextx1
-- written by hw.py for this claim
namespace Go.Proofs.YtiocgkggegahhaaDoor.P
open Go.RowKit Go.Proofs.YtiocgkggegahhaaDoorUFnExactRulText.PrintWords Go.Proofs.YtiocgkggegahhaaDoorUFnExactRulText.PrintLast Go.Proofs.YtiocgkggegahhaaDoorUFnExactRulText.PrintMore
attribute [local go_sem] max2_int min2_int max_two min_two max_three min_three max_four min_four
set_option linter.unusedVariables false
set_option linter.unusedSimpArgs false

/-! ### spec_RulRead: function 9 -/
mutual
def spec_RulRead.j0 : Nat → List ByteArray → Bool → Option (Bool × Int × Int × Int × Int × Int × Int × Bool)
  | 0, _, _ => none
  | k + 1, x4, x24 => if x24 = true then (some (false, 0, 0, 0, 0, 0, 0, false)) else (spec_RulRead.l0 k x4 (([] : List Int)) 1)
def spec_RulRead.l0 : Nat → List ByteArray → List Int → Int → Option (Bool × Int × Int × Int × Int × Int × Int × Bool)
  | 0, _, _, _ => none
  | k + 1, x4, x5, x6 => if x6 < 7 then (if 0 ≤ x6 then (if x6 < (x4.length : Int) then ((spec_l1Num.f k (rdOf ByteArray.empty x4 x6)).bind fun t187 => (if x5.length < 17592186044416 then (spec_RulRead.l0 k x4 (x5 ++ [t187]) (wrap64 (x6 + 1))) else (none))) else (none)) else (none)) else (if 0 < (x4.length : Int) then (if 0 < (x5.length : Int) then (if 1 < (x5.length : Int) then (if 2 < (x5.length : Int) then (if 3 < (x5.length : Int) then (if 4 < (x5.length : Int) then (if 5 < (x5.length : Int) then ((spec_RulOk.f ((rdOf ByteArray.empty x4 0).toList == ([97, 108, 108, 111, 119] : List UInt8)) (rd x5 0) (rd x5 1) (rd x5 2) (rd x5 3) (rd x5 4) (rd x5 5)).bind fun t199 => (if t199 = true then (some (((rdOf ByteArray.empty x4 0).toList == ([97, 108, 108, 111, 119] : List UInt8)), rd x5 0, rd x5 1, rd x5 2, rd x5 3, rd x5 4, rd x5 5, true)) else (some (false, 0, 0, 0, 0, 0, 0, false)))) else (none)) else (none)) else (none)) else (none)) else (none)) else (none)) else (none))
end
def spec_RulRead.f (k : Nat) (a0 : ByteArray) : Option (Bool × Int × Int × Int × Int × Int × Int × Bool) := (spec_l1Words.f k a0).bind fun t178 => (if (t178.length : Int) = 7 then (if 0 < (t178.length : Int) then (if (rdOf ByteArray.empty t178 0).toList = ([97, 108, 108, 111, 119] : List UInt8) then (spec_RulRead.j0 k t178 false) else (spec_RulRead.j0 k t178 ((rdOf ByteArray.empty t178 0).toList != ([100, 101, 110, 121] : List UInt8)))) else (none)) else (spec_RulRead.j0 k t178 true))
theorem spec_RulRead.mono_l : ∀ k, (∀ y0 y1, LeO (spec_RulRead.j0 k y0 y1) (spec_RulRead.j0 (k + 1) y0 y1)) ∧ (∀ y0 y1 y2, LeO (spec_RulRead.l0 k y0 y1 y2) (spec_RulRead.l0 (k + 1) y0 y1 y2))
  | 0 => ⟨fun _ _ r h => by simp [spec_RulRead.j0] at h, fun _ _ _ r h => by simp [spec_RulRead.l0] at h⟩
  | k + 1 => by
    obtain ⟨ih0, ih1⟩ := spec_RulRead.mono_l k
    refine ⟨?_, ?_⟩
    · intro y0 y1
      unfold spec_RulRead.j0
      repeat' first
      | (with_reducible exact ih0 _ _)
      | (with_reducible exact ih1 _ _ _)
      | (with_reducible exact spec_l1Num.mono _ _)
      | (with_reducible exact spec_l1Words.mono _ _)
      | (with_reducible exact LeO.refl _)
      | (with_reducible exact LeO.none _)
      | (with_reducible refine LeO.ite ?_ ?_)
      | (with_reducible refine LeO.bind ?_ (fun _ => ?_))
      | exact ih0 _ _
      | exact ih1 _ _ _
      | exact spec_l1Num.mono _ _
      | exact spec_l1Words.mono _ _
      | exact LeO.none _
      | refine LeO.ite ?_ ?_
      | refine LeO.bind ?_ (fun _ => ?_)
    · intro y0 y1 y2
      unfold spec_RulRead.l0
      repeat' first
      | (with_reducible exact ih0 _ _)
      | (with_reducible exact ih1 _ _ _)
      | (with_reducible exact spec_l1Num.mono _ _)
      | (with_reducible exact spec_l1Words.mono _ _)
      | (with_reducible exact LeO.refl _)
      | (with_reducible exact LeO.none _)
      | (with_reducible refine LeO.ite ?_ ?_)
      | (with_reducible refine LeO.bind ?_ (fun _ => ?_))
      | exact ih0 _ _
      | exact ih1 _ _ _
      | exact spec_l1Num.mono _ _
      | exact spec_l1Words.mono _ _
      | exact LeO.none _
      | refine LeO.ite ?_ ?_
      | refine LeO.bind ?_ (fun _ => ?_)
theorem spec_RulRead.mono : ∀ a0 k, LeO (spec_RulRead.f k a0) (spec_RulRead.f (k + 1) a0) := by
  intro a0 k
  obtain ⟨ih0, ih1⟩ := spec_RulRead.mono_l k
  unfold spec_RulRead.f
  repeat' first
      | (with_reducible exact ih0 _ _)
      | (with_reducible exact ih1 _ _ _)
      | (with_reducible exact spec_l1Num.mono _ _)
      | (with_reducible exact spec_l1Words.mono _ _)
      | (with_reducible exact LeO.refl _)
      | (with_reducible exact LeO.none _)
      | (with_reducible refine LeO.ite ?_ ?_)
      | (with_reducible refine LeO.bind ?_ (fun _ => ?_))
      | exact ih0 _ _
      | exact ih1 _ _ _
      | exact spec_l1Num.mono _ _
      | exact spec_l1Words.mono _ _
      | exact LeO.none _
      | refine LeO.ite ?_ ?_
      | refine LeO.bind ?_ (fun _ => ?_)
def spec_RulRead.T9 : Bool × List (List Nat × List Nat) := (true, [([], []), ([0], [0]), ([1], [1]), ([2], [2]), ([], []), ([4], [4]), ([5], [5]), ([], []), ([7], [7]), ([8], [8]), ([], []), ([10], [10]), ([11], [11]), ([], []), ([13], [13]), ([14], [14]), ([], []), ([16], [16]), ([17], [17]), ([], []), ([19], [19]), ([20], [20]), ([3, 6, 9, 12, 15, 18, 21], [3, 6, 9, 12, 15, 18, 21]), ([], []), ([23, 22, 0, 1, 2, 3, 4, 5, 6, 7, 8, 9, 10, 11, 12, 13, 14, 15, 16, 17, 18, 19, 20, 21, 22, 23], [22, 23])])
def spec_RulRead.B9 : List Nat := [0, 1, 3, 7, 0, 16, 48, 0, 128, 384, 0, 1024, 3072, 0, 8192, 24576, 0, 65536, 196608, 0, 524288, 1572864, 4194303, 0, 16777215]
theorem spec_RulRead.tab9 : rtab .any (opsOf Tryd.f9 9) = spec_RulRead.T9 := by kernel_rfl
theorem spec_RulRead.bits9 : waitsOk spec_RulRead.T9.2 spec_RulRead.B9 = true := by kernel_rfl
set_option maxHeartbeats 8000000 in
set_option maxRecDepth 100000 in
theorem spec_RulRead.calls (k : Nat) (a0 : ByteArray) (r1 : Bool) (r2 : Int) (r3 : Int) (r4 : Int) (r5 : Int) (r6 : Int) (r7 : Int) (r8 : Bool) (w : World) (h : spec_RulRead.f k a0 = some (r1, r2, r3, r4, r5, r6, r7, r8)) :
    Calls Tryd.prog 9 #[.string a0] w fun e w' => e = .returned (.tuple #[.agg #[.bool r1, .int .i64 r2, .int .i64 r3, .int .i64 r4, .int .i64 r5, .int .i64 r6, .int .i64 r7], .bool r8]) ∧ Below w.heap.size w w' := by
  have hu25 := Tryd.underlying25
  have HB := Aside0.mk (Below.refl w.heap.size w)
  have H : ((spec_l1Words.f k a0).bind fun t178 => (if (t178.length : Int) = 7 then (if 0 < (t178.length : Int) then (if (rdOf ByteArray.empty t178 0).toList = ([97, 108, 108, 111, 119] : List UInt8) then (spec_RulRead.j0 k t178 false) else (spec_RulRead.j0 k t178 ((rdOf ByteArray.empty t178 0).toList != ([100, 101, 110, 121] : List UInt8)))) else (none)) else (spec_RulRead.j0 k t178 true))) = some (r1, r2, r3, r4, r5, r6, r7, r8) := h
  clear h
  replace H := Option.bind_eq_some_iff.mp H
  obtain ⟨t178, A20, H⟩ := H
  replace H : (if (t178.length : Int) = 7 then (if 0 < (t178.length : Int) then (if (rdOf ByteArray.empty t178 0).toList = ([97, 108, 108, 111, 119] : List UInt8) then (spec_RulRead.j0 k t178 false) else (spec_RulRead.j0 k t178 ((rdOf ByteArray.empty t178 0).toList != ([100, 101, 110, 121] : List UInt8)))) else (none)) else (spec_RulRead.j0 k t178 true)) = some (r1, r2, r3, r4, r5, r6, r7, r8) := H
  have A2 := Aside0.mk A20
  clear A20
  have HC3 := Aside0.mk H
  clear H
  go_enter Tryd.func9, Tryd.ntmps9
  go_upto_region 2 with (first | ((with_reducible refine gate_dst (N := 2) rfl ?_); refine box_event ?hg (N := 2) ?hd (cs := #[.bool false, .int .i64 0, .int .i64 0, .int .i64 0, .int .i64 0, .int .i64 0, .int .i64 0]) (t := 25) ?hr ?_; (case hd => rfl); (case hg => rfl); (case hr => first | (go_simp; done) | (go_simp; rfl)); intro gb177 hg w4 hbox hb; have n0_ := Aside0.mk (below_step (bl HB) hb); have n1_ := Aside0.mk (hbox); have n2_ := Aside0.mk ((by rw [hg]; exact (below_size (bl HB)) : w.heap.size ≤ gb177)); have n3_ := Aside0.mk ((by rw [hg]; exact (below_size (bl HB)) : w.heap.size ≤ gb177)); clear HB; have HB := n0_; have BK177 := n1_; have GW177 := n2_; have GE177 := n3_; clear n0_ n1_ n2_ n3_; clear hb hbox hg) | ((with_reducible refine gate_callee (f := 20) rfl ?_); refine goesL_ (some 9) rfl rfl Tryd.func20 (by kernel_rfl) rfl #[.string a0] rfl (by (try simp only [List.map_toArray, List.map_cons, List.map_nil]); first | done | rfl | (simp only [List.length_drop, List.length_take]; rfl)) ?_; (with_reducible refine (spec_l1Words.calls k a0 t178 _ A2.out).mono ?_); rintro e w5 ⟨v179, rfl, ho0, hb⟩; refine ⟨_, rfl, ?_⟩; have n0_ := Aside0.mk (Kd.R_lower ho0 (below_size (bl HB))); have n1_ := bkB BK177 hb; have n2_ := Aside0.mk (below_step (bl HB) hb); clear BK177; clear HB; have HO180 := n0_; have BK177 := n1_; have HB := n2_; clear n0_ n1_ n2_; (try clear hb); (try clear hb2); (try clear hk); (try clear hi); (try clear ho0)))
  (try simp only [Act.put, List.setIfInBounds_toArray, List.set_cons_zero, List.set_cons_succ])
  go_cut [24] (fun v24 wc => ∃ (kq : Nat) (x24_2 : Bool), v24 = .bool x24_2 ∧ Aside0 (spec_RulRead.j0 kq t178 x24_2 = some (r1, r2, r3, r4, r5, r6, r7, r8)) ∧ Aside0 (kq ≤ k) ∧ Aside0 (Kd.R Kd.string 9 wc w.heap.size (fun _ => True) v179 t178) ∧ Aside0 (wc.heap[gb177]? = some (.cells #[.bool false, .int .i64 0, .int .i64 0, .int .i64 0, .int .i64 0, .int .i64 0, .int .i64 0] 25 (0, 0))) ∧ Aside0 (Below w.heap.size w wc))
  case first =>
    have H := HC3.out
    clear HC3
    by_cases c6 : (t178.length : Int) = 7
    · rw [if_pos c6] at H
      have c6b0 : ((t178.length : Int) == 7) = true := beq_iff_eq.mpr c6
      have c6b1 : ((t178.length : Int) != 7) = false := bne_eq_false_iff_eq.mpr c6
      clear c6
      (first | rw [c6b0] | (simp only [i64_w, i32_w]; rw [c6b0]) | skip)
      by_cases c7 : 0 < (t178.length : Int)
      · rw [if_pos c7] at H
        have c7b0 : decide (0 < (t178.length : Int)) = true := decide_eq_true c7
        have c7b1 : decide (0 < t178.length) = true := decide_eq_true (by omega)
        clear c7
        by_cases c8 : (rdOf ByteArray.empty t178 0).toList = ([97, 108, 108, 111, 119] : List UInt8)
        · rw [if_pos c8] at H
          have c8b0 : ((rdOf ByteArray.empty t178 0).toList == ([97, 108, 108, 111, 119] : List UInt8)) = true := beq_iff_eq.mpr c8
          have c8b1 : ((rdOf ByteArray.empty t178 0).toList != ([97, 108, 108, 111, 119] : List UInt8)) = false := bne_eq_false_iff_eq.mpr c8
          clear c8
          have H' := Aside0.mk H
          clear H
          obtain ⟨Ao9, co9, eo9⟩ := Kd.R_slice HO180.out
          subst eo9
          have p181 : 0 ≤ (0 : Int) := (by omega)
          have q181 : 0 < (t178.length : Int) := of_decide_eq_true (by first | (with_reducible assumption) | assumption)
          obtain ⟨ad181, e181, hx181_0⟩ := Kd.at_string (Kd.R_reads' HO180.out).2.2 0 p181 q181
          cases e181
          have qi181 : (0 < t178.length) = True := eq_true (by omega)
          (try rw [show ((0 : Int)).toNat = 0 from rfl] at hx181_0)
          (try rw [Addr.add_zero'] at hx181_0)
          replace p181 := eq_true p181
          replace q181 := eq_true q181
          go_wp2
          go_meet
          case rel => exact ⟨_, (false), (by first | rfl | (simp; done) | (simp [*]; done)), H', ⟨by first | omega | exact Nat.le_refl _⟩, ⟨by (with_reducible repeat apply ru); exact HO180.out⟩, ⟨by (with_reducible repeat refine bu ?_); exact BK177.out⟩, ⟨by repeat (first | (with_reducible first | exact HB.out | apply below_alloc | apply pw_below_drewN | apply below_drew1 | refine below_set ?_ GE177.out) | exact HB.out)⟩⟩
        · rw [if_neg c8] at H
          have c8b0 : ((rdOf ByteArray.empty t178 0).toList == ([97, 108, 108, 111, 119] : List UInt8)) = false := beq_eq_false_iff_ne.mpr c8
          have c8b1 : ((rdOf ByteArray.empty t178 0).toList != ([97, 108, 108, 111, 119] : List UInt8)) = true := bne_iff_ne.mpr c8
          have H' := Aside0.mk H
          clear H
          obtain ⟨Ao10, co10, eo10⟩ := Kd.R_slice HO180.out
          subst eo10
          have p181 : 0 ≤ (0 : Int) := (by omega)
          have q181 : 0 < (t178.length : Int) := of_decide_eq_true (by first | (with_reducible assumption) | assumption)
          obtain ⟨ad181, e181, hx181_0⟩ := Kd.at_string (Kd.R_reads' HO180.out).2.2 0 p181 q181
          cases e181
          have qi181 : (0 < t178.length) = True := eq_true (by omega)
          (try rw [show ((0 : Int)).toNat = 0 from rfl] at hx181_0)
          (try rw [Addr.add_zero'] at hx181_0)
          replace p181 := eq_true p181
          replace q181 := eq_true q181
          have p182 : 0 ≤ (0 : Int) := (by omega)
          have q182 : 0 < (t178.length : Int) := of_decide_eq_true (by first | (with_reducible assumption) | assumption)
          obtain ⟨ad182, e182, hx182_0⟩ := Kd.at_string (Kd.R_reads' HO180.out).2.2 0 p182 q182
          obtain rfl : ad181 = ad182 := (by injection e182)
          have qi182 : (0 < t178.length) = True := eq_true (by omega)
          (try rw [show ((0 : Int)).toNat = 0 from rfl] at hx182_0)
          (try rw [Addr.add_zero'] at hx182_0)
          replace p182 := eq_true p182
          replace q182 := eq_true q182
          go_wp2
          go_meet
          case rel => exact ⟨_, (((rdOf ByteArray.empty t178 0).toList != ([100, 101, 110, 121] : List UInt8))), (by first | rfl | (simp; done) | (simp [*]; done)), H', ⟨by first | omega | exact Nat.le_refl _⟩, ⟨by (with_reducible repeat apply ru); exact HO180.out⟩, ⟨by (with_reducible repeat refine bu ?_); exact BK177.out⟩, ⟨by repeat (first | (with_reducible first | exact HB.out | apply below_alloc | apply pw_below_drewN | apply below_drew1 | refine below_set ?_ GE177.out) | exact HB.out)⟩⟩
      · rw [if_neg c7] at H
        exact absurd H (by simp)
    · rw [if_neg c6] at H
      have c6b0 : ((t178.length : Int) == 7) = false := beq_eq_false_iff_ne.mpr c6
      have c6b1 : ((t178.length : Int) != 7) = true := bne_iff_ne.mpr c6
      (first | rw [c6b0] | (simp only [i64_w, i32_w]; rw [c6b0]) | skip)
      have H' := Aside0.mk H
      clear H
      obtain ⟨Ao11, co11, eo11⟩ := Kd.R_slice HO180.out
      subst eo11
      go_wp2
      go_meet
      case rel => exact ⟨_, (true), (by first | rfl | (simp; done) | (simp [*]; done)), H', ⟨by first | omega | exact Nat.le_refl _⟩, ⟨by (with_reducible repeat apply ru); exact HO180.out⟩, ⟨by (with_reducible repeat refine bu ?_); exact BK177.out⟩, ⟨by repeat (first | (with_reducible first | exact HB.out | apply below_alloc | apply pw_below_drewN | apply below_drew1 | refine below_set ?_ GE177.out) | exact HB.out)⟩⟩
  case rest =>
    clear HC3
    try clear p1
    try clear q1
    try clear hx1
    try clear qi1
    try clear c2
    try clear p2
    try clear c6
    try clear c6b0
    try clear c6b1
    try clear c7
    try clear c7b0
    try clear c7b1
    try clear c8
    try clear c8b0
    try clear c8b1
    try clear c9
    try clear hx181_0
    try clear hx182_0
    try clear p181
    try clear p182
    try clear q181
    try clear q182
    obtain ⟨kq, x24_2, rfl, HA, HJ2, HO_4, BK177, HB⟩ := hcut
    cases kq with
    | zero => exact absurd HA.out (by simp [spec_RulRead.j0])
    | succ kj2 =>
      have H := HA.out
      clear HA
      simp only [spec_RulRead.j0] at H
      by_cases c12 : x24_2 = true
      · subst c12
        have H1 : (some (false, 0, 0, 0, 0, 0, 0, false)) = some (r1, r2, r3, r4, r5, r6, r7, r8) := by rw [if_pos rfl] at H; exact H
        clear H
        have H := H1
        clear H1
        simp only [Option.some.injEq, Prod.mk.injEq] at H
        obtain ⟨rfl, rfl, rfl, rfl, rfl, rfl, rfl, rfl⟩ := H
        have hcz13_0 : wc.cell? ⟨gb177, 0, none⟩ = some (.bool false) := (blk_cell BK177.out 0).trans rfl
        have hcz13_1 : wc.cell? ⟨gb177, 1, none⟩ = some (.int .i64 0) := (blk_cell BK177.out 1).trans rfl
        have hcz13_2 : wc.cell? ⟨gb177, 2, none⟩ = some (.int .i64 0) := (blk_cell BK177.out 2).trans rfl
        have hcz13_3 : wc.cell? ⟨gb177, 3, none⟩ = some (.int .i64 0) := (blk_cell BK177.out 3).trans rfl
        have hcz13_4 : wc.cell? ⟨gb177, 4, none⟩ = some (.int .i64 0) := (blk_cell BK177.out 4).trans rfl
        have hcz13_5 : wc.cell? ⟨gb177, 5, none⟩ = some (.int .i64 0) := (blk_cell BK177.out 5).trans rfl
        have hcz13_6 : wc.cell? ⟨gb177, 6, none⟩ = some (.int .i64 0) := (blk_cell BK177.out 6).trans rfl
        have hfz13_0 := blk_frozen BK177.out 0
        have hfz13_1 := blk_frozen BK177.out 1
        have hfz13_2 := blk_frozen BK177.out 2
        have hfz13_3 := blk_frozen BK177.out 3
        have hfz13_4 := blk_frozen BK177.out 4
        have hfz13_5 := blk_frozen BK177.out 5
        have hfz13_6 := blk_frozen BK177.out 6
        go_wp2
        refine bodyPost_ret (results_ct rfl _ _ gb177 25 #[.bool false, .int .i64 0, .int .i64 0, .int .i64 0, .int .i64 0, .int .i64 0, .int .i64 0] (0, 0) _ rfl (by (with_reducible repeat refine bu ?_); refine blk_put (cs := #[.bool false, .int .i64 0, .int .i64 0, .int .i64 0, .int .i64 0, .int .i64 0, .int .i64 0]) ?_ 6 _ rfl; (with_reducible repeat refine bu ?_); refine blk_put (cs := #[.bool false, .int .i64 0, .int .i64 0, .int .i64 0, .int .i64 0, .int .i64 0, .int .i64 0]) ?_ 5 _ rfl; (with_reducible repeat refine bu ?_); refine blk_put (cs := #[.bool false, .int .i64 0, .int .i64 0, .int .i64 0, .int .i64 0, .int .i64 0, .int .i64 0]) ?_ 4 _ rfl; (with_reducible repeat refine bu ?_); refine blk_put (cs := #[.bool false, .int .i64 0, .int .i64 0, .int .i64 0, .int .i64 0, .int .i64 0, .int .i64 0]) ?_ 3 _ rfl; (with_reducible repeat refine bu ?_); refine blk_put (cs := #[.bool false, .int .i64 0, .int .i64 0, .int .i64 0, .int .i64 0, .int .i64 0, .int .i64 0]) ?_ 2 _ rfl; (with_reducible repeat refine bu ?_); refine blk_put (cs := #[.bool false, .int .i64 0, .int .i64 0, .int .i64 0, .int .i64 0, .int .i64 0, .int .i64 0]) ?_ 1 _ rfl; (with_reducible repeat refine bu ?_); refine blk_put (cs := #[.bool false, .int .i64 0, .int .i64 0, .int .i64 0, .int .i64 0, .int .i64 0, .int .i64 0]) ?_ 0 _ rfl; (with_reducible repeat refine bu ?_); exact BK177.out) Tryd.underlying25 rfl (by kernel_rfl)) rfl ?_
        exact ⟨by first | rfl | (simp [errW_none, errW_some] <;> rfl) | (simp [*, errW_none, errW_some] <;> rfl), by repeat (first | (with_reducible first | exact HB.out | apply below_alloc | apply pw_below_drewN | apply below_drew1 | refine below_set ?_ GE177.out) | exact HB.out)⟩
      · replace c12 := Bool.eq_false_iff.mpr c12
        subst c12
        have H1 : (spec_RulRead.l0 kj2 t178 (([] : List Int)) 1) = some (r1, r2, r3, r4, r5, r6, r7, r8) := by rw [if_neg (show ¬ (false = true) by decide)] at H; exact H
        clear H
        have H := H1
        clear H1
        obtain ⟨y183, hy183⟩ : ∃ y_ : List Int, y_ = (([] : List Int)) := ⟨_, rfl⟩
        replace H : (spec_RulRead.l0 kj2 t178 y183 1) = some (r1, r2, r3, r4, r5, r6, r7, r8) := by first | (rw [hy183]; with_reducible exact H) | (have H2_ := (Option.bind_some _ _).symm.trans H; rw [hy183]; with_reducible exact H2_) | (have H2_ := (Option.bind_some _ _).symm.trans H; with_reducible exact H2_) | with_reducible exact H | (rw [hy183]; exact H) | exact H
        have Ny183 := Aside0.mk hy183
        clear hy183
        have H' := Aside0.mk H
        clear H
        go_wp2_with (first | ((with_reducible refine gate_dst (N := 26) rfl ?_); refine Kd.R_lit (Kd.int .i64) _ 3 ?hg (N := 26) ?hd (xs := ([] : List Int)) (inner := []) (ok := fun _ => True) (okp := fun _ => True) ?hr ?hp (fun _ hk => hk) trivial (Below.refl _ _) (Nat.le_refl _) (by simp) ?_; (case hd => rfl); (case hg => rfl); (case hr => first | (go_simp; done) | (go_simp; rfl)); (case hp => exact (Reps.none _ _)); intro v184 w14 ho15 hb hg_ hnew_; clear hg_ hnew_; (first | rw [← Ny183.out] at ho15 | (simp only [Int.reduceToNat] at ho15; rw [← Ny183.out] at ho15)); have n0_ := Aside0.mk (Kd.R_below (rs HO_4) hb); have n1_ := Aside0.mk (Kd.R_lower ho15 (below_size (bl HB))); have n2_ := bkB BK177 hb; have n3_ := Aside0.mk (below_step (bl HB) hb); clear HO_4; clear BK177; clear HB; have HO_4 := n0_; have HO185 := n1_; have BK177 := n2_; have HB := n3_; clear n0_ n1_ n2_ n3_; clear hb ho15))
        go_loopg [5, 6] kj2 (fun kq v5 v6 w' => ∃ (x5_2 : List Int) (x6_2 : Int), v6 = .int .i64 x6_2 ∧ Aside0 (spec_RulRead.l0 kq t178 x5_2 x6_2 = some (r1, r2, r3, r4, r5, r6, r7, r8)) ∧ Aside0 (kq ≤ kj2) ∧ Aside0 (Kd.R Kd.string 9 w' w.heap.size (fun _ => True) v179 t178) ∧ Aside0 (Kd.R (Kd.int .i64) 3 w' w.heap.size (fun _ => True) v5 x5_2) ∧ Aside0 (w'.heap[gb177]? = some (.cells #[.bool false, .int .i64 0, .int .i64 0, .int .i64 0, .int .i64 0, .int .i64 0, .int .i64 0] 25 (0, 0))) ∧ Aside0 (Below w.heap.size w w'))
        case atStart => exact ⟨(y183), (1), (by first | rfl | (simp; done) | (simp [*]; done)), H', ⟨Nat.le_refl _⟩, ⟨by (with_reducible repeat apply ru); exact HO_4.out⟩, ⟨by (with_reducible repeat apply ru); exact HO185.out⟩, ⟨by (with_reducible repeat refine bu ?_); exact BK177.out⟩, ⟨by repeat (first | (with_reducible first | exact HB.out | apply below_alloc | apply pw_below_drewN | apply below_drew1 | refine below_set ?_ GE177.out) | exact HB.out)⟩⟩
        case round =>
          clear H'
          try clear c1
          try clear p1
          try clear q1
          try clear hx1
          try clear qi1
          try clear c2
          try clear p2
          try clear c6
          try clear c6b0
          try clear c6b1
          try clear c7
          try clear c7b0
          try clear c7b1
          try clear c8
          try clear c8b0
          try clear c8b1
          try clear c9
          try clear c12
          try clear hcz13_0
          try clear hcz13_1
          try clear hcz13_2
          try clear hcz13_3
          try clear hcz13_4
          try clear hcz13_5
          try clear hcz13_6
          try clear hfz13_0
          try clear hfz13_1
          try clear hfz13_2
          try clear hfz13_3
          try clear hfz13_4
          try clear hfz13_5
          try clear hfz13_6
          try clear hx181_0
          try clear hx182_0
          try clear p1
          try clear p181
          try clear p182
          try clear p2
          try clear q1
          try clear q181
          try clear q182
          obtain ⟨x5_2, x6_2, rfl, HA, HK2, HO_4, HO_5, BK177, HB⟩ := hrel
          cases gk with
          | zero => exact absurd HA.out (by simp [spec_RulRead.l0])
          | succ k2 =>
            have H := HA.out
            clear HA
            simp only [spec_RulRead.l0] at H
            by_cases c16 : x6_2 < 7
            · rw [if_pos c16] at H
              have c16b0 : decide (x6_2 < 7) = true := decide_eq_true c16
              clear c16
              by_cases c17 : 0 ≤ x6_2
              · rw [if_pos c17] at H
                have c17b0 : decide (0 ≤ x6_2) = true := decide_eq_true c17
                clear c17
                by_cases c18 : x6_2 < (t178.length : Int)
                · rw [if_pos c18] at H
                  have c18b0 : decide (x6_2 < (t178.length : Int)) = true := decide_eq_true c18
                  clear c18
                  replace H := Option.bind_eq_some_iff.mp H
                  obtain ⟨t187, A190, H⟩ := H
                  replace H : (if x5_2.length < 17592186044416 then (spec_RulRead.l0 k2 t178 (x5_2 ++ [t187]) (wrap64 (x6_2 + 1))) else (none)) = some (r1, r2, r3, r4, r5, r6, r7, r8) := H
                  have A19 := Aside0.mk A190
                  clear A190
                  by_cases c20 : x5_2.length < 17592186044416
                  · rw [if_pos c20] at H
                    have LMc20 := Aside0.mk c20
                    clear c20
                    obtain ⟨y188, hy188⟩ : ∃ y_ : List Int, y_ = (x5_2 ++ [t187]) := ⟨_, rfl⟩
                    replace H : (spec_RulRead.l0 k2 t178 y188 (wrap64 (x6_2 + 1))) = some (r1, r2, r3, r4, r5, r6, r7, r8) := by first | (rw [hy188]; with_reducible exact H) | (have H2_ := (Option.bind_some _ _).symm.trans H; rw [hy188]; with_reducible exact H2_) | (have H2_ := (Option.bind_some _ _).symm.trans H; with_reducible exact H2_) | with_reducible exact H | (rw [hy188]; exact H) | exact H
                    have Ny188 := Aside0.mk hy188
                    clear hy188
                    have H' := Aside0.mk H
                    clear H
                    obtain ⟨Ao21, co21, eo21⟩ := Kd.R_slice HO_4.out
                    subst eo21
                    have p186 : 0 ≤ (x6_2 : Int) := of_decide_eq_true (by first | (with_reducible assumption) | assumption)
                    have q186 : x6_2 < (t178.length : Int) := of_decide_eq_true (by first | (with_reducible assumption) | assumption)
                    obtain ⟨ad186, e186, hx186_0⟩ := Kd.at_string (Kd.R_reads' HO_4.out).2.2 x6_2 p186 q186
                    cases e186
                    replace p186 := eq_true p186
                    replace q186 := eq_true q186
                    go_wp2_with (first | ((with_reducible refine gate_callee (f := 21) rfl ?_); refine goesL_ (some 36) rfl rfl Tryd.func21 (by kernel_rfl) rfl #[.string (rdOf ByteArray.empty t178 x6_2)] rfl (by (try simp only [List.map_toArray, List.map_cons, List.map_nil]); first | done | rfl | (simp only [List.length_drop, List.length_take]; rfl)) ?_; (with_reducible refine (spec_l1Num.calls k2 (rdOf ByteArray.empty t178 x6_2) t187 _ A19.out).mono ?_); rintro e w22 ⟨rfl, hb⟩; refine ⟨_, rfl, ?_⟩; have n0_ := Aside0.mk (Kd.R_below (rs HO_4) hb); have n1_ := Aside0.mk (Kd.R_below (rs HO_5) hb); have n2_ := bkB BK177 hb; have n3_ := Aside0.mk (below_step (bl HB) hb); clear HO_4; clear HO_5; clear BK177; clear HB; have HO_4 := n0_; have HO_5 := n1_; have BK177 := n2_; have HB := n3_; clear n0_ n1_ n2_ n3_; (try clear hb); (try clear hb2); (try clear hk); (try clear hi)) | ((with_reducible refine gate_builtin (b := .append) (xs := #[.tmp 31, .tmp 37]) rfl ?_); at_builtin; refine Kd.R_append (Kd.int .i64) (w0 := w) w.heap.size rfl (.tmp 31) (.tmp 37) 38 3 (.int .i64 0) 8 rfl Tryd.underlying38 info3 rfl (by decide) (by omega) u5 x5_2 t187 [.int .i64 t187] (fun _ => True) (fun _ => False) rfl rfl ?aP (fun _ hk => hk.elim) ?aF ?aO ?aB ?aS ?aL ?_; (case aP => exact rfl); (case aB => exact (bl HB)); (case aF => exact (fun _ _ => trivial)); (case aO => exact (rs HO_5)); (case aS => exact (below_size (bl HB))); (case aL => have := LMc20.out; omega); intro v189 w23 ho hb hg hat; rw [← Ny188.out] at ho; have n0_ := Aside0.mk (Kd.R_over' (rs HO_4) (Kd.R_typed (rs HO_5)) (by decide) hg); have n1_ := Aside0.mk (blk_grown (g := gb177) (o := .cells #[.bool false, .int .i64 0, .int .i64 0, .int .i64 0, .int .i64 0, .int .i64 0, .int .i64 0] 25 (0, 0)) (bk BK177) hg (Kd.R_ne HO_5.out BK177.out (by decide))); have n2_ := Aside0.mk (hb); have n3_ := Aside0.mk (ho); clear HO_4; clear BK177; clear HB; clear HO_5; have HO_4 := n0_; have BK177 := n1_; have HB := n2_; have HO190 := n3_; clear n0_ n1_ n2_ n3_; clear ho hb hg hat))
                    go_roundg k2
                    case measure => have := HJ2.out; have := HK2.out; omega
                    case rel => exact ⟨(y188), (wrap64 (x6_2 + 1)), (by first | rfl | (simp; done) | (simp [*]; done)), H', ⟨by have := HJ2.out; have := HK2.out; omega⟩, ⟨by (with_reducible repeat apply ru); exact HO_4.out⟩, ⟨by (with_reducible repeat apply ru); exact HO190.out⟩, ⟨by (with_reducible repeat refine bu ?_); exact BK177.out⟩, ⟨by repeat (first | (with_reducible first | exact HB.out | apply below_alloc | apply pw_below_drewN | apply below_drew1 | refine below_set ?_ GE177.out) | exact HB.out)⟩⟩
                  · rw [if_neg c20] at H
                    exact absurd H (by simp)
                · rw [if_neg c18] at H
                  exact absurd H (by simp)
              · rw [if_neg c17] at H
                exact absurd H (by simp)
            · rw [if_neg c16] at H
              have c16b0 : decide (x6_2 < 7) = false := decide_eq_false c16
              clear c16
              by_cases c24 : 0 < (t178.length : Int)
              · rw [if_pos c24] at H
                have c24b0 : decide (0 < (t178.length : Int)) = true := decide_eq_true c24
                have c24b1 : decide (0 < t178.length) = true := decide_eq_true (by omega)
                clear c24
                by_cases c25 : 0 < (x5_2.length : Int)
                · rw [if_pos c25] at H
                  have c25b0 : decide (0 < (x5_2.length : Int)) = true := decide_eq_true c25
                  have c25b1 : decide (0 < x5_2.length) = true := decide_eq_true (by omega)
                  clear c25
                  by_cases c26 : 1 < (x5_2.length : Int)
                  · rw [if_pos c26] at H
                    have c26b0 : decide (1 < (x5_2.length : Int)) = true := decide_eq_true c26
                    have c26b1 : decide (1 < x5_2.length) = true := decide_eq_true (by omega)
                    clear c26
                    by_cases c27 : 2 < (x5_2.length : Int)
                    · rw [if_pos c27] at H
                      have c27b0 : decide (2 < (x5_2.length : Int)) = true := decide_eq_true c27
                      have c27b1 : decide (2 < x5_2.length) = true := decide_eq_true (by omega)
                      clear c27
                      by_cases c28 : 3 < (x5_2.length : Int)
                      · rw [if_pos c28] at H
                        have c28b0 : decide (3 < (x5_2.length : Int)) = true := decide_eq_true c28
                        have c28b1 : decide (3 < x5_2.length) = true := decide_eq_true (by omega)
                        clear c28
                        by_cases c29 : 4 < (x5_2.length : Int)
                        · rw [if_pos c29] at H
                          have c29b0 : decide (4 < (x5_2.length : Int)) = true := decide_eq_true c29
                          have c29b1 : decide (4 < x5_2.length) = true := decide_eq_true (by omega)
                          clear c29
                          by_cases c30 : 5 < (x5_2.length : Int)
                          · rw [if_pos c30] at H
                            have c30b0 : decide (5 < (x5_2.length : Int)) = true := decide_eq_true c30
                            have c30b1 : decide (5 < x5_2.length) = true := decide_eq_true (by omega)
                            clear c30
                            replace H := Option.bind_eq_some_iff.mp H
                            obtain ⟨t199, A310, H⟩ := H
                            replace H : (if t199 = true then (some (((rdOf ByteArray.empty t178 0).toList == ([97, 108, 108, 111, 119] : List UInt8)), rd x5_2 0, rd x5_2 1, rd x5_2 2, rd x5_2 3, rd x5_2 4, rd x5_2 5, true)) else (some (false, 0, 0, 0, 0, 0, 0, false))) = some (r1, r2, r3, r4, r5, r6, r7, r8) := H
                            have A31 := Aside0.mk A310
                            clear A310
                            by_cases c32 : t199 = true
                            · subst c32
                              have H1 : (some (((rdOf ByteArray.empty t178 0).toList == ([97, 108, 108, 111, 119] : List UInt8)), rd x5_2 0, rd x5_2 1, rd x5_2 2, rd x5_2 3, rd x5_2 4, rd x5_2 5, true)) = some (r1, r2, r3, r4, r5, r6, r7, r8) := by rw [if_pos rfl] at H; exact H
                              clear H
                              have H := H1
                              clear H1
                              simp only [Option.some.injEq, Prod.mk.injEq] at H
                              obtain ⟨rfl, rfl, rfl, rfl, rfl, rfl, rfl, rfl⟩ := H
                              try go_wp2
                              have n0_ := Aside0.mk (Kd.R_drew HO_4.out)
                              have n1_ := Aside0.mk (Kd.R_drew HO_5.out)
                              have n2_ := Aside0.mk (blk_drew BK177.out)
                              have n3_ := Aside0.mk (below_drew1 HB.out)
                              clear HO_4
                              clear HO_5
                              clear BK177
                              clear HB
                              have HO_4 := n0_
                              have HO_5 := n1_
                              have BK177 := n2_
                              have HB := n3_
                              clear n0_ n1_ n2_ n3_
                              obtain ⟨Ao34, co34, eo34⟩ := Kd.R_slice HO_4.out
                              (first | subst eo34 | (injection eo34 with f1_ f2_ f3_; have f4_ := f1_.symm; have f5_ := f3_.symm; clear f1_ f2_ f3_; subst f4_; subst f5_))
                              have p191 : 0 ≤ (0 : Int) := (by omega)
                              have q191 : 0 < (t178.length : Int) := of_decide_eq_true (by first | (with_reducible assumption) | assumption)
                              obtain ⟨ad191, e191, hx191_0⟩ := Kd.at_string (Kd.R_reads' HO_4.out).2.2 0 p191 q191
                              cases e191
                              have qi191 : (0 < t178.length) = True := eq_true (by omega)
                              (try rw [show ((0 : Int)).toNat = 0 from rfl] at hx191_0)
                              (try rw [Addr.add_zero'] at hx191_0)
                              replace p191 := eq_true p191
                              replace q191 := eq_true q191
                              obtain ⟨Ao35, co35, eo35⟩ := Kd.R_slice HO_5.out
                              (first | subst eo35 | (injection eo35 with f1_ f2_ f3_; have f4_ := f1_.symm; have f5_ := f3_.symm; clear f1_ f2_ f3_; subst f4_; subst f5_))
                              have p192 : 0 ≤ (0 : Int) := (by omega)
                              have q192 : 0 < (x5_2.length : Int) := of_decide_eq_true (by first | (with_reducible assumption) | assumption)
                              obtain ⟨ad192, e192, hx192_0⟩ := Kd.at_int (Kd.R_reads' HO_5.out).2.2 0 p192 q192
                              cases e192
                              have qi192 : (0 < x5_2.length) = True := eq_true (by omega)
                              (try rw [show ((0 : Int)).toNat = 0 from rfl] at hx192_0)
                              (try rw [Addr.add_zero'] at hx192_0)
                              replace p192 := eq_true p192
                              replace q192 := eq_true q192
                              have p193 : 0 ≤ (1 : Int) := (by omega)
                              have q193 : 1 < (x5_2.length : Int) := of_decide_eq_true (by first | (with_reducible assumption) | assumption)
                              obtain ⟨ad193, e193, hx193_0⟩ := Kd.at_int (Kd.R_reads' HO_5.out).2.2 1 p193 q193
                              obtain rfl : ad192 = ad193 := (by injection e193)
                              (try simp only [show (1 : Int).toNat = 1 from rfl, Nat.reduceMul, Nat.reduceEqDiff, Go.Addr.add, ↓reduceIte] at hx193_0)
                              have qi193 : (1 < x5_2.length) = True := eq_true (by omega)
                              (try rw [show ((1 : Int)).toNat = 1 from rfl] at hx193_0)
                              replace p193 := eq_true p193
                              replace q193 := eq_true q193
                              have p194 : 0 ≤ (2 : Int) := (by omega)
                              have q194 : 2 < (x5_2.length : Int) := of_decide_eq_true (by first | (with_reducible assumption) | assumption)
                              obtain ⟨ad194, e194, hx194_0⟩ := Kd.at_int (Kd.R_reads' HO_5.out).2.2 2 p194 q194
                              obtain rfl : ad192 = ad194 := (by injection e194)
                              (try simp only [show (2 : Int).toNat = 2 from rfl, Nat.reduceMul, Nat.reduceEqDiff, Go.Addr.add, ↓reduceIte] at hx194_0)
                              have qi194 : (2 < x5_2.length) = True := eq_true (by omega)
                              (try rw [show ((2 : Int)).toNat = 2 from rfl] at hx194_0)
                              replace p194 := eq_true p194
                              replace q194 := eq_true q194
                              have p195 : 0 ≤ (3 : Int) := (by omega)
                              have q195 : 3 < (x5_2.length : Int) := of_decide_eq_true (by first | (with_reducible assumption) | assumption)
                              obtain ⟨ad195, e195, hx195_0⟩ := Kd.at_int (Kd.R_reads' HO_5.out).2.2 3 p195 q195
                              obtain rfl : ad192 = ad195 := (by injection e195)
                              (try simp only [show (3 : Int).toNat = 3 from rfl, Nat.reduceMul, Nat.reduceEqDiff, Go.Addr.add, ↓reduceIte] at hx195_0)
                              have qi195 : (3 < x5_2.length) = True := eq_true (by omega)
                              (try rw [show ((3 : Int)).toNat = 3 from rfl] at hx195_0)
                              replace p195 := eq_true p195
                              replace q195 := eq_true q195
                              have p196 : 0 ≤ (4 : Int) := (by omega)
                              have q196 : 4 < (x5_2.length : Int) := of_decide_eq_true (by first | (with_reducible assumption) | assumption)
                              obtain ⟨ad196, e196, hx196_0⟩ := Kd.at_int (Kd.R_reads' HO_5.out).2.2 4 p196 q196
                              obtain rfl : ad192 = ad196 := (by injection e196)
                              (try simp only [show (4 : Int).toNat = 4 from rfl, Nat.reduceMul, Nat.reduceEqDiff, Go.Addr.add, ↓reduceIte] at hx196_0)
                              have qi196 : (4 < x5_2.length) = True := eq_true (by omega)
                              (try rw [show ((4 : Int)).toNat = 4 from rfl] at hx196_0)
                              replace p196 := eq_true p196
                              replace q196 := eq_true q196
                              have p197 : 0 ≤ (5 : Int) := (by omega)
                              have q197 : 5 < (x5_2.length : Int) := of_decide_eq_true (by first | (with_reducible assumption) | assumption)
                              obtain ⟨ad197, e197, hx197_0⟩ := Kd.at_int (Kd.R_reads' HO_5.out).2.2 5 p197 q197
                              obtain rfl : ad192 = ad197 := (by injection e197)
                              (try simp only [show (5 : Int).toNat = 5 from rfl, Nat.reduceMul, Nat.reduceEqDiff, Go.Addr.add, ↓reduceIte] at hx197_0)
                              have qi197 : (5 < x5_2.length) = True := eq_true (by omega)
                              (try rw [show ((5 : Int)).toNat = 5 from rfl] at hx197_0)
                              replace p197 := eq_true p197
                              replace q197 := eq_true q197
                              refine start_ (n := 25) (S := fun w' => w'.cell? ad191 = some (.string (rdOf ByteArray.empty t178 0)) ∧ w'.cell? ad192 = some (.int .i64 (rd x5_2 0)) ∧ w'.cell? ⟨ad192.block, ad192.off + 1, none⟩ = some (.int .i64 (rd x5_2 1)) ∧ w'.cell? ⟨ad192.block, ad192.off + 2, none⟩ = some (.int .i64 (rd x5_2 2)) ∧ w'.cell? ⟨ad192.block, ad192.off + 3, none⟩ = some (.int .i64 (rd x5_2 3)) ∧ w'.cell? ⟨ad192.block, ad192.off + 4, none⟩ = some (.int .i64 (rd x5_2 4)) ∧ w'.cell? ⟨ad192.block, ad192.off + 5, none⟩ = some (.int .i64 (rd x5_2 5))) (ds := []) #[false, false, false, false, false, false, false, false, false, false, false, false, false, false, false, false, false, false, false, false, false, false, false, false, false] (by kernel_rfl) rfl rfl ⟨hx191_0, hx192_0, hx193_0, hx194_0, hx195_0, hx196_0, hx197_0⟩ (fun hHeld => ?_); refine with_tabW spec_RulRead.tab9 spec_RulRead.bits9 (fun HT_ HW_ => ?_)
                              generalize wr.drew = w33 at HO_4 HO_5 BK177 HB hx191_0 hx192_0 hx193_0 hx194_0 hx195_0 hx196_0 hx197_0 hHeld ⊢
                              refine pure_ (i := 0) (N := some 39) (v := ?_) (a' := ?_) #[true, false, false, false, false, false, false, false, false, false, false, false, false, false, false, false, false, false, false, false, false, false, false, false, false] rfl rfl (any_of HT_.out (by kernel_rfl)) (fun _ _ _ h => h) (Or.inl ⟨by rfl, ?_⟩) ?_ ?_
                              rotate_left
                              · intro w'
                                go_simp
                                with_reducible rfl
                              rotate_left
                              · simp only [Act.put, List.setIfInBounds_toArray, List.set_cons_zero, List.set_cons_succ, i64_w, i32_w]
                                rfl
                              refine pure_ (i := 1) (N := some 40) (v := ?_) (a' := ?_) #[true, true, false, false, false, false, false, false, false, false, false, false, false, false, false, false, false, false, false, false, false, false, false, false, false] rfl rfl (any_of HT_.out (by kernel_rfl)) (fun _ _ _ h => h) (Or.inl ⟨by rfl, ?_⟩) ?_ ?_
                              rotate_left
                              · intro w'
                                go_simp
                                with_reducible rfl
                              rotate_left
                              · simp only [Act.put, List.setIfInBounds_toArray, List.set_cons_zero, List.set_cons_succ, i64_w, i32_w]
                                rfl
                              refine pure_ (i := 4) (N := some 43) (v := ?_) (a' := ?_) #[true, true, false, false, true, false, false, false, false, false, false, false, false, false, false, false, false, false, false, false, false, false, false, false, false] rfl rfl (any_of HT_.out (by kernel_rfl)) (fun _ _ _ h => h) (Or.inl ⟨by rfl, ?_⟩) ?_ ?_
                              rotate_left
                              · intro w'
                                go_simp
                                with_reducible rfl
                              rotate_left
                              · simp only [Act.put, List.setIfInBounds_toArray, List.set_cons_zero, List.set_cons_succ, i64_w, i32_w]
                                rfl
                              refine pure_ (i := 5) (N := some 44) (v := ?_) (a' := ?_) #[true, true, false, false, true, true, false, false, false, false, false, false, false, false, false, false, false, false, false, false, false, false, false, false, false] rfl rfl (any_of HT_.out (by kernel_rfl)) (fun _ _ _ h => h) (Or.inl ⟨by rfl, ?_⟩) ?_ ?_
                              rotate_left
                              · intro w'
                                go_simp
                                with_reducible rfl
                              rotate_left
                              · simp only [Act.put, List.setIfInBounds_toArray, List.set_cons_zero, List.set_cons_succ, i64_w, i32_w]
                                rfl
                              refine pure_ (i := 7) (N := some 46) (v := ?_) (a' := ?_) #[true, true, false, false, true, true, false, true, false, false, false, false, false, false, false, false, false, false, false, false, false, false, false, false, false] rfl rfl (any_of HT_.out (by kernel_rfl)) (fun _ _ _ h => h) (Or.inl ⟨by rfl, ?_⟩) ?_ ?_
                              rotate_left
                              · intro w'
                                go_simp
                                with_reducible rfl
                              rotate_left
                              · simp only [Act.put, List.setIfInBounds_toArray, List.set_cons_zero, List.set_cons_succ, i64_w, i32_w]
                                rfl
                              refine pure_ (i := 8) (N := some 47) (v := ?_) (a' := ?_) #[true, true, false, false, true, true, false, true, true, false, false, false, false, false, false, false, false, false, false, false, false, false, false, false, false] rfl rfl (any_of HT_.out (by kernel_rfl)) (fun _ _ _ h => h) (Or.inl ⟨by rfl, ?_⟩) ?_ ?_
                              rotate_left
                              · intro w'
                                go_simp
                                with_reducible rfl
                              rotate_left
                              · simp only [Act.put, List.setIfInBounds_toArray, List.set_cons_zero, List.set_cons_succ, i64_w, i32_w]
                                rfl
                              refine pure_ (i := 10) (N := some 49) (v := ?_) (a' := ?_) #[true, true, false, false, true, true, false, true, true, false, true, false, false, false, false, false, false, false, false, false, false, false, false, false, false] rfl rfl (any_of HT_.out (by kernel_rfl)) (fun _ _ _ h => h) (Or.inl ⟨by rfl, ?_⟩) ?_ ?_
                              rotate_left
                              · intro w'
                                go_simp
                                with_reducible rfl
                              rotate_left
                              · simp only [Act.put, List.setIfInBounds_toArray, List.set_cons_zero, List.set_cons_succ, i64_w, i32_w]
                                rfl
                              refine pure_ (i := 11) (N := some 50) (v := ?_) (a' := ?_) #[true, true, false, false, true, true, false, true, true, false, true, true, false, false, false, false, false, false, false, false, false, false, false, false, false] rfl rfl (any_of HT_.out (by kernel_rfl)) (fun _ _ _ h => h) (Or.inl ⟨by rfl, ?_⟩) ?_ ?_
                              rotate_left
                              · intro w'
                                go_simp
                                with_reducible rfl
                              rotate_left
                              · simp only [Act.put, List.setIfInBounds_toArray, List.set_cons_zero, List.set_cons_succ, i64_w, i32_w]
                                rfl
                              refine pure_ (i := 13) (N := some 52) (v := ?_) (a' := ?_) #[true, true, false, false, true, true, false, true, true, false, true, true, false, true, false, false, false, false, false, false, false, false, false, false, false] rfl rfl (any_of HT_.out (by kernel_rfl)) (fun _ _ _ h => h) (Or.inl ⟨by rfl, ?_⟩) ?_ ?_
                              rotate_left
                              · intro w'
                                go_simp
                                with_reducible rfl
                              rotate_left
                              · simp only [Act.put, List.setIfInBounds_toArray, List.set_cons_zero, List.set_cons_succ, i64_w, i32_w]
                                rfl
                              refine pure_ (i := 14) (N := some 53) (v := ?_) (a' := ?_) #[true, true, false, false, true, true, false, true, true, false, true, true, false, true, true, false, false, false, false, false, false, false, false, false, false] rfl rfl (any_of HT_.out (by kernel_rfl)) (fun _ _ _ h => h) (Or.inl ⟨by rfl, ?_⟩) ?_ ?_
                              rotate_left
                              · intro w'
                                go_simp
                                with_reducible rfl
                              rotate_left
                              · simp only [Act.put, List.setIfInBounds_toArray, List.set_cons_zero, List.set_cons_succ, i64_w, i32_w]
                                rfl
                              refine pure_ (i := 16) (N := some 55) (v := ?_) (a' := ?_) #[true, true, false, false, true, true, false, true, true, false, true, true, false, true, true, false, true, false, false, false, false, false, false, false, false] rfl rfl (any_of HT_.out (by kernel_rfl)) (fun _ _ _ h => h) (Or.inl ⟨by rfl, ?_⟩) ?_ ?_
                              rotate_left
                              · intro w'
                                go_simp
                                with_reducible rfl
                              rotate_left
                              · simp only [Act.put, List.setIfInBounds_toArray, List.set_cons_zero, List.set_cons_succ, i64_w, i32_w]
                                rfl
                              refine pure_ (i := 17) (N := some 56) (v := ?_) (a' := ?_) #[true, true, false, false, true, true, false, true, true, false, true, true, false, true, true, false, true, true, false, false, false, false, false, false, false] rfl rfl (any_of HT_.out (by kernel_rfl)) (fun _ _ _ h => h) (Or.inl ⟨by rfl, ?_⟩) ?_ ?_
                              rotate_left
                              · intro w'
                                go_simp
                                with_reducible rfl
                              rotate_left
                              · simp only [Act.put, List.setIfInBounds_toArray, List.set_cons_zero, List.set_cons_succ, i64_w, i32_w]
                                rfl
                              refine pure_ (i := 19) (N := some 58) (v := ?_) (a' := ?_) #[true, true, false, false, true, true, false, true, true, false, true, true, false, true, true, false, true, true, false, true, false, false, false, false, false] rfl rfl (any_of HT_.out (by kernel_rfl)) (fun _ _ _ h => h) (Or.inl ⟨by rfl, ?_⟩) ?_ ?_
                              rotate_left
                              · intro w'
                                go_simp
                                with_reducible rfl
                              rotate_left
                              · simp only [Act.put, List.setIfInBounds_toArray, List.set_cons_zero, List.set_cons_succ, i64_w, i32_w]
                                rfl
                              refine pure_ (i := 20) (N := some 59) (v := ?_) (a' := ?_) #[true, true, false, false, true, true, false, true, true, false, true, true, false, true, true, false, true, true, false, true, true, false, false, false, false] rfl rfl (any_of HT_.out (by kernel_rfl)) (fun _ _ _ h => h) (Or.inl ⟨by rfl, ?_⟩) ?_ ?_
                              rotate_left
                              · intro w'
                                go_simp
                                with_reducible rfl
                              rotate_left
                              · simp only [Act.put, List.setIfInBounds_toArray, List.set_cons_zero, List.set_cons_succ, i64_w, i32_w]
                                rfl
                              refine take_ (i := 2) (N := some 41) (v := ?_) (a' := ?_) #[true, true, true, false, true, true, false, true, true, false, true, true, false, true, true, false, true, true, false, true, true, false, false, false, false] rfl rfl (take_ofW HT_.out HW_.out (by kernel_rfl)) (fun _ _ _ h => h) (Or.inl ⟨by rfl, ?_⟩) hHeld ?_ ?_
                              rotate_left
                              · rintro w' ⟨s0, s1, s2, s3, s4, s5, s6⟩
                                go_simp
                                with_reducible rfl
                              rotate_left
                              · simp only [Act.put, List.setIfInBounds_toArray, List.set_cons_zero, List.set_cons_succ, i64_w, i32_w]
                                rfl
                              refine pure_ (i := 3) (N := some 42) (v := ?_) (a' := ?_) #[true, true, true, true, true, true, false, true, true, false, true, true, false, true, true, false, true, true, false, true, true, false, false, false, false] rfl rfl (any_of HT_.out (by kernel_rfl)) (fun _ _ _ h => h) (Or.inl ⟨by rfl, ?_⟩) ?_ ?_
                              rotate_left
                              · intro w'
                                go_simp
                                with_reducible rfl
                              rotate_left
                              · simp only [Act.put, List.setIfInBounds_toArray, List.set_cons_zero, List.set_cons_succ, i64_w, i32_w]
                                rfl
                              refine take_ (i := 6) (N := some 45) (v := ?_) (a' := ?_) #[true, true, true, true, true, true, true, true, true, false, true, true, false, true, true, false, true, true, false, true, true, false, false, false, false] rfl rfl (take_ofW HT_.out HW_.out (by kernel_rfl)) (fun _ _ _ h => h) (Or.inl ⟨by rfl, ?_⟩) hHeld ?_ ?_
                              rotate_left
                              · rintro w' ⟨s0, s1, s2, s3, s4, s5, s6⟩
                                go_simp
                                with_reducible rfl
                              rotate_left
                              · simp only [Act.put, List.setIfInBounds_toArray, List.set_cons_zero, List.set_cons_succ, i64_w, i32_w]
                                rfl
                              refine take_ (i := 9) (N := some 48) (v := ?_) (a' := ?_) #[true, true, true, true, true, true, true, true, true, true, true, true, false, true, true, false, true, true, false, true, true, false, false, false, false] rfl rfl (take_ofW HT_.out HW_.out (by kernel_rfl)) (fun _ _ _ h => h) (Or.inl ⟨by rfl, ?_⟩) hHeld ?_ ?_
                              rotate_left
                              · rintro w' ⟨s0, s1, s2, s3, s4, s5, s6⟩
                                go_simp
                                with_reducible rfl
                              rotate_left
                              · simp only [Act.put, List.setIfInBounds_toArray, List.set_cons_zero, List.set_cons_succ, i64_w, i32_w]
                                rfl
                              refine take_ (i := 12) (N := some 51) (v := ?_) (a' := ?_) #[true, true, true, true, true, true, true, true, true, true, true, true, true, true, true, false, true, true, false, true, true, false, false, false, false] rfl rfl (take_ofW HT_.out HW_.out (by kernel_rfl)) (fun _ _ _ h => h) (Or.inl ⟨by rfl, ?_⟩) hHeld ?_ ?_
                              rotate_left
                              · rintro w' ⟨s0, s1, s2, s3, s4, s5, s6⟩
                                go_simp
                                with_reducible rfl
                              rotate_left
                              · simp only [Act.put, List.setIfInBounds_toArray, List.set_cons_zero, List.set_cons_succ, i64_w, i32_w]
                                rfl
                              refine take_ (i := 15) (N := some 54) (v := ?_) (a' := ?_) #[true, true, true, true, true, true, true, true, true, true, true, true, true, true, true, true, true, true, false, true, true, false, false, false, false] rfl rfl (take_ofW HT_.out HW_.out (by kernel_rfl)) (fun _ _ _ h => h) (Or.inl ⟨by rfl, ?_⟩) hHeld ?_ ?_
                              rotate_left
                              · rintro w' ⟨s0, s1, s2, s3, s4, s5, s6⟩
                                go_simp
                                with_reducible rfl
                              rotate_left
                              · simp only [Act.put, List.setIfInBounds_toArray, List.set_cons_zero, List.set_cons_succ, i64_w, i32_w]
                                rfl
                              refine take_ (i := 18) (N := some 57) (v := ?_) (a' := ?_) #[true, true, true, true, true, true, true, true, true, true, true, true, true, true, true, true, true, true, true, true, true, false, false, false, false] rfl rfl (take_ofW HT_.out HW_.out (by kernel_rfl)) (fun _ _ _ h => h) (Or.inl ⟨by rfl, ?_⟩) hHeld ?_ ?_
                              rotate_left
                              · rintro w' ⟨s0, s1, s2, s3, s4, s5, s6⟩
                                go_simp
                                with_reducible rfl
                              rotate_left
                              · simp only [Act.put, List.setIfInBounds_toArray, List.set_cons_zero, List.set_cons_succ, i64_w, i32_w]
                                rfl
                              refine take_ (i := 21) (N := some 60) (v := ?_) (a' := ?_) #[true, true, true, true, true, true, true, true, true, true, true, true, true, true, true, true, true, true, true, true, true, true, false, false, false] rfl rfl (take_ofW HT_.out HW_.out (by kernel_rfl)) (fun _ _ _ h => h) (Or.inl ⟨by rfl, ?_⟩) hHeld ?_ ?_
                              rotate_left
                              · rintro w' ⟨s0, s1, s2, s3, s4, s5, s6⟩
                                go_simp
                                with_reducible rfl
                              rotate_left
                              · simp only [Act.put, List.setIfInBounds_toArray, List.set_cons_zero, List.set_cons_succ, i64_w, i32_w]
                                rfl
                              refine pure_ (i := 22) (N := some 61) (v := ?_) (a' := ?_) #[true, true, true, true, true, true, true, true, true, true, true, true, true, true, true, true, true, true, true, true, true, true, true, false, false] rfl rfl (any_of HT_.out (by kernel_rfl)) (fun _ _ _ h => h) (Or.inl ⟨by rfl, ?_⟩) ?_ ?_
                              rotate_left
                              · intro w'
                                go_simp
                                with_reducible rfl
                              rotate_left
                              · simp only [Act.put, List.setIfInBounds_toArray, List.set_cons_zero, List.set_cons_succ, i64_w, i32_w]
                                rfl
                              refine one_ (i := 23) (N := some 7) #[true, true, true, true, true, true, true, true, true, true, true, true, true, true, true, true, true, true, true, true, true, true, true, true, false] rfl rfl (one_of HT_.out (by kernel_rfl)) (by decide) (fun K hK => ?_)
                              refine box_step ?hg (N := 7) ?hd (cs := #[.bool false, .int .i64 0, .int .i64 0, .int .i64 0, .int .i64 0, .int .i64 0, .int .i64 0]) (t := 25) ?hr ?_; (case hd => rfl); (case hg => rfl); (case hr => first | (go_simp; done) | (go_simp; rfl))
                              intro gb198 hg w36 hbox hb
                              have HS0_ := (hb.cell (World.block_lt_of_cell? _ _ (hHeld.1))).trans (hHeld.1)
                              have HS1_ := (hb.cell (World.block_lt_of_cell? _ _ (hHeld.2.1))).trans (hHeld.2.1)
                              have HS2_ := (hb.cell (World.block_lt_of_cell? _ _ (hHeld.2.2.1))).trans (hHeld.2.2.1)
                              have HS3_ := (hb.cell (World.block_lt_of_cell? _ _ (hHeld.2.2.2.1))).trans (hHeld.2.2.2.1)
                              have HS4_ := (hb.cell (World.block_lt_of_cell? _ _ (hHeld.2.2.2.2.1))).trans (hHeld.2.2.2.2.1)
                              have HS5_ := (hb.cell (World.block_lt_of_cell? _ _ (hHeld.2.2.2.2.2.1))).trans (hHeld.2.2.2.2.2.1)
                              have HS6_ := (hb.cell (World.block_lt_of_cell? _ _ (hHeld.2.2.2.2.2.2))).trans (hHeld.2.2.2.2.2.2)
                              have n0_ := Aside0.mk (Kd.R_below (rs HO_4) hb)
                              have n1_ := Aside0.mk (Kd.R_below (rs HO_5) hb)
                              have n2_ := bkB BK177 hb
                              have n3_ := Aside0.mk (below_step (bl HB) hb)
                              have n4_ := Aside0.mk (hbox)
                              have n5_ := Aside0.mk ((by rw [hg]; exact (below_size (bl HB)) : w.heap.size ≤ gb198))
                              have n6_ := Aside0.mk ((by rw [hg]; exact (below_size (bl HB)) : w.heap.size ≤ gb198))
                              have n7_ := Aside0.mk ((by rw [hg]; exact Nat.ne_of_lt (bkL BK177) : gb177 ≠ gb198))
                              have n8_ := Aside0.mk ((by rw [hg]; exact Nat.ne_of_gt (bkL BK177) : gb198 ≠ gb177))
                              clear HO_4
                              clear HO_5
                              clear BK177
                              clear HB
                              have HO_4 := n0_
                              have HO_5 := n1_
                              have BK177 := n2_
                              have HB := n3_
                              have BK198 := n4_
                              have GW198 := n5_
                              have GE198 := n6_
                              have NB177_198 := n7_
                              have NB198_177 := n8_
                              clear n0_ n1_ n2_ n3_ n4_ n5_ n6_ n7_ n8_
                              clear hb hbox hg
                              refine hK.out _ _ ⟨HS0_, HS1_, HS2_, HS3_, HS4_, HS5_, HS6_⟩ (fun hHeld => ?_)
                              clear hK K
                              refine norm_ (a' := ?_) ?_ ?_
                              rotate_left
                              · show Act.put _ (some 7) _ = _
                                simp only [Act.put, List.setIfInBounds_toArray, List.set_cons_zero, List.set_cons_succ, i64_w, i32_w]
                                rfl
                              refine one_ (i := 24) (N := none) #[true, true, true, true, true, true, true, true, true, true, true, true, true, true, true, true, true, true, true, true, true, true, true, true, true] rfl rfl (one_of HT_.out (by kernel_rfl)) (by decide) (fun K hK => ?_)
                              have hs37 : w36.cell? ⟨gb198, 0, none⟩ = some (.bool false) := (blk_cell BK198.out 0).trans rfl
                              have hfs37 := blk_frozen BK198.out 0
                              have hns37_0 := NB177_198.out
                              have hms37_0 := NB198_177.out
                              have hs38 : w36.cell? ⟨gb198, 1, none⟩ = some (.int .i64 0) := (blk_cell BK198.out 1).trans rfl
                              have hfs38 := blk_frozen BK198.out 1
                              have hns38_0 := NB177_198.out
                              have hms38_0 := NB198_177.out
                              have hs39 : w36.cell? ⟨gb198, 2, none⟩ = some (.int .i64 0) := (blk_cell BK198.out 2).trans rfl
                              have hfs39 := blk_frozen BK198.out 2
                              have hns39_0 := NB177_198.out
                              have hms39_0 := NB198_177.out
                              have hs40 : w36.cell? ⟨gb198, 3, none⟩ = some (.int .i64 0) := (blk_cell BK198.out 3).trans rfl
                              have hfs40 := blk_frozen BK198.out 3
                              have hns40_0 := NB177_198.out
                              have hms40_0 := NB198_177.out
                              have hs41 : w36.cell? ⟨gb198, 4, none⟩ = some (.int .i64 0) := (blk_cell BK198.out 4).trans rfl
                              have hfs41 := blk_frozen BK198.out 4
                              have hns41_0 := NB177_198.out
                              have hms41_0 := NB198_177.out
                              have hs42 : w36.cell? ⟨gb198, 5, none⟩ = some (.int .i64 0) := (blk_cell BK198.out 5).trans rfl
                              have hfs42 := blk_frozen BK198.out 5
                              have hns42_0 := NB177_198.out
                              have hms42_0 := NB198_177.out
                              have hs43 : w36.cell? ⟨gb198, 6, none⟩ = some (.int .i64 0) := (blk_cell BK198.out 6).trans rfl
                              have hfs43 := blk_frozen BK198.out 6
                              have hns43_0 := NB177_198.out
                              have hms43_0 := NB198_177.out
                              refine skip_ (w1 := ?_) (by rfl) rfl ?_ ?_
                              rotate_left
                              · go_simp
                                rfl
                              refine hK.out _ _ ⟨(farN (g := gb198) (Kd.own_blk (Kd.R_ne HO_4.out BK198.out (by decide))) (hHeld.1)), (farN (g := gb198) (Kd.own_blk (Kd.R_ne HO_5.out BK198.out (by decide))) (hHeld.2.1)), (farN (g := gb198) (Kd.own_blk (Kd.R_ne HO_5.out BK198.out (by decide))) (hHeld.2.2.1)), (farN (g := gb198) (Kd.own_blk (Kd.R_ne HO_5.out BK198.out (by decide))) (hHeld.2.2.2.1)), (farN (g := gb198) (Kd.own_blk (Kd.R_ne HO_5.out BK198.out (by decide))) (hHeld.2.2.2.2.1)), (farN (g := gb198) (Kd.own_blk (Kd.R_ne HO_5.out BK198.out (by decide))) (hHeld.2.2.2.2.2.1)), (farN (g := gb198) (Kd.own_blk (Kd.R_ne HO_5.out BK198.out (by decide))) (hHeld.2.2.2.2.2.2))⟩ (fun hHeld => ?_)
                              clear hK K
                              refine done_ (done_of HT_.out (by kernel_rfl)) ?_
                              have hnb44 := NB198_177.out
                              have hnc44 := NB177_198.out
                              have hcz45_0 : w36.cell? ⟨gb198, 0, none⟩ = some (.bool false) := (blk_cell BK198.out 0).trans rfl
                              have hcz45_1 : w36.cell? ⟨gb198, 1, none⟩ = some (.int .i64 0) := (blk_cell BK198.out 1).trans rfl
                              have hcz45_2 : w36.cell? ⟨gb198, 2, none⟩ = some (.int .i64 0) := (blk_cell BK198.out 2).trans rfl
                              have hcz45_3 : w36.cell? ⟨gb198, 3, none⟩ = some (.int .i64 0) := (blk_cell BK198.out 3).trans rfl
                              have hcz45_4 : w36.cell? ⟨gb198, 4, none⟩ = some (.int .i64 0) := (blk_cell BK198.out 4).trans rfl
                              have hcz45_5 : w36.cell? ⟨gb198, 5, none⟩ = some (.int .i64 0) := (blk_cell BK198.out 5).trans rfl
                              have hcz45_6 : w36.cell? ⟨gb198, 6, none⟩ = some (.int .i64 0) := (blk_cell BK198.out 6).trans rfl
                              have hfz45_0 := blk_frozen BK198.out 0
                              have hfz45_1 := blk_frozen BK198.out 1
                              have hfz45_2 := blk_frozen BK198.out 2
                              have hfz45_3 := blk_frozen BK198.out 3
                              have hfz45_4 := blk_frozen BK198.out 4
                              have hfz45_5 := blk_frozen BK198.out 5
                              have hfz45_6 := blk_frozen BK198.out 6
                              try go_wp2_with (first | ((with_reducible refine gate_callee (f := 15) rfl ?_); refine goesL_ (some 63) rfl rfl Tryd.func15 (by kernel_rfl) rfl #[.agg #[.bool ((rdOf ByteArray.empty t178 0).toList == ([97, 108, 108, 111, 119] : List UInt8)), .int .i64 (rd x5_2 0), .int .i64 (rd x5_2 1), .int .i64 (rd x5_2 2), .int .i64 (rd x5_2 3), .int .i64 (rd x5_2 4), .int .i64 (rd x5_2 5)]] rfl (by (try simp only [List.map_toArray, List.map_cons, List.map_nil]); first | done | rfl | (simp only [List.length_drop, List.length_take]; rfl)) ?_; (with_reducible refine (spec_RulOk.calls ((rdOf ByteArray.empty t178 0).toList == ([97, 108, 108, 111, 119] : List UInt8)) (rd x5_2 0) (rd x5_2 1) (rd x5_2 2) (rd x5_2 3) (rd x5_2 4) (rd x5_2 5) true _ A31.out).mono ?_); rintro e w46 ⟨rfl, hb⟩; refine ⟨_, rfl, ?_⟩; have n0_ := Aside0.mk (Kd.R_below (by (with_reducible repeat apply ru); exact (Kd.R_mono (Kd.R_far (p := ⟨gb198, 6, none⟩) (Kd.R_far (p := ⟨gb198, 5, none⟩) (Kd.R_far (p := ⟨gb198, 4, none⟩) (Kd.R_far (p := ⟨gb198, 3, none⟩) (Kd.R_far (p := ⟨gb198, 2, none⟩) (Kd.R_far (p := ⟨gb198, 1, none⟩) (Kd.R_far (p := ⟨gb198, 0, none⟩) (Kd.R_types HO_4.out BK198.out (by decide)) (fun _ hk => hk.2) (.bool ((rdOf ByteArray.empty t178 0).toList == ([97, 108, 108, 111, 119] : List UInt8)))) (fun _ hk => hk.2) (.int .i64 (rd x5_2 0))) (fun _ hk => hk.2) (.int .i64 (rd x5_2 1))) (fun _ hk => hk.2) (.int .i64 (rd x5_2 2))) (fun _ hk => hk.2) (.int .i64 (rd x5_2 3))) (fun _ hk => hk.2) (.int .i64 (rd x5_2 4))) (fun _ hk => hk.2) (.int .i64 (rd x5_2 5))) (fun _ h_ => h_.1))) hb); have n1_ := Aside0.mk (Kd.R_below (by (with_reducible repeat apply ru); exact (Kd.R_mono (Kd.R_far (p := ⟨gb198, 6, none⟩) (Kd.R_far (p := ⟨gb198, 5, none⟩) (Kd.R_far (p := ⟨gb198, 4, none⟩) (Kd.R_far (p := ⟨gb198, 3, none⟩) (Kd.R_far (p := ⟨gb198, 2, none⟩) (Kd.R_far (p := ⟨gb198, 1, none⟩) (Kd.R_far (p := ⟨gb198, 0, none⟩) (Kd.R_types HO_5.out BK198.out (by decide)) (fun _ hk => hk.2) (.bool ((rdOf ByteArray.empty t178 0).toList == ([97, 108, 108, 111, 119] : List UInt8)))) (fun _ hk => hk.2) (.int .i64 (rd x5_2 0))) (fun _ hk => hk.2) (.int .i64 (rd x5_2 1))) (fun _ hk => hk.2) (.int .i64 (rd x5_2 2))) (fun _ hk => hk.2) (.int .i64 (rd x5_2 3))) (fun _ hk => hk.2) (.int .i64 (rd x5_2 4))) (fun _ hk => hk.2) (.int .i64 (rd x5_2 5))) (fun _ h_ => h_.1))) hb); have n2_ := Aside0.mk (blk_below (g := gb177) (o := .cells #[.bool false, .int .i64 0, .int .i64 0, .int .i64 0, .int .i64 0, .int .i64 0, .int .i64 0] 25 (0, 0)) (by (with_reducible repeat refine bu ?_); refine blk_far ?_ NB177_198.out _; (with_reducible repeat refine bu ?_); refine blk_far ?_ NB177_198.out _; (with_reducible repeat refine bu ?_); refine blk_far ?_ NB177_198.out _; (with_reducible repeat refine bu ?_); refine blk_far ?_ NB177_198.out _; (with_reducible repeat refine bu ?_); refine blk_far ?_ NB177_198.out _; (with_reducible repeat refine bu ?_); refine blk_far ?_ NB177_198.out _; (with_reducible repeat refine bu ?_); refine blk_far ?_ NB177_198.out _; (with_reducible repeat refine bu ?_); exact BK177.out) hb); have n3_ := Aside0.mk (blk_below (g := gb198) (o := .cells #[.bool ((rdOf ByteArray.empty t178 0).toList == ([97, 108, 108, 111, 119] : List UInt8)), .int .i64 (rd x5_2 0), .int .i64 (rd x5_2 1), .int .i64 (rd x5_2 2), .int .i64 (rd x5_2 3), .int .i64 (rd x5_2 4), .int .i64 (rd x5_2 5)] 25 (0, 0)) (by (with_reducible repeat refine bu ?_); refine blk_put (cs := #[.bool ((rdOf ByteArray.empty t178 0).toList == ([97, 108, 108, 111, 119] : List UInt8)), .int .i64 (rd x5_2 0), .int .i64 (rd x5_2 1), .int .i64 (rd x5_2 2), .int .i64 (rd x5_2 3), .int .i64 (rd x5_2 4), .int .i64 0]) ?_ 6 _ rfl; (with_reducible repeat refine bu ?_); refine blk_put (cs := #[.bool ((rdOf ByteArray.empty t178 0).toList == ([97, 108, 108, 111, 119] : List UInt8)), .int .i64 (rd x5_2 0), .int .i64 (rd x5_2 1), .int .i64 (rd x5_2 2), .int .i64 (rd x5_2 3), .int .i64 0, .int .i64 0]) ?_ 5 _ rfl; (with_reducible repeat refine bu ?_); refine blk_put (cs := #[.bool ((rdOf ByteArray.empty t178 0).toList == ([97, 108, 108, 111, 119] : List UInt8)), .int .i64 (rd x5_2 0), .int .i64 (rd x5_2 1), .int .i64 (rd x5_2 2), .int .i64 0, .int .i64 0, .int .i64 0]) ?_ 4 _ rfl; (with_reducible repeat refine bu ?_); refine blk_put (cs := #[.bool ((rdOf ByteArray.empty t178 0).toList == ([97, 108, 108, 111, 119] : List UInt8)), .int .i64 (rd x5_2 0), .int .i64 (rd x5_2 1), .int .i64 0, .int .i64 0, .int .i64 0, .int .i64 0]) ?_ 3 _ rfl; (with_reducible repeat refine bu ?_); refine blk_put (cs := #[.bool ((rdOf ByteArray.empty t178 0).toList == ([97, 108, 108, 111, 119] : List UInt8)), .int .i64 (rd x5_2 0), .int .i64 0, .int .i64 0, .int .i64 0, .int .i64 0, .int .i64 0]) ?_ 2 _ rfl; (with_reducible repeat refine bu ?_); refine blk_put (cs := #[.bool ((rdOf ByteArray.empty t178 0).toList == ([97, 108, 108, 111, 119] : List UInt8)), .int .i64 0, .int .i64 0, .int .i64 0, .int .i64 0, .int .i64 0, .int .i64 0]) ?_ 1 _ rfl; (with_reducible repeat refine bu ?_); refine blk_put (cs := #[.bool false, .int .i64 0, .int .i64 0, .int .i64 0, .int .i64 0, .int .i64 0, .int .i64 0]) ?_ 0 _ rfl; (with_reducible repeat refine bu ?_); exact BK198.out) hb); have n4_ := Aside0.mk (below_step (bl HB) hb); clear HO_4; clear HO_5; clear BK177; clear BK198; clear HB; have HO_4 := n0_; have HO_5 := n1_; have BK177 := n2_; have BK198 := n3_; have HB := n4_; clear n0_ n1_ n2_ n3_ n4_; (try clear hb); (try clear hb2); (try clear hk); (try clear hi); have hcz47_0 : w46.cell? ⟨gb198, 0, none⟩ = some (.bool ((rdOf ByteArray.empty t178 0).toList == ([97, 108, 108, 111, 119] : List UInt8))) := (blk_cell BK198.out 0).trans rfl; have hcz47_1 : w46.cell? ⟨gb198, 1, none⟩ = some (.int .i64 (rd x5_2 0)) := (blk_cell BK198.out 1).trans rfl; have hcz47_2 : w46.cell? ⟨gb198, 2, none⟩ = some (.int .i64 (rd x5_2 1)) := (blk_cell BK198.out 2).trans rfl; have hcz47_3 : w46.cell? ⟨gb198, 3, none⟩ = some (.int .i64 (rd x5_2 2)) := (blk_cell BK198.out 3).trans rfl; have hcz47_4 : w46.cell? ⟨gb198, 4, none⟩ = some (.int .i64 (rd x5_2 3)) := (blk_cell BK198.out 4).trans rfl; have hcz47_5 : w46.cell? ⟨gb198, 5, none⟩ = some (.int .i64 (rd x5_2 4)) := (blk_cell BK198.out 5).trans rfl; have hcz47_6 : w46.cell? ⟨gb198, 6, none⟩ = some (.int .i64 (rd x5_2 5)) := (blk_cell BK198.out 6).trans rfl; have hfz47_0 := blk_frozen BK198.out 0; have hfz47_1 := blk_frozen BK198.out 1; have hfz47_2 := blk_frozen BK198.out 2; have hfz47_3 := blk_frozen BK198.out 3; have hfz47_4 := blk_frozen BK198.out 4; have hfz47_5 := blk_frozen BK198.out 5; have hfz47_6 := blk_frozen BK198.out 6; have hcz48_0 : w46.cell? ⟨gb177, 0, none⟩ = some (.bool false) := (blk_cell BK177.out 0).trans rfl; have hcz48_1 : w46.cell? ⟨gb177, 1, none⟩ = some (.int .i64 0) := (blk_cell BK177.out 1).trans rfl; have hcz48_2 : w46.cell? ⟨gb177, 2, none⟩ = some (.int .i64 0) := (blk_cell BK177.out 2).trans rfl; have hcz48_3 : w46.cell? ⟨gb177, 3, none⟩ = some (.int .i64 0) := (blk_cell BK177.out 3).trans rfl; have hcz48_4 : w46.cell? ⟨gb177, 4, none⟩ = some (.int .i64 0) := (blk_cell BK177.out 4).trans rfl; have hcz48_5 : w46.cell? ⟨gb177, 5, none⟩ = some (.int .i64 0) := (blk_cell BK177.out 5).trans rfl; have hcz48_6 : w46.cell? ⟨gb177, 6, none⟩ = some (.int .i64 0) := (blk_cell BK177.out 6).trans rfl; have hfz48_0 := blk_frozen BK177.out 0; have hfz48_1 := blk_frozen BK177.out 1; have hfz48_2 := blk_frozen BK177.out 2; have hfz48_3 := blk_frozen BK177.out 3; have hfz48_4 := blk_frozen BK177.out 4; have hfz48_5 := blk_frozen BK177.out 5; have hfz48_6 := blk_frozen BK177.out 6))
                              refine bodyPost_ret (results_ct rfl _ _ gb177 25 #[.bool ((rdOf ByteArray.empty t178 0).toList == ([97, 108, 108, 111, 119] : List UInt8)), .int .i64 (rd x5_2 0), .int .i64 (rd x5_2 1), .int .i64 (rd x5_2 2), .int .i64 (rd x5_2 3), .int .i64 (rd x5_2 4), .int .i64 (rd x5_2 5)] (0, 0) _ rfl (by (with_reducible repeat refine bu ?_); refine blk_put (cs := #[.bool ((rdOf ByteArray.empty t178 0).toList == ([97, 108, 108, 111, 119] : List UInt8)), .int .i64 (rd x5_2 0), .int .i64 (rd x5_2 1), .int .i64 (rd x5_2 2), .int .i64 (rd x5_2 3), .int .i64 (rd x5_2 4), .int .i64 0]) ?_ 6 _ rfl; (with_reducible repeat refine bu ?_); refine blk_put (cs := #[.bool ((rdOf ByteArray.empty t178 0).toList == ([97, 108, 108, 111, 119] : List UInt8)), .int .i64 (rd x5_2 0), .int .i64 (rd x5_2 1), .int .i64 (rd x5_2 2), .int .i64 (rd x5_2 3), .int .i64 0, .int .i64 0]) ?_ 5 _ rfl; (with_reducible repeat refine bu ?_); refine blk_put (cs := #[.bool ((rdOf ByteArray.empty t178 0).toList == ([97, 108, 108, 111, 119] : List UInt8)), .int .i64 (rd x5_2 0), .int .i64 (rd x5_2 1), .int .i64 (rd x5_2 2), .int .i64 0, .int .i64 0, .int .i64 0]) ?_ 4 _ rfl; (with_reducible repeat refine bu ?_); refine blk_put (cs := #[.bool ((rdOf ByteArray.empty t178 0).toList == ([97, 108, 108, 111, 119] : List UInt8)), .int .i64 (rd x5_2 0), .int .i64 (rd x5_2 1), .int .i64 0, .int .i64 0, .int .i64 0, .int .i64 0]) ?_ 3 _ rfl; (with_reducible repeat refine bu ?_); refine blk_put (cs := #[.bool ((rdOf ByteArray.empty t178 0).toList == ([97, 108, 108, 111, 119] : List UInt8)), .int .i64 (rd x5_2 0), .int .i64 0, .int .i64 0, .int .i64 0, .int .i64 0, .int .i64 0]) ?_ 2 _ rfl; (with_reducible repeat refine bu ?_); refine blk_put (cs := #[.bool ((rdOf ByteArray.empty t178 0).toList == ([97, 108, 108, 111, 119] : List UInt8)), .int .i64 0, .int .i64 0, .int .i64 0, .int .i64 0, .int .i64 0, .int .i64 0]) ?_ 1 _ rfl; (with_reducible repeat refine bu ?_); refine blk_put (cs := #[.bool false, .int .i64 0, .int .i64 0, .int .i64 0, .int .i64 0, .int .i64 0, .int .i64 0]) ?_ 0 _ rfl; (with_reducible repeat refine bu ?_); exact BK177.out) Tryd.underlying25 rfl (by kernel_rfl)) rfl ?_
                              exact ⟨by first | rfl | (simp [errW_none, errW_some] <;> rfl) | (simp [*, errW_none, errW_some] <;> rfl), by repeat (first | (with_reducible first | exact HB.out | apply below_alloc | apply pw_below_drewN | apply below_drew1 | refine below_set ?_ GE177.out | refine below_set ?_ GE198.out) | exact HB.out)⟩
                            · replace c32 := Bool.eq_false_iff.mpr c32
                              subst c32
                              have H1 : (some (false, 0, 0, 0, 0, 0, 0, false)) = some (r1, r2, r3, r4, r5, r6, r7, r8) := by rw [if_neg (show ¬ (false = true) by decide)] at H; exact H
                              clear H
                              have H := H1
                              clear H1
                              simp only [Option.some.injEq, Prod.mk.injEq] at H
                              obtain ⟨rfl, rfl, rfl, rfl, rfl, rfl, rfl, rfl⟩ := H
                              try go_wp2
                              have n0_ := Aside0.mk (Kd.R_drew HO_4.out)
                              have n1_ := Aside0.mk (Kd.R_drew HO_5.out)
                              have n2_ := Aside0.mk (blk_drew BK177.out)
                              have n3_ := Aside0.mk (below_drew1 HB.out)
                              clear HO_4
                              clear HO_5
                              clear BK177
                              clear HB
                              have HO_4 := n0_
                              have HO_5 := n1_
                              have BK177 := n2_
                              have HB := n3_
                              clear n0_ n1_ n2_ n3_
                              obtain ⟨Ao50, co50, eo50⟩ := Kd.R_slice HO_4.out
                              (first | subst eo50 | (injection eo50 with f1_ f2_ f3_; have f4_ := f1_.symm; have f5_ := f3_.symm; clear f1_ f2_ f3_; subst f4_; subst f5_))
                              have p191 : 0 ≤ (0 : Int) := (by omega)
                              have q191 : 0 < (t178.length : Int) := of_decide_eq_true (by first | (with_reducible assumption) | assumption)
                              obtain ⟨ad191, e191, hx191_0⟩ := Kd.at_string (Kd.R_reads' HO_4.out).2.2 0 p191 q191
                              cases e191
                              have qi191 : (0 < t178.length) = True := eq_true (by omega)
                              (try rw [show ((0 : Int)).toNat = 0 from rfl] at hx191_0)
                              (try rw [Addr.add_zero'] at hx191_0)
                              replace p191 := eq_true p191
                              replace q191 := eq_true q191
                              obtain ⟨Ao51, co51, eo51⟩ := Kd.R_slice HO_5.out
                              (first | subst eo51 | (injection eo51 with f1_ f2_ f3_; have f4_ := f1_.symm; have f5_ := f3_.symm; clear f1_ f2_ f3_; subst f4_; subst f5_))
                              have p192 : 0 ≤ (0 : Int) := (by omega)
                              have q192 : 0 < (x5_2.length : Int) := of_decide_eq_true (by first | (with_reducible assumption) | assumption)
                              obtain ⟨ad192, e192, hx192_0⟩ := Kd.at_int (Kd.R_reads' HO_5.out).2.2 0 p192 q192
                              cases e192
                              have qi192 : (0 < x5_2.length) = True := eq_true (by omega)
                              (try rw [show ((0 : Int)).toNat = 0 from rfl] at hx192_0)
                              (try rw [Addr.add_zero'] at hx192_0)
                              replace p192 := eq_true p192
                              replace q192 := eq_true q192
                              have p193 : 0 ≤ (1 : Int) := (by omega)
                              have q193 : 1 < (x5_2.length : Int) := of_decide_eq_true (by first | (with_reducible assumption) | assumption)
                              obtain ⟨ad193, e193, hx193_0⟩ := Kd.at_int (Kd.R_reads' HO_5.out).2.2 1 p193 q193
                              obtain rfl : ad192 = ad193 := (by injection e193)
                              (try simp only [show (1 : Int).toNat = 1 from rfl, Nat.reduceMul, Nat.reduceEqDiff, Go.Addr.add, ↓reduceIte] at hx193_0)
                              have qi193 : (1 < x5_2.length) = True := eq_true (by omega)
                              (try rw [show ((1 : Int)).toNat = 1 from rfl] at hx193_0)
                              replace p193 := eq_true p193
                              replace q193 := eq_true q193
                              have p194 : 0 ≤ (2 : Int) := (by omega)
                              have q194 : 2 < (x5_2.length : Int) := of_decide_eq_true (by first | (with_reducible assumption) | assumption)
                              obtain ⟨ad194, e194, hx194_0⟩ := Kd.at_int (Kd.R_reads' HO_5.out).2.2 2 p194 q194
                              obtain rfl : ad192 = ad194 := (by injection e194)
                              (try simp only [show (2 : Int).toNat = 2 from rfl, Nat.reduceMul, Nat.reduceEqDiff, Go.Addr.add, ↓reduceIte] at hx194_0)
                              have qi194 : (2 < x5_2.length) = True := eq_true (by omega)
                              (try rw [show ((2 : Int)).toNat = 2 from rfl] at hx194_0)
                              replace p194 := eq_true p194
                              replace q194 := eq_true q194
                              have p195 : 0 ≤ (3 : Int) := (by omega)
                              have q195 : 3 < (x5_2.length : Int) := of_decide_eq_true (by first | (with_reducible assumption) | assumption)
                              obtain ⟨ad195, e195, hx195_0⟩ := Kd.at_int (Kd.R_reads' HO_5.out).2.2 3 p195 q195
                              obtain rfl : ad192 = ad195 := (by injection e195)
                              (try simp only [show (3 : Int).toNat = 3 from rfl, Nat.reduceMul, Nat.reduceEqDiff, Go.Addr.add, ↓reduceIte] at hx195_0)
                              have qi195 : (3 < x5_2.length) = True := eq_true (by omega)
                              (try rw [show ((3 : Int)).toNat = 3 from rfl] at hx195_0)
                              replace p195 := eq_true p195
                              replace q195 := eq_true q195
                              have p196 : 0 ≤ (4 : Int) := (by omega)
                              have q196 : 4 < (x5_2.length : Int) := of_decide_eq_true (by first | (with_reducible assumption) | assumption)
                              obtain ⟨ad196, e196, hx196_0⟩ := Kd.at_int (Kd.R_reads' HO_5.out).2.2 4 p196 q196
                              obtain rfl : ad192 = ad196 := (by injection e196)
                              (try simp only [show (4 : Int).toNat = 4 from rfl, Nat.reduceMul, Nat.reduceEqDiff, Go.Addr.add, ↓reduceIte] at hx196_0)
                              have qi196 : (4 < x5_2.length) = True := eq_true (by omega)
                              (try rw [show ((4 : Int)).toNat = 4 from rfl] at hx196_0)
                              replace p196 := eq_true p196
                              replace q196 := eq_true q196
                              have p197 : 0 ≤ (5 : Int) := (by omega)
                              have q197 : 5 < (x5_2.length : Int) := of_decide_eq_true (by first | (with_reducible assumption) | assumption)
                              obtain ⟨ad197, e197, hx197_0⟩ := Kd.at_int (Kd.R_reads' HO_5.out).2.2 5 p197 q197
                              obtain rfl : ad192 = ad197 := (by injection e197)
                              (try simp only [show (5 : Int).toNat = 5 from rfl, Nat.reduceMul, Nat.reduceEqDiff, Go.Addr.add, ↓reduceIte] at hx197_0)
                              have qi197 : (5 < x5_2.length) = True := eq_true (by omega)
                              (try rw [show ((5 : Int)).toNat = 5 from rfl] at hx197_0)
                              replace p197 := eq_true p197
                              replace q197 := eq_true q197
                              refine start_ (n := 25) (S := fun w' => w'.cell? ad191 = some (.string (rdOf ByteArray.empty t178 0)) ∧ w'.cell? ad192 = some (.int .i64 (rd x5_2 0)) ∧ w'.cell? ⟨ad192.block, ad192.off + 1, none⟩ = some (.int .i64 (rd x5_2 1)) ∧ w'.cell? ⟨ad192.block, ad192.off + 2, none⟩ = some (.int .i64 (rd x5_2 2)) ∧ w'.cell? ⟨ad192.block, ad192.off + 3, none⟩ = some (.int .i64 (rd x5_2 3)) ∧ w'.cell? ⟨ad192.block, ad192.off + 4, none⟩ = some (.int .i64 (rd x5_2 4)) ∧ w'.cell? ⟨ad192.block, ad192.off + 5, none⟩ = some (.int .i64 (rd x5_2 5))) (ds := []) #[false, false, false, false, false, false, false, false, false, false, false, false, false, false, false, false, false, false, false, false, false, false, false, false, false] (by kernel_rfl) rfl rfl ⟨hx191_0, hx192_0, hx193_0, hx194_0, hx195_0, hx196_0, hx197_0⟩ (fun hHeld => ?_); refine with_tabW spec_RulRead.tab9 spec_RulRead.bits9 (fun HT_ HW_ => ?_)
                              generalize wr.drew = w49 at HO_4 HO_5 BK177 HB hx191_0 hx192_0 hx193_0 hx194_0 hx195_0 hx196_0 hx197_0 hHeld ⊢
                              refine pure_ (i := 0) (N := some 39) (v := ?_) (a' := ?_) #[true, false, false, false, false, false, false, false, false, false, false, false, false, false, false, false, false, false, false, false, false, false, false, false, false] rfl rfl (any_of HT_.out (by kernel_rfl)) (fun _ _ _ h => h) (Or.inl ⟨by rfl, ?_⟩) ?_ ?_
                              rotate_left
                              · intro w'
                                go_simp
                                with_reducible rfl
                              rotate_left
                              · simp only [Act.put, List.setIfInBounds_toArray, List.set_cons_zero, List.set_cons_succ, i64_w, i32_w]
                                rfl
                              refine pure_ (i := 1) (N := some 40) (v := ?_) (a' := ?_) #[true, true, false, false, false, false, false, false, false, false, false, false, false, false, false, false, false, false, false, false, false, false, false, false, false] rfl rfl (any_of HT_.out (by kernel_rfl)) (fun _ _ _ h => h) (Or.inl ⟨by rfl, ?_⟩) ?_ ?_
                              rotate_left
                              · intro w'
                                go_simp
                                with_reducible rfl
                              rotate_left
                              · simp only [Act.put, List.setIfInBounds_toArray, List.set_cons_zero, List.set_cons_succ, i64_w, i32_w]
                                rfl
                              refine pure_ (i := 4) (N := some 43) (v := ?_) (a' := ?_) #[true, true, false, false, true, false, false, false, false, false, false, false, false, false, false, false, false, false, false, false, false, false, false, false, false] rfl rfl (any_of HT_.out (by kernel_rfl)) (fun _ _ _ h => h) (Or.inl ⟨by rfl, ?_⟩) ?_ ?_
                              rotate_left
                              · intro w'
                                go_simp
                                with_reducible rfl
                              rotate_left
                              · simp only [Act.put, List.setIfInBounds_toArray, List.set_cons_zero, List.set_cons_succ, i64_w, i32_w]
                                rfl
                              refine pure_ (i := 5) (N := some 44) (v := ?_) (a' := ?_) #[true, true, false, false, true, true, false, false, false, false, false, false, false, false, false, false, false, false, false, false, false, false, false, false, false] rfl rfl (any_of HT_.out (by kernel_rfl)) (fun _ _ _ h => h) (Or.inl ⟨by rfl, ?_⟩) ?_ ?_
                              rotate_left
                              · intro w'
                                go_simp
                                with_reducible rfl
                              rotate_left
                              · simp only [Act.put, List.setIfInBounds_toArray, List.set_cons_zero, List.set_cons_succ, i64_w, i32_w]
                                rfl
                              refine pure_ (i := 7) (N := some 46) (v := ?_) (a' := ?_) #[true, true, false, false, true, true, false, true, false, false, false, false, false, false, false, false, false, false, false, false, false, false, false, false, false] rfl rfl (any_of HT_.out (by kernel_rfl)) (fun _ _ _ h => h) (Or.inl ⟨by rfl, ?_⟩) ?_ ?_
                              rotate_left
                              · intro w'
                                go_simp
                                with_reducible rfl
                              rotate_left
                              · simp only [Act.put, List.setIfInBounds_toArray, List.set_cons_zero, List.set_cons_succ, i64_w, i32_w]
                                rfl
                              refine pure_ (i := 8) (N := some 47) (v := ?_) (a' := ?_) #[true, true, false, false, true, true, false, true, true, false, false, false, false, false, false, false, false, false, false, false, false, false, false, false, false] rfl rfl (any_of HT_.out (by kernel_rfl)) (fun _ _ _ h => h) (Or.inl ⟨by rfl, ?_⟩) ?_ ?_
                              rotate_left
                              · intro w'
                                go_simp
                                with_reducible rfl
                              rotate_left
                              · simp only [Act.put, List.setIfInBounds_toArray, List.set_cons_zero, List.set_cons_succ, i64_w, i32_w]
                                rfl
                              refine pure_ (i := 10) (N := some 49) (v := ?_) (a' := ?_) #[true, true, false, false, true, true, false, true, true, false, true, false, false, false, false, false, false, false, false, false, false, false, false, false, false] rfl rfl (any_of HT_.out (by kernel_rfl)) (fun _ _ _ h => h) (Or.inl ⟨by rfl, ?_⟩) ?_ ?_
                              rotate_left
                              · intro w'
                                go_simp
                                with_reducible rfl
                              rotate_left
                              · simp only [Act.put, List.setIfInBounds_toArray, List.set_cons_zero, List.set_cons_succ, i64_w, i32_w]
                                rfl
                              refine pure_ (i := 11) (N := some 50) (v := ?_) (a' := ?_) #[true, true, false, false, true, true, false, true, true, false, true, true, false, false, false, false, false, false, false, false, false, false, false, false, false] rfl rfl (any_of HT_.out (by kernel_rfl)) (fun _ _ _ h => h) (Or.inl ⟨by rfl, ?_⟩) ?_ ?_
                              rotate_left
                              · intro w'
                                go_simp
                                with_reducible rfl
                              rotate_left
                              · simp only [Act.put, List.setIfInBounds_toArray, List.set_cons_zero, List.set_cons_succ, i64_w, i32_w]
                                rfl
                              refine pure_ (i := 13) (N := some 52) (v := ?_) (a' := ?_) #[true, true, false, false, true, true, false, true, true, false, true, true, false, true, false, false, false, false, false, false, false, false, false, false, false] rfl rfl (any_of HT_.out (by kernel_rfl)) (fun _ _ _ h => h) (Or.inl ⟨by rfl, ?_⟩) ?_ ?_
                              rotate_left
                              · intro w'
                                go_simp
                                with_reducible rfl
                              rotate_left
                              · simp only [Act.put, List.setIfInBounds_toArray, List.set_cons_zero, List.set_cons_succ, i64_w, i32_w]
                                rfl
                              refine pure_ (i := 14) (N := some 53) (v := ?_) (a' := ?_) #[true, true, false, false, true, true, false, true, true, false, true, true, false, true, true, false, false, false, false, false, false, false, false, false, false] rfl rfl (any_of HT_.out (by kernel_rfl)) (fun _ _ _ h => h) (Or.inl ⟨by rfl, ?_⟩) ?_ ?_
                              rotate_left
                              · intro w'
                                go_simp
                                with_reducible rfl
                              rotate_left
                              · simp only [Act.put, List.setIfInBounds_toArray, List.set_cons_zero, List.set_cons_succ, i64_w, i32_w]
                                rfl
                              refine pure_ (i := 16) (N := some 55) (v := ?_) (a' := ?_) #[true, true, false, false, true, true, false, true, true, false, true, true, false, true, true, false, true, false, false, false, false, false, false, false, false] rfl rfl (any_of HT_.out (by kernel_rfl)) (fun _ _ _ h => h) (Or.inl ⟨by rfl, ?_⟩) ?_ ?_
                              rotate_left
                              · intro w'
                                go_simp
                                with_reducible rfl
                              rotate_left
                              · simp only [Act.put, List.setIfInBounds_toArray, List.set_cons_zero, List.set_cons_succ, i64_w, i32_w]
                                rfl
                              refine pure_ (i := 17) (N := some 56) (v := ?_) (a' := ?_) #[true, true, false, false, true, true, false, true, true, false, true, true, false, true, true, false, true, true, false, false, false, false, false, false, false] rfl rfl (any_of HT_.out (by kernel_rfl)) (fun _ _ _ h => h) (Or.inl ⟨by rfl, ?_⟩) ?_ ?_
                              rotate_left
                              · intro w'
                                go_simp
                                with_reducible rfl
                              rotate_left
                              · simp only [Act.put, List.setIfInBounds_toArray, List.set_cons_zero, List.set_cons_succ, i64_w, i32_w]
                                rfl
                              refine pure_ (i := 19) (N := some 58) (v := ?_) (a' := ?_) #[true, true, false, false, true, true, false, true, true, false, true, true, false, true, true, false, true, true, false, true, false, false, false, false, false] rfl rfl (any_of HT_.out (by kernel_rfl)) (fun _ _ _ h => h) (Or.inl ⟨by rfl, ?_⟩) ?_ ?_
                              rotate_left
                              · intro w'
                                go_simp
                                with_reducible rfl
                              rotate_left
                              · simp only [Act.put, List.setIfInBounds_toArray, List.set_cons_zero, List.set_cons_succ, i64_w, i32_w]
                                rfl
                              refine pure_ (i := 20) (N := some 59) (v := ?_) (a' := ?_) #[true, true, false, false, true, true, false, true, true, false, true, true, false, true, true, false, true, true, false, true, true, false, false, false, false] rfl rfl (any_of HT_.out (by kernel_rfl)) (fun _ _ _ h => h) (Or.inl ⟨by rfl, ?_⟩) ?_ ?_
                              rotate_left
                              · intro w'
                                go_simp
                                with_reducible rfl
                              rotate_left
                              · simp only [Act.put, List.setIfInBounds_toArray, List.set_cons_zero, List.set_cons_succ, i64_w, i32_w]
                                rfl
                              refine take_ (i := 2) (N := some 41) (v := ?_) (a' := ?_) #[true, true, true, false, true, true, false, true, true, false, true, true, false, true, true, false, true, true, false, true, true, false, false, false, false] rfl rfl (take_ofW HT_.out HW_.out (by kernel_rfl)) (fun _ _ _ h => h) (Or.inl ⟨by rfl, ?_⟩) hHeld ?_ ?_
                              rotate_left
                              · rintro w' ⟨s0, s1, s2, s3, s4, s5, s6⟩
                                go_simp
                                with_reducible rfl
                              rotate_left
                              · simp only [Act.put, List.setIfInBounds_toArray, List.set_cons_zero, List.set_cons_succ, i64_w, i32_w]
                                rfl
                              refine pure_ (i := 3) (N := some 42) (v := ?_) (a' := ?_) #[true, true, true, true, true, true, false, true, true, false, true, true, false, true, true, false, true, true, false, true, true, false, false, false, false] rfl rfl (any_of HT_.out (by kernel_rfl)) (fun _ _ _ h => h) (Or.inl ⟨by rfl, ?_⟩) ?_ ?_
                              rotate_left
                              · intro w'
                                go_simp
                                with_reducible rfl
                              rotate_left
                              · simp only [Act.put, List.setIfInBounds_toArray, List.set_cons_zero, List.set_cons_succ, i64_w, i32_w]
                                rfl
                              refine take_ (i := 6) (N := some 45) (v := ?_) (a' := ?_) #[true, true, true, true, true, true, true, true, true, false, true, true, false, true, true, false, true, true, false, true, true, false, false, false, false] rfl rfl (take_ofW HT_.out HW_.out (by kernel_rfl)) (fun _ _ _ h => h) (Or.inl ⟨by rfl, ?_⟩) hHeld ?_ ?_
                              rotate_left
                              · rintro w' ⟨s0, s1, s2, s3, s4, s5, s6⟩
                                go_simp
                                with_reducible rfl
                              rotate_left
                              · simp only [Act.put, List.setIfInBounds_toArray, List.set_cons_zero, List.set_cons_succ, i64_w, i32_w]
                                rfl
                              refine take_ (i := 9) (N := some 48) (v := ?_) (a' := ?_) #[true, true, true, true, true, true, true, true, true, true, true, true, false, true, true, false, true, true, false, true, true, false, false, false, false] rfl rfl (take_ofW HT_.out HW_.out (by kernel_rfl)) (fun _ _ _ h => h) (Or.inl ⟨by rfl, ?_⟩) hHeld ?_ ?_
                              rotate_left
                              · rintro w' ⟨s0, s1, s2, s3, s4, s5, s6⟩
                                go_simp
                                with_reducible rfl
                              rotate_left
                              · simp only [Act.put, List.setIfInBounds_toArray, List.set_cons_zero, List.set_cons_succ, i64_w, i32_w]
                                rfl
                              refine take_ (i := 12) (N := some 51) (v := ?_) (a' := ?_) #[true, true, true, true, true, true, true, true, true, true, true, true, true, true, true, false, true, true, false, true, true, false, false, false, false] rfl rfl (take_ofW HT_.out HW_.out (by kernel_rfl)) (fun _ _ _ h => h) (Or.inl ⟨by rfl, ?_⟩) hHeld ?_ ?_
                              rotate_left
                              · rintro w' ⟨s0, s1, s2, s3, s4, s5, s6⟩
                                go_simp
                                with_reducible rfl
                              rotate_left
                              · simp only [Act.put, List.setIfInBounds_toArray, List.set_cons_zero, List.set_cons_succ, i64_w, i32_w]
                                rfl
                              refine take_ (i := 15) (N := some 54) (v := ?_) (a' := ?_) #[true, true, true, true, true, true, true, true, true, true, true, true, true, true, true, true, true, true, false, true, true, false, false, false, false] rfl rfl (take_ofW HT_.out HW_.out (by kernel_rfl)) (fun _ _ _ h => h) (Or.inl ⟨by rfl, ?_⟩) hHeld ?_ ?_
                              rotate_left
                              · rintro w' ⟨s0, s1, s2, s3, s4, s5, s6⟩
                                go_simp
                                with_reducible rfl
                              rotate_left
                              · simp only [Act.put, List.setIfInBounds_toArray, List.set_cons_zero, List.set_cons_succ, i64_w, i32_w]
                                rfl
                              refine take_ (i := 18) (N := some 57) (v := ?_) (a' := ?_) #[true, true, true, true, true, true, true, true, true, true, true, true, true, true, true, true, true, true, true, true, true, false, false, false, false] rfl rfl (take_ofW HT_.out HW_.out (by kernel_rfl)) (fun _ _ _ h => h) (Or.inl ⟨by rfl, ?_⟩) hHeld ?_ ?_
                              rotate_left
                              · rintro w' ⟨s0, s1, s2, s3, s4, s5, s6⟩
                                go_simp
                                with_reducible rfl
                              rotate_left
                              · simp only [Act.put, List.setIfInBounds_toArray, List.set_cons_zero, List.set_cons_succ, i64_w, i32_w]
                                rfl
                              refine take_ (i := 21) (N := some 60) (v := ?_) (a' := ?_) #[true, true, true, true, true, true, true, true, true, true, true, true, true, true, true, true, true, true, true, true, true, true, false, false, false] rfl rfl (take_ofW HT_.out HW_.out (by kernel_rfl)) (fun _ _ _ h => h) (Or.inl ⟨by rfl, ?_⟩) hHeld ?_ ?_
                              rotate_left
                              · rintro w' ⟨s0, s1, s2, s3, s4, s5, s6⟩
                                go_simp
                                with_reducible rfl
                              rotate_left
                              · simp only [Act.put, List.setIfInBounds_toArray, List.set_cons_zero, List.set_cons_succ, i64_w, i32_w]
                                rfl
                              refine pure_ (i := 22) (N := some 61) (v := ?_) (a' := ?_) #[true, true, true, true, true, true, true, true, true, true, true, true, true, true, true, true, true, true, true, true, true, true, true, false, false] rfl rfl (any_of HT_.out (by kernel_rfl)) (fun _ _ _ h => h) (Or.inl ⟨by rfl, ?_⟩) ?_ ?_
                              rotate_left
                              · intro w'
                                go_simp
                                with_reducible rfl
                              rotate_left
                              · simp only [Act.put, List.setIfInBounds_toArray, List.set_cons_zero, List.set_cons_succ, i64_w, i32_w]
                                rfl
                              refine one_ (i := 23) (N := some 7) #[true, true, true, true, true, true, true, true, true, true, true, true, true, true, true, true, true, true, true, true, true, true, true, true, false] rfl rfl (one_of HT_.out (by kernel_rfl)) (by decide) (fun K hK => ?_)
                              refine box_step ?hg (N := 7) ?hd (cs := #[.bool false, .int .i64 0, .int .i64 0, .int .i64 0, .int .i64 0, .int .i64 0, .int .i64 0]) (t := 25) ?hr ?_; (case hd => rfl); (case hg => rfl); (case hr => first | (go_simp; done) | (go_simp; rfl))
                              intro gb198 hg w52 hbox hb
                              have HS0_ := (hb.cell (World.block_lt_of_cell? _ _ (hHeld.1))).trans (hHeld.1)
                              have HS1_ := (hb.cell (World.block_lt_of_cell? _ _ (hHeld.2.1))).trans (hHeld.2.1)
                              have HS2_ := (hb.cell (World.block_lt_of_cell? _ _ (hHeld.2.2.1))).trans (hHeld.2.2.1)
                              have HS3_ := (hb.cell (World.block_lt_of_cell? _ _ (hHeld.2.2.2.1))).trans (hHeld.2.2.2.1)
                              have HS4_ := (hb.cell (World.block_lt_of_cell? _ _ (hHeld.2.2.2.2.1))).trans (hHeld.2.2.2.2.1)
                              have HS5_ := (hb.cell (World.block_lt_of_cell? _ _ (hHeld.2.2.2.2.2.1))).trans (hHeld.2.2.2.2.2.1)
                              have HS6_ := (hb.cell (World.block_lt_of_cell? _ _ (hHeld.2.2.2.2.2.2))).trans (hHeld.2.2.2.2.2.2)
                              have n0_ := Aside0.mk (Kd.R_below (rs HO_4) hb)
                              have n1_ := Aside0.mk (Kd.R_below (rs HO_5) hb)
                              have n2_ := bkB BK177 hb
                              have n3_ := Aside0.mk (below_step (bl HB) hb)
                              have n4_ := Aside0.mk (hbox)
                              have n5_ := Aside0.mk ((by rw [hg]; exact (below_size (bl HB)) : w.heap.size ≤ gb198))
                              have n6_ := Aside0.mk ((by rw [hg]; exact (below_size (bl HB)) : w.heap.size ≤ gb198))
                              have n7_ := Aside0.mk ((by rw [hg]; exact Nat.ne_of_lt (bkL BK177) : gb177 ≠ gb198))
                              have n8_ := Aside0.mk ((by rw [hg]; exact Nat.ne_of_gt (bkL BK177) : gb198 ≠ gb177))
                              clear HO_4
                              clear HO_5
                              clear BK177
                              clear HB
                              have HO_4 := n0_
                              have HO_5 := n1_
                              have BK177 := n2_
                              have HB := n3_
                              have BK198 := n4_
                              have GW198 := n5_
                              have GE198 := n6_
                              have NB177_198 := n7_
                              have NB198_177 := n8_
                              clear n0_ n1_ n2_ n3_ n4_ n5_ n6_ n7_ n8_
                              clear hb hbox hg
                              refine hK.out _ _ ⟨HS0_, HS1_, HS2_, HS3_, HS4_, HS5_, HS6_⟩ (fun hHeld => ?_)
                              clear hK K
                              refine norm_ (a' := ?_) ?_ ?_
                              rotate_left
                              · show Act.put _ (some 7) _ = _
                                simp only [Act.put, List.setIfInBounds_toArray, List.set_cons_zero, List.set_cons_succ, i64_w, i32_w]
                                rfl
                              refine one_ (i := 24) (N := none) #[true, true, true, true, true, true, true, true, true, true, true, true, true, true, true, true, true, true, true, true, true, true, true, true, true] rfl rfl (one_of HT_.out (by kernel_rfl)) (by decide) (fun K hK => ?_)
                              have hs53 : w52.cell? ⟨gb198, 0, none⟩ = some (.bool false) := (blk_cell BK198.out 0).trans rfl
                              have hfs53 := blk_frozen BK198.out 0
                              have hns53_0 := NB177_198.out
                              have hms53_0 := NB198_177.out
                              have hs54 : w52.cell? ⟨gb198, 1, none⟩ = some (.int .i64 0) := (blk_cell BK198.out 1).trans rfl
                              have hfs54 := blk_frozen BK198.out 1
                              have hns54_0 := NB177_198.out
                              have hms54_0 := NB198_177.out
                              have hs55 : w52.cell? ⟨gb198, 2, none⟩ = some (.int .i64 0) := (blk_cell BK198.out 2).trans rfl
                              have hfs55 := blk_frozen BK198.out 2
                              have hns55_0 := NB177_198.out
                              have hms55_0 := NB198_177.out
                              have hs56 : w52.cell? ⟨gb198, 3, none⟩ = some (.int .i64 0) := (blk_cell BK198.out 3).trans rfl
                              have hfs56 := blk_frozen BK198.out 3
                              have hns56_0 := NB177_198.out
                              have hms56_0 := NB198_177.out
                              have hs57 : w52.cell? ⟨gb198, 4, none⟩ = some (.int .i64 0) := (blk_cell BK198.out 4).trans rfl
                              have hfs57 := blk_frozen BK198.out 4
                              have hns57_0 := NB177_198.out
                              have hms57_0 := NB198_177.out
                              have hs58 : w52.cell? ⟨gb198, 5, none⟩ = some (.int .i64 0) := (blk_cell BK198.out 5).trans rfl
                              have hfs58 := blk_frozen BK198.out 5
                              have hns58_0 := NB177_198.out
                              have hms58_0 := NB198_177.out
                              have hs59 : w52.cell? ⟨gb198, 6, none⟩ = some (.int .i64 0) := (blk_cell BK198.out 6).trans rfl
                              have hfs59 := blk_frozen BK198.out 6
                              have hns59_0 := NB177_198.out
                              have hms59_0 := NB198_177.out
                              refine skip_ (w1 := ?_) (by rfl) rfl ?_ ?_
                              rotate_left
                              · go_simp
                                rfl
                              refine hK.out _ _ ⟨(farN (g := gb198) (Kd.own_blk (Kd.R_ne HO_4.out BK198.out (by decide))) (hHeld.1)), (farN (g := gb198) (Kd.own_blk (Kd.R_ne HO_5.out BK198.out (by decide))) (hHeld.2.1)), (farN (g := gb198) (Kd.own_blk (Kd.R_ne HO_5.out BK198.out (by decide))) (hHeld.2.2.1)), (farN (g := gb198) (Kd.own_blk (Kd.R_ne HO_5.out BK198.out (by decide))) (hHeld.2.2.2.1)), (farN (g := gb198) (Kd.own_blk (Kd.R_ne HO_5.out BK198.out (by decide))) (hHeld.2.2.2.2.1)), (farN (g := gb198) (Kd.own_blk (Kd.R_ne HO_5.out BK198.out (by decide))) (hHeld.2.2.2.2.2.1)), (farN (g := gb198) (Kd.own_blk (Kd.R_ne HO_5.out BK198.out (by decide))) (hHeld.2.2.2.2.2.2))⟩ (fun hHeld => ?_)
                              clear hK K
                              refine done_ (done_of HT_.out (by kernel_rfl)) ?_
                              have hnb60 := NB198_177.out
                              have hnc60 := NB177_198.out
                              have hcz61_0 : w52.cell? ⟨gb198, 0, none⟩ = some (.bool false) := (blk_cell BK198.out 0).trans rfl
                              have hcz61_1 : w52.cell? ⟨gb198, 1, none⟩ = some (.int .i64 0) := (blk_cell BK198.out 1).trans rfl
                              have hcz61_2 : w52.cell? ⟨gb198, 2, none⟩ = some (.int .i64 0) := (blk_cell BK198.out 2).trans rfl
                              have hcz61_3 : w52.cell? ⟨gb198, 3, none⟩ = some (.int .i64 0) := (blk_cell BK198.out 3).trans rfl
                              have hcz61_4 : w52.cell? ⟨gb198, 4, none⟩ = some (.int .i64 0) := (blk_cell BK198.out 4).trans rfl
                              have hcz61_5 : w52.cell? ⟨gb198, 5, none⟩ = some (.int .i64 0) := (blk_cell BK198.out 5).trans rfl
                              have hcz61_6 : w52.cell? ⟨gb198, 6, none⟩ = some (.int .i64 0) := (blk_cell BK198.out 6).trans rfl
                              have hfz61_0 := blk_frozen BK198.out 0
                              have hfz61_1 := blk_frozen BK198.out 1
                              have hfz61_2 := blk_frozen BK198.out 2
                              have hfz61_3 := blk_frozen BK198.out 3
                              have hfz61_4 := blk_frozen BK198.out 4
                              have hfz61_5 := blk_frozen BK198.out 5
                              have hfz61_6 := blk_frozen BK198.out 6
                              try go_wp2_with (first | ((with_reducible refine gate_callee (f := 15) rfl ?_); refine goesL_ (some 63) rfl rfl Tryd.func15 (by kernel_rfl) rfl #[.agg #[.bool ((rdOf ByteArray.empty t178 0).toList == ([97, 108, 108, 111, 119] : List UInt8)), .int .i64 (rd x5_2 0), .int .i64 (rd x5_2 1), .int .i64 (rd x5_2 2), .int .i64 (rd x5_2 3), .int .i64 (rd x5_2 4), .int .i64 (rd x5_2 5)]] rfl (by (try simp only [List.map_toArray, List.map_cons, List.map_nil]); first | done | rfl | (simp only [List.length_drop, List.length_take]; rfl)) ?_; (with_reducible refine (spec_RulOk.calls ((rdOf ByteArray.empty t178 0).toList == ([97, 108, 108, 111, 119] : List UInt8)) (rd x5_2 0) (rd x5_2 1) (rd x5_2 2) (rd x5_2 3) (rd x5_2 4) (rd x5_2 5) false _ A31.out).mono ?_); rintro e w62 ⟨rfl, hb⟩; refine ⟨_, rfl, ?_⟩; have n0_ := Aside0.mk (Kd.R_below (by (with_reducible repeat apply ru); exact (Kd.R_mono (Kd.R_far (p := ⟨gb198, 6, none⟩) (Kd.R_far (p := ⟨gb198, 5, none⟩) (Kd.R_far (p := ⟨gb198, 4, none⟩) (Kd.R_far (p := ⟨gb198, 3, none⟩) (Kd.R_far (p := ⟨gb198, 2, none⟩) (Kd.R_far (p := ⟨gb198, 1, none⟩) (Kd.R_far (p := ⟨gb198, 0, none⟩) (Kd.R_types HO_4.out BK198.out (by decide)) (fun _ hk => hk.2) (.bool ((rdOf ByteArray.empty t178 0).toList == ([97, 108, 108, 111, 119] : List UInt8)))) (fun _ hk => hk.2) (.int .i64 (rd x5_2 0))) (fun _ hk => hk.2) (.int .i64 (rd x5_2 1))) (fun _ hk => hk.2) (.int .i64 (rd x5_2 2))) (fun _ hk => hk.2) (.int .i64 (rd x5_2 3))) (fun _ hk => hk.2) (.int .i64 (rd x5_2 4))) (fun _ hk => hk.2) (.int .i64 (rd x5_2 5))) (fun _ h_ => h_.1))) hb); have n1_ := Aside0.mk (Kd.R_below (by (with_reducible repeat apply ru); exact (Kd.R_mono (Kd.R_far (p := ⟨gb198, 6, none⟩) (Kd.R_far (p := ⟨gb198, 5, none⟩) (Kd.R_far (p := ⟨gb198, 4, none⟩) (Kd.R_far (p := ⟨gb198, 3, none⟩) (Kd.R_far (p := ⟨gb198, 2, none⟩) (Kd.R_far (p := ⟨gb198, 1, none⟩) (Kd.R_far (p := ⟨gb198, 0, none⟩) (Kd.R_types HO_5.out BK198.out (by decide)) (fun _ hk => hk.2) (.bool ((rdOf ByteArray.empty t178 0).toList == ([97, 108, 108, 111, 119] : List UInt8)))) (fun _ hk => hk.2) (.int .i64 (rd x5_2 0))) (fun _ hk => hk.2) (.int .i64 (rd x5_2 1))) (fun _ hk => hk.2) (.int .i64 (rd x5_2 2))) (fun _ hk => hk.2) (.int .i64 (rd x5_2 3))) (fun _ hk => hk.2) (.int .i64 (rd x5_2 4))) (fun _ hk => hk.2) (.int .i64 (rd x5_2 5))) (fun _ h_ => h_.1))) hb); have n2_ := Aside0.mk (blk_below (g := gb177) (o := .cells #[.bool false, .int .i64 0, .int .i64 0, .int .i64 0, .int .i64 0, .int .i64 0, .int .i64 0] 25 (0, 0)) (by (with_reducible repeat refine bu ?_); refine blk_far ?_ NB177_198.out _; (with_reducible repeat refine bu ?_); refine blk_far ?_ NB177_198.out _; (with_reducible repeat refine bu ?_); refine blk_far ?_ NB177_198.out _; (with_reducible repeat refine bu ?_); refine blk_far ?_ NB177_198.out _; (with_reducible repeat refine bu ?_); refine blk_far ?_ NB177_198.out _; (with_reducible repeat refine bu ?_); refine blk_far ?_ NB177_198.out _; (with_reducible repeat refine bu ?_); refine blk_far ?_ NB177_198.out _; (with_reducible repeat refine bu ?_); exact BK177.out) hb); have n3_ := Aside0.mk (blk_below (g := gb198) (o := .cells #[.bool ((rdOf ByteArray.empty t178 0).toList == ([97, 108, 108, 111, 119] : List UInt8)), .int .i64 (rd x5_2 0), .int .i64 (rd x5_2 1), .int .i64 (rd x5_2 2), .int .i64 (rd x5_2 3), .int .i64 (rd x5_2 4), .int .i64 (rd x5_2 5)] 25 (0, 0)) (by (with_reducible repeat refine bu ?_); refine blk_put (cs := #[.bool ((rdOf ByteArray.empty t178 0).toList == ([97, 108, 108, 111, 119] : List UInt8)), .int .i64 (rd x5_2 0), .int .i64 (rd x5_2 1), .int .i64 (rd x5_2 2), .int .i64 (rd x5_2 3), .int .i64 (rd x5_2 4), .int .i64 0]) ?_ 6 _ rfl; (with_reducible repeat refine bu ?_); refine blk_put (cs := #[.bool ((rdOf ByteArray.empty t178 0).toList == ([97, 108, 108, 111, 119] : List UInt8)), .int .i64 (rd x5_2 0), .int .i64 (rd x5_2 1), .int .i64 (rd x5_2 2), .int .i64 (rd x5_2 3), .int .i64 0, .int .i64 0]) ?_ 5 _ rfl; (with_reducible repeat refine bu ?_); refine blk_put (cs := #[.bool ((rdOf ByteArray.empty t178 0).toList == ([97, 108, 108, 111, 119] : List UInt8)), .int .i64 (rd x5_2 0), .int .i64 (rd x5_2 1), .int .i64 (rd x5_2 2), .int .i64 0, .int .i64 0, .int .i64 0]) ?_ 4 _ rfl; (with_reducible repeat refine bu ?_); refine blk_put (cs := #[.bool ((rdOf ByteArray.empty t178 0).toList == ([97, 108, 108, 111, 119] : List UInt8)), .int .i64 (rd x5_2 0), .int .i64 (rd x5_2 1), .int .i64 0, .int .i64 0, .int .i64 0, .int .i64 0]) ?_ 3 _ rfl; (with_reducible repeat refine bu ?_); refine blk_put (cs := #[.bool ((rdOf ByteArray.empty t178 0).toList == ([97, 108, 108, 111, 119] : List UInt8)), .int .i64 (rd x5_2 0), .int .i64 0, .int .i64 0, .int .i64 0, .int .i64 0, .int .i64 0]) ?_ 2 _ rfl; (with_reducible repeat refine bu ?_); refine blk_put (cs := #[.bool ((rdOf ByteArray.empty t178 0).toList == ([97, 108, 108, 111, 119] : List UInt8)), .int .i64 0, .int .i64 0, .int .i64 0, .int .i64 0, .int .i64 0, .int .i64 0]) ?_ 1 _ rfl; (with_reducible repeat refine bu ?_); refine blk_put (cs := #[.bool false, .int .i64 0, .int .i64 0, .int .i64 0, .int .i64 0, .int .i64 0, .int .i64 0]) ?_ 0 _ rfl; (with_reducible repeat refine bu ?_); exact BK198.out) hb); have n4_ := Aside0.mk (below_step (bl HB) hb); clear HO_4; clear HO_5; clear BK177; clear BK198; clear HB; have HO_4 := n0_; have HO_5 := n1_; have BK177 := n2_; have BK198 := n3_; have HB := n4_; clear n0_ n1_ n2_ n3_ n4_; (try clear hb); (try clear hb2); (try clear hk); (try clear hi); have hcz63_0 : w62.cell? ⟨gb177, 0, none⟩ = some (.bool false) := (blk_cell BK177.out 0).trans rfl; have hcz63_1 : w62.cell? ⟨gb177, 1, none⟩ = some (.int .i64 0) := (blk_cell BK177.out 1).trans rfl; have hcz63_2 : w62.cell? ⟨gb177, 2, none⟩ = some (.int .i64 0) := (blk_cell BK177.out 2).trans rfl; have hcz63_3 : w62.cell? ⟨gb177, 3, none⟩ = some (.int .i64 0) := (blk_cell BK177.out 3).trans rfl; have hcz63_4 : w62.cell? ⟨gb177, 4, none⟩ = some (.int .i64 0) := (blk_cell BK177.out 4).trans rfl; have hcz63_5 : w62.cell? ⟨gb177, 5, none⟩ = some (.int .i64 0) := (blk_cell BK177.out 5).trans rfl; have hcz63_6 : w62.cell? ⟨gb177, 6, none⟩ = some (.int .i64 0) := (blk_cell BK177.out 6).trans rfl; have hfz63_0 := blk_frozen BK177.out 0; have hfz63_1 := blk_frozen BK177.out 1; have hfz63_2 := blk_frozen BK177.out 2; have hfz63_3 := blk_frozen BK177.out 3; have hfz63_4 := blk_frozen BK177.out 4; have hfz63_5 := blk_frozen BK177.out 5; have hfz63_6 := blk_frozen BK177.out 6))
                              refine bodyPost_ret (results_ct rfl _ _ gb177 25 #[.bool false, .int .i64 0, .int .i64 0, .int .i64 0, .int .i64 0, .int .i64 0, .int .i64 0] (0, 0) _ rfl (by (with_reducible repeat refine bu ?_); refine blk_put (cs := #[.bool false, .int .i64 0, .int .i64 0, .int .i64 0, .int .i64 0, .int .i64 0, .int .i64 0]) ?_ 6 _ rfl; (with_reducible repeat refine bu ?_); refine blk_put (cs := #[.bool false, .int .i64 0, .int .i64 0, .int .i64 0, .int .i64 0, .int .i64 0, .int .i64 0]) ?_ 5 _ rfl; (with_reducible repeat refine bu ?_); refine blk_put (cs := #[.bool false, .int .i64 0, .int .i64 0, .int .i64 0, .int .i64 0, .int .i64 0, .int .i64 0]) ?_ 4 _ rfl; (with_reducible repeat refine bu ?_); refine blk_put (cs := #[.bool false, .int .i64 0, .int .i64 0, .int .i64 0, .int .i64 0, .int .i64 0, .int .i64 0]) ?_ 3 _ rfl; (with_reducible repeat refine bu ?_); refine blk_put (cs := #[.bool false, .int .i64 0, .int .i64 0, .int .i64 0, .int .i64 0, .int .i64 0, .int .i64 0]) ?_ 2 _ rfl; (with_reducible repeat refine bu ?_); refine blk_put (cs := #[.bool false, .int .i64 0, .int .i64 0, .int .i64 0, .int .i64 0, .int .i64 0, .int .i64 0]) ?_ 1 _ rfl; (with_reducible repeat refine bu ?_); refine blk_put (cs := #[.bool false, .int .i64 0, .int .i64 0, .int .i64 0, .int .i64 0, .int .i64 0, .int .i64 0]) ?_ 0 _ rfl; (with_reducible repeat refine bu ?_); exact BK177.out) Tryd.underlying25 rfl (by kernel_rfl)) rfl ?_
                              exact ⟨by first | rfl | (simp [errW_none, errW_some] <;> rfl) | (simp [*, errW_none, errW_some] <;> rfl), by repeat (first | (with_reducible first | exact HB.out | apply below_alloc | apply pw_below_drewN | apply below_drew1 | refine below_set ?_ GE177.out | refine below_set ?_ GE198.out) | exact HB.out)⟩
                          · rw [if_neg c30] at H
                            exact absurd H (by simp)
                        · rw [if_neg c29] at H
                          exact absurd H (by simp)
                      · rw [if_neg c28] at H
                        exact absurd H (by simp)
                    · rw [if_neg c27] at H
                      exact absurd H (by simp)
                  · rw [if_neg c26] at H
                    exact absurd H (by simp)
                · rw [if_neg c25] at H
                  exact absurd H (by simp)
              · rw [if_neg c24] at H
                exact absurd H (by simp)

end Go.Proofs.YtiocgkggegahhaaDoor.P

/- What spec.RulText and spec.RulRead answer, in plain words; they answer as impl.RulText and impl.RulRead. -/
namespace Go.Proofs.YtiocgkggegahhaaDoor.P
open Go.RowKit Go.Proofs.YtiocgkggegahhaaDoorUFnExactRulText.PrintWords Go.Proofs.YtiocgkggegahhaaDoorUFnExactRulText.PrintLast Go.Proofs.YtiocgkggegahhaaDoorUFnExactRulText.PrintMore
set_option linter.unusedVariables false
set_option linter.unusedSimpArgs false
theorem specRulOk_f (f0 : Bool) (f1 f2 f3 f4 f5 f6 : Int) : spec_RulOk.f f0 f1 f2 f3 f4 f5 f6 = some (ruleOk7 f1 f2 f3 f4 f5 f6) := by
  have hi : ∀ a b c : Int, spec_l1In.f a b c = some (inB a b c) := by
    intro a b c
    unfold spec_l1In.f inB
    by_cases h : a ≥ b
    · rw [if_pos h]; simp [show b ≤ a from h]
    · rw [if_neg h]; simp [show ¬ b ≤ a from h]
  unfold spec_RulOk.f
  simp only [hi, Option.bind_some]
  have key : ∀ b1 b2 b3 : Bool, ∀ p1 p2 p3 : Prop, [Decidable p1] → [Decidable p2] → [Decidable p3] →
      (if b1 = true then (if p1 then (if b2 = true then (if p2 then (if b3 = true then some (decide p3) else some false) else some false) else some false) else some false) else some false) = some (b1 && decide p1 && b2 && decide p2 && b3 && decide p3) := by
    intro b1 b2 b3 p1 p2 p3 _ _ _
    cases b1 <;> cases b2 <;> cases b3 <;> by_cases p1 <;> by_cases p2 <;> by_cases p3 <;> simp_all
  rw [key]
  congr 1
  rw [Bool.eq_iff_iff]
  simp only [ruleOk7, inB, Bool.and_eq_true, decide_eq_true_eq]
  omega
def rtext (f0 : Bool) (f1 f2 f3 f4 f5 f6 : Int) : ByteArray := if ruleOk7 f1 f2 f3 f4 f5 f6 then textB (allowB f0) [f1, f2, f3, f4, f5, f6] else ⟨#[]⟩
theorem implRulText_f (f0 : Bool) (f1 f2 f3 f4 f5 f6 : Int) : impl_RulText.f f0 f1 f2 f3 f4 f5 f6 = some (rtext f0 f1 f2 f3 f4 f5 f6) := rfl
theorem rtext_l0 (l : List Int) (hl : ∀ n ∈ l, 0 ≤ n ∧ n ≤ 999) (hn : l.length ≤ 10) : ∀ (m i : Nat), l.length - i = m → i ≤ l.length → ∀ x3 : ByteArray, x3.size ≤ 100 + 10 * i →
    Ans (fun k => spec_RulText.l0 k x3 l i) (fun b => b = textB x3 (l.drop i))
  | 0, i, hm, hi, x3, h3 => by
    refine Ans.succ ?_
    unfold spec_RulText.l0
    refine Ans.neg (by omega) (Ans.pure ?_)
    rw [List.drop_eq_nil_of_le (by omega)]; rfl
  | m + 1, i, hm, hi, x3, h3 => by
    have hlt : i < l.length := by omega
    have hw : wrap64 ((i : Int) + 1) = ((i + 1 : Nat) : Int) := w64 _ (by omega)
    have hx := hl l[i] (List.getElem_mem hlt)
    have hr : rd l (i : Int) = l[i] := by simp [rd, List.getD, hlt]
    have hd : l.drop i = l[i] :: l.drop (i + 1) := List.drop_eq_getElem_cons hlt
    obtain ⟨n, hnn⟩ : ∃ n : Nat, l[i] = n := ⟨l[i].toNat, by omega⟩
    refine Ans.succ ?_
    unfold spec_RulText.l0
    refine Ans.pos (by omega) (Ans.pos (by omega) (Ans.pos (by omega) ?_))
    rw [hr, hw, hnn]
    refine Ans.bind (plain_a (n := n) (by omega)) ?_
    rintro v rfl
    have hz := numB_size (n := (n : Int)) (by omega) (by omega)
    have h1 : (x3 ++ (⟨#[32]⟩ : ByteArray)).size = x3.size + 1 := by rw [ByteArray.size_append]; rfl
    refine Ans.pos (by rw [h1]; omega) ?_
    refine (rtext_l0 l hl hn m (i + 1) (by omega) (by omega) (x3 ++ (⟨#[32]⟩ : ByteArray) ++ numB n) (by rw [ByteArray.size_append, h1]; omega)).mono ?_
    rintro v rfl
    rw [hd, hnn, ByteArray.append_assoc]
    rfl
theorem specRulText_a (f0 : Bool) (f1 f2 f3 f4 f5 f6 : Int) : Ans (fun k => spec_RulText.f k f0 f1 f2 f3 f4 f5 f6) (fun b => b = rtext f0 f1 f2 f3 f4 f5 f6) := by
  unfold spec_RulText.f
  rw [specRulOk_f]
  refine Ans.bsome ?_
  unfold rtext
  cases hk : ruleOk7 f1 f2 f3 f4 f5 f6 with
  | false => exact Ans.neg (by simp) (Ans.pure rfl)
  | true =>
    have hb := ruleOk7_le hk
    have hl : ∀ n ∈ ([f1, f2, f3, f4, f5, f6] : List Int), 0 ≤ n ∧ n ≤ 999 := by
      intro n hn
      simp only [List.mem_cons, List.mem_nil_iff, or_false] at hn
      rcases hn with rfl | rfl | rfl | rfl | rfl | rfl <;> omega
    refine Ans.pos rfl ?_
    cases f0 with
    | true =>
      refine Ans.pos rfl (Ans.succ ?_)
      unfold spec_RulText.j0
      exact rtext_l0 _ hl (by simp) _ 0 rfl (Nat.zero_le _) _ (by decide)
    | false =>
      refine Ans.neg (by simp) (Ans.succ ?_)
      unfold spec_RulText.j0
      exact rtext_l0 _ hl (by simp) _ 0 rfl (Nat.zero_le _) _ (by decide)
/-- What spec.RulRead makes of words. -/
def RulIs (a : ByteArray) (n1 n2 n3 n4 n5 n6 : Int) : RR :=
  if (a = allowB true ∨ a = allowB false) ∧ ruleOk7 n1 n2 n3 n4 n5 n6 = true then (decide (a = allowB true), n1, n2, n3, n4, n5, n6, true) else zeroRR
theorem nums_l0 (l : List ByteArray) (hl : l.length = 7) : ∀ (m i : Nat), 7 - i = m → 1 ≤ i → i ≤ 7 → ∀ x5 : List Int, x5.length + 1 = i → (∀ j : Nat, (h : j + 1 < i) → (h7 : j + 1 < 7) → NumIs (l[j + 1]'(by omega)) (x5.getD j 0)) → ∀ P : RR → Prop,
    (∀ xs : List Int, xs.length = 6 → (∀ j : Nat, (h : j < 6) → NumIs (l[j + 1]'(by omega)) (xs.getD j 0)) → P (if ruleOk7 (rd xs 0) (rd xs 1) (rd xs 2) (rd xs 3) (rd xs 4) (rd xs 5) then (((rdOf ByteArray.empty l 0).toList == ([97, 108, 108, 111, 119] : List UInt8)), rd xs 0, rd xs 1, rd xs 2, rd xs 3, rd xs 4, rd xs 5, true) else zeroRR)) →
    Ans (fun k => spec_RulRead.l0 k l x5 i) P
  | 0, i, hm, h1, hi, x5, h5, hj, P, hP => by
    refine Ans.succ ?_
    unfold spec_RulRead.l0
    refine Ans.neg (by omega) ?_
    refine Ans.pos (by omega) (Ans.pos (by omega) (Ans.pos (by omega) (Ans.pos (by omega) (Ans.pos (by omega) (Ans.pos (by omega) (Ans.pos (by omega) ?_))))))
    rw [specRulOk_f]
    refine Ans.bsome ?_
    have := hP x5 (by omega) (fun j h => hj j (by omega) (by omega))
    refine Ans.ite (fun h => Ans.pure ?_) (fun h => Ans.pure ?_)
    · rw [if_pos h] at this; exact this
    · rw [if_neg h] at this; exact this
  | m + 1, i, hm, h1, hi, x5, h5, hj, P, hP => by
    have hlt : i < 7 := by omega
    have hw : wrap64 ((i : Int) + 1) = ((i + 1 : Nat) : Int) := w64 _ (by omega)
    refine Ans.succ ?_
    unfold spec_RulRead.l0
    refine Ans.pos (by omega) (Ans.pos (by omega) (Ans.pos (by omega) ?_))
    have hr : rdOf ByteArray.empty l (i : Int) = l[i]'(by omega) := by simp [rdOf, List.getD, hl, hlt]
    rw [hr, hw]
    refine Ans.bind (num_a _) ?_
    intro v hv
    refine Ans.pos (by omega) ?_
    refine nums_l0 l hl m (i + 1) (by omega) (by omega) (by omega) (x5 ++ [v]) (by simp; omega) ?_ P hP
    intro j h h7
    by_cases hji : j + 1 < i
    · have := hj j hji h7
      have e : (x5 ++ [v]).getD j 0 = x5.getD j 0 := by simp [List.getD, List.getElem?_append_left (show j < x5.length by omega)]
      rw [e]; exact this
    · have hji' : j = x5.length := by omega
      subst hji'
      have e : (x5 ++ [v]).getD x5.length 0 = v := by simp [List.getD]
      rw [e]
      have : l[x5.length + 1]'(by omega) = l[i]'(by omega) := by congr 1
      rw [this]; exact hv
def rulReadO (s a b1 b2 b3 b4 b5 b6 : ByteArray) : Option RR :=
  (atoiO b1).bind fun n1 => (atoiO b2).bind fun n2 => (atoiO b3).bind fun n3 => (atoiO b4).bind fun n4 => (atoiO b5).bind fun n5 => (atoiO b6).bind fun n6 =>
    (impl_RulText.f (decide (a = allowB true)) n1 n2 n3 n4 n5 n6).bind fun t => if t = s then some (decide (a = allowB true), n1, n2, n3, n4, n5, n6, true) else none
theorem allow_noBlank (b : Bool) : noBlank (allowB b) := by
  cases b <;> (intro c hc; simp [allowB] at hc; rcases hc with rfl | rfl | rfl | rfl | rfl <;> decide)
theorem numI_noBlank {n : Int} (h : 0 ≤ n) : noBlank (numB n) := by
  obtain ⟨k, rfl⟩ : ∃ k : Nat, n = k := ⟨n.toNat, by omega⟩
  exact numB_noBlank k
theorem words_nil : wordsB (⟨#[]⟩ : ByteArray) = [⟨#[]⟩] := by rw [wordsB_eq]; rfl
theorem read_some {s a b1 b2 b3 b4 b5 b6 : ByteArray} (hw : wordsB s = [a, b1, b2, b3, b4, b5, b6]) {r : RR} (h : rulReadO s a b1 b2 b3 b4 b5 b6 = some r) :
    ∃ n1 n2 n3 n4 n5 n6 : Int, ruleOk7 n1 n2 n3 n4 n5 n6 = true ∧ a = allowB (decide (a = allowB true)) ∧ b1 = numB n1 ∧ b2 = numB n2 ∧ b3 = numB n3 ∧ b4 = numB n4 ∧ b5 = numB n5 ∧ b6 = numB n6 ∧ r = (decide (a = allowB true), n1, n2, n3, n4, n5, n6, true) := by
  unfold rulReadO at h
  simp only [Option.bind_eq_some_iff] at h
  obtain ⟨n1, e1, n2, e2, n3, e3, n4, e4, n5, e5, n6, e6, t, et, h⟩ := h
  rw [implRulText_f] at et
  have et := Option.some.inj et
  by_cases ht : t = s
  · rw [if_pos ht] at h
    have h := Option.some.inj h
    subst ht
    unfold rtext at et
    by_cases hk : ruleOk7 n1 n2 n3 n4 n5 n6 = true
    · rw [if_pos hk, textB_join] at et
      have hb := ruleOk7_le hk
      have hj := words_join (allowB (decide (a = allowB true))) ([n1, n2, n3, n4, n5, n6].map numB) (allow_noBlank _) (by
        intro x hx
        simp only [List.map_cons, List.map_nil, List.mem_cons, List.mem_nil_iff, or_false] at hx
        rcases hx with rfl | rfl | rfl | rfl | rfl | rfl <;> exact numI_noBlank (by omega))
      rw [et, hw] at hj
      simp only [List.map_cons, List.map_nil, List.cons.injEq, and_true] at hj
      obtain ⟨h0, h1, h2, h3, h4, h5, h6⟩ := hj
      exact ⟨n1, n2, n3, n4, n5, n6, hk, h0, h1, h2, h3, h4, h5, h6, h.symm⟩
    · rw [if_neg hk] at et
      rw [← et, words_nil] at hw
      simp at hw
  · rw [if_neg ht] at h; cases h
theorem num_same {b : ByteArray} {n x : Int} (h : b = numB n) (h0 : 0 ≤ n) (h1 : n ≤ 999) (hx : NumIs b x) : x = n := by
  obtain ⟨k, rfl⟩ : ∃ k : Nat, n = k := ⟨n.toNat, by omega⟩
  rcases hx with ⟨m, hm, e, rfl⟩ | ⟨_, hno⟩
  · have := numB_inj (e.symm.trans h); omega
  · exact absurd h (hno k (by omega))
theorem num_pos {b : ByteArray} {x : Int} (h : 1 ≤ x) (hx : NumIs b x) : b = numB x ∧ atoiO b = some x := by
  rcases hx with ⟨m, hm, e, rfl⟩ | ⟨e, _⟩
  · exact ⟨e, by rw [e]; exact atoiO_num hm⟩
  · omega
theorem read_key {s a b1 b2 b3 b4 b5 b6 : ByteArray} (hw : wordsB s = [a, b1, b2, b3, b4, b5, b6]) (ha : a = allowB true ∨ a = allowB false) {x1 x2 x3 x4 x5 x6 : Int}
    (h1 : NumIs b1 x1) (h2 : NumIs b2 x2) (h3 : NumIs b3 x3) (h4 : NumIs b4 x4) (h5 : NumIs b5 x5) (h6 : NumIs b6 x6) :
    (if ruleOk7 x1 x2 x3 x4 x5 x6 = true then (decide (a = allowB true), x1, x2, x3, x4, x5, x6, true) else zeroRR) = rulReadW s [a, b1, b2, b3, b4, b5, b6] := by
  show _ = (rulReadO s a b1 b2 b3 b4 b5 b6).getD zeroRR
  by_cases hk : ruleOk7 x1 x2 x3 x4 x5 x6 = true
  · rw [if_pos hk]
    have hb := ruleOk7_le hk
    obtain ⟨q1, r1⟩ := num_pos (by omega) h1
    obtain ⟨q2, r2⟩ := num_pos (by omega) h2
    obtain ⟨q3, r3⟩ := num_pos (by omega) h3
    obtain ⟨q4, r4⟩ := num_pos (by omega) h4
    obtain ⟨q5, r5⟩ := num_pos (by omega) h5
    obtain ⟨q6, r6⟩ := num_pos (by omega) h6
    have hal : allowB (decide (a = allowB true)) = a := by
      rcases ha with e | e
      · rw [decide_eq_true e, e]
      · have : a ≠ allowB true := by rw [e]; decide
        rw [decide_eq_false this, e]
    have ht : rtext (decide (a = allowB true)) x1 x2 x3 x4 x5 x6 = s := by
      unfold rtext
      rw [if_pos hk, textB_join, hal]
      simp only [List.map_cons, List.map_nil]
      rw [← q1, ← q2, ← q3, ← q4, ← q5, ← q6]
      exact join_words s a _ hw
    unfold rulReadO
    rw [r1, r2, r3, r4, r5, r6]
    simp only [Option.bind_some, implRulText_f, ht, if_true, Option.getD_some]
  · rw [if_neg hk]
    cases h : rulReadO s a b1 b2 b3 b4 b5 b6 with
    | none => rfl
    | some r =>
      obtain ⟨n1, n2, n3, n4, n5, n6, hn, _, e1, e2, e3, e4, e5, e6, _⟩ := read_some hw h
      have hb := ruleOk7_le hn
      have g1 := num_same e1 (by omega) (by omega) h1
      have g2 := num_same e2 (by omega) (by omega) h2
      have g3 := num_same e3 (by omega) (by omega) h3
      have g4 := num_same e4 (by omega) (by omega) h4
      have g5 := num_same e5 (by omega) (by omega) h5
      have g6 := num_same e6 (by omega) (by omega) h6
      rw [g1, g2, g3, g4, g5, g6] at hk
      exact absurd hn hk
theorem read_not {s a b1 b2 b3 b4 b5 b6 : ByteArray} (hw : wordsB s = [a, b1, b2, b3, b4, b5, b6]) (ha : a ≠ allowB true) (ha' : a ≠ allowB false) :
    rulReadW s [a, b1, b2, b3, b4, b5, b6] = zeroRR := by
  show (rulReadO s a b1 b2 b3 b4 b5 b6).getD zeroRR = _
  cases h : rulReadO s a b1 b2 b3 b4 b5 b6 with
  | none => rfl
  | some r =>
    obtain ⟨n1, n2, n3, n4, n5, n6, hn, e, _⟩ := read_some hw h
    rw [decide_eq_false ha] at e
    exact absurd e ha'
theorem list7 {l : List ByteArray} (h : l.length = 7) : ∃ a b1 b2 b3 b4 b5 b6, l = [a, b1, b2, b3, b4, b5, b6] := by
  match l, h with
  | [a, b1, b2, b3, b4, b5, b6], _ => exact ⟨a, b1, b2, b3, b4, b5, b6, rfl⟩
theorem deny_list : (allowB false).toList = [100, 101, 110, 121] := by rw [ByteArray.toList_eq]; rfl
theorem allow_list : (allowB true).toList = [97, 108, 108, 111, 119] := by rw [ByteArray.toList_eq]; rfl
theorem specRulRead_a (s : ByteArray) (hs : s.size ≤ 1048576) : Ans (fun k => spec_RulRead.f k s) (fun r => r = rulReadW s (wordsB s)) := by
  unfold spec_RulRead.f
  refine Ans.bind (words_a s hs) ?_
  rintro v rfl
  by_cases h7 : (wordsB s).length = 7
  · obtain ⟨a, b1, b2, b3, b4, b5, b6, hw⟩ := list7 h7
    rw [hw]
    have hfin : ∀ (ha : a = allowB true ∨ a = allowB false), Ans (fun k => spec_RulRead.l0 k [a, b1, b2, b3, b4, b5, b6] [] 1) (fun r => r = rulReadW s [a, b1, b2, b3, b4, b5, b6]) := by
      intro ha
      refine nums_l0 [a, b1, b2, b3, b4, b5, b6] rfl 6 1 rfl (by omega) (by omega) [] rfl (fun j h => by omega) _ ?_
      intro xs hx hn
      match xs, hx with
      | [x1, x2, x3, x4, x5, x6], _ =>
        have := read_key hw ha (hn 0 (by omega)) (hn 1 (by omega)) (hn 2 (by omega)) (hn 3 (by omega)) (hn 4 (by omega)) (hn 5 (by omega))
        rw [← this]
        show (if ruleOk7 x1 x2 x3 x4 x5 x6 = true then ((a.toList == ([97, 108, 108, 111, 119] : List UInt8)), x1, x2, x3, x4, x5, x6, true) else zeroRR) = _
        rw [← allowB_eq]
        rfl
    refine Ans.pos (by simp) (Ans.pos (by simp) ?_)
    have h0 : rdOf ByteArray.empty [a, b1, b2, b3, b4, b5, b6] 0 = a := rfl
    rw [h0]
    refine Ans.ite (fun hal => ?_) (fun hal => ?_)
    · refine Ans.succ ?_
      unfold spec_RulRead.j0
      refine Ans.neg (by simp) ?_
      exact hfin (.inl (toList_inj (hal.trans allow_list.symm)))
    · refine Ans.succ ?_
      unfold spec_RulRead.j0
      by_cases hd : a = allowB false
      · refine Ans.neg (by rw [hd, deny_list]; decide) ?_
        exact hfin (.inr hd)
      · refine Ans.pos (bne_iff_ne.mpr (fun e => hd (toList_inj (e.trans deny_list.symm)))) (Ans.pure ?_)
        rw [read_not hw (fun e => hal (by rw [e, allow_list])) hd]
        rfl
  · refine Ans.neg (by omega) (Ans.succ ?_)
    unfold spec_RulRead.j0
    refine Ans.pos rfl (Ans.pure ?_)
    rw [rulReadW_ne h7]; rfl
end Go.Proofs.YtiocgkggegahhaaDoor.P

-- written by hw.py for this claim
namespace Go.Proofs.YtiocgkggegahhaaDoor.P
open Go.RowKit Go.Proofs.YtiocgkggegahhaaDoorUFnExactRulText.PrintWords Go.Proofs.YtiocgkggegahhaaDoorUFnExactRulText.PrintLast Go.Proofs.YtiocgkggegahhaaDoorUFnExactRulText.PrintMore
attribute [local go_sem] max2_int min2_int max_two min_two max_three min_three max_four min_four
set_option linter.unusedVariables false
set_option linter.unusedSimpArgs false

/-! ### laws_toRulRule: function 7 -/
def laws_toRulRule.f (a0_0 : Bool) (a0_1 : Int) (a0_2 : Int) (a0_3 : Int) (a0_4 : Int) (a0_5 : Int) (a0_6 : Int) : Option (Bool × Int × Int × Int × Int × Int × Int) := some (a0_0, a0_1, a0_2, a0_3, a0_4, a0_5, a0_6)
set_option maxHeartbeats 8000000 in
set_option maxRecDepth 100000 in
theorem laws_toRulRule.calls (a0_0 : Bool) (a0_1 : Int) (a0_2 : Int) (a0_3 : Int) (a0_4 : Int) (a0_5 : Int) (a0_6 : Int) (r1 : Bool) (r2 : Int) (r3 : Int) (r4 : Int) (r5 : Int) (r6 : Int) (r7 : Int) (w : World) (h : laws_toRulRule.f a0_0 a0_1 a0_2 a0_3 a0_4 a0_5 a0_6 = some (r1, r2, r3, r4, r5, r6, r7)) :
    Calls Tryd.prog 7 #[.agg #[.bool a0_0, .int .i64 a0_1, .int .i64 a0_2, .int .i64 a0_3, .int .i64 a0_4, .int .i64 a0_5, .int .i64 a0_6]] w fun e w' => e = .returned (.agg #[.bool r1, .int .i64 r2, .int .i64 r3, .int .i64 r4, .int .i64 r5, .int .i64 r6, .int .i64 r7]) ∧ Below w.heap.size w w' := by
  have hu23 := Tryd.underlying23
  have hu25 := Tryd.underlying25
  have HB := Aside0.mk (Below.refl w.heap.size w)
  have H : (some (a0_0, a0_1, a0_2, a0_3, a0_4, a0_5, a0_6)) = some (r1, r2, r3, r4, r5, r6, r7) := h
  clear h
  simp only [Option.some.injEq, Prod.mk.injEq] at H
  obtain ⟨rfl, rfl, rfl, rfl, rfl, rfl, rfl⟩ := H
  go_enter Tryd.func7, Tryd.ntmps7
  go_wp2_with (first | ((with_reducible refine gate_dst (N := 1) rfl ?_); refine box_event ?hg (N := 1) ?hd (cs := #[.bool a0_0, .int .i64 a0_1, .int .i64 a0_2, .int .i64 a0_3, .int .i64 a0_4, .int .i64 a0_5, .int .i64 a0_6]) (t := 23) ?hr ?_; (case hd => rfl); (case hg => rfl); (case hr => first | (go_simp; done) | (go_simp; rfl)); intro gb118 hg w2 hbox hb; have n0_ := Aside0.mk (below_step (bl HB) hb); have n1_ := Aside0.mk (hbox); have n2_ := Aside0.mk ((by rw [hg]; exact (below_size (bl HB)) : w.heap.size ≤ gb118)); have n3_ := Aside0.mk ((by rw [hg]; exact (below_size (bl HB)) : w.heap.size ≤ gb118)); clear HB; have HB := n0_; have BK118 := n1_; have GW118 := n2_; have GE118 := n3_; clear n0_ n1_ n2_ n3_; clear hb hbox hg) | ((with_reducible refine gate_dst (N := 2) rfl ?_); refine box_event ?hg (N := 2) ?hd (cs := #[.bool false, .int .i64 0, .int .i64 0, .int .i64 0, .int .i64 0, .int .i64 0, .int .i64 0]) (t := 25) ?hr ?_; (case hd => rfl); (case hg => rfl); (case hr => first | (go_simp; done) | (go_simp; rfl)); intro gb119 hg w3 hbox hb; have n0_ := bkB BK118 hb; have n1_ := Aside0.mk (below_step (bl HB) hb); have n2_ := Aside0.mk (hbox); have n3_ := Aside0.mk ((by rw [hg]; exact (below_size (bl HB)) : w.heap.size ≤ gb119)); have n4_ := Aside0.mk ((by rw [hg]; exact (below_size (bl HB)) : w.heap.size ≤ gb119)); have n5_ := Aside0.mk ((by rw [hg]; exact Nat.ne_of_lt (bkL BK118) : gb118 ≠ gb119)); have n6_ := Aside0.mk ((by rw [hg]; exact Nat.ne_of_gt (bkL BK118) : gb119 ≠ gb118)); clear BK118; clear HB; have BK118 := n0_; have HB := n1_; have BK119 := n2_; have GW119 := n3_; have GE119 := n4_; have NB118_119 := n5_; have NB119_118 := n6_; clear n0_ n1_ n2_ n3_ n4_ n5_ n6_; clear hb hbox hg) | ((with_reducible refine gate_dst (N := 3) rfl ?_); refine box_event ?hg (N := 3) ?hd (cs := #[.bool false, .int .i64 0, .int .i64 0, .int .i64 0, .int .i64 0, .int .i64 0, .int .i64 0]) (t := 25) ?hr ?_; (case hd => rfl); (case hg => rfl); (case hr => first | (go_simp; done) | (go_simp; rfl)); intro gb120 hg w4 hbox hb; have n0_ := bkB BK118 hb; have n1_ := bkB BK119 hb; have n2_ := Aside0.mk (below_step (bl HB) hb); have n3_ := Aside0.mk (hbox); have n4_ := Aside0.mk ((by rw [hg]; exact (below_size (bl HB)) : w.heap.size ≤ gb120)); have n5_ := Aside0.mk ((by rw [hg]; exact (below_size (bl HB)) : w.heap.size ≤ gb120)); have n6_ := Aside0.mk ((by rw [hg]; exact Nat.ne_of_lt (bkL BK118) : gb118 ≠ gb120)); have n7_ := Aside0.mk ((by rw [hg]; exact Nat.ne_of_gt (bkL BK118) : gb120 ≠ gb118)); have n8_ := Aside0.mk ((by rw [hg]; exact Nat.ne_of_lt (bkL BK119) : gb119 ≠ gb120)); have n9_ := Aside0.mk ((by rw [hg]; exact Nat.ne_of_gt (bkL BK119) : gb120 ≠ gb119)); clear BK118; clear BK119; clear HB; have BK118 := n0_; have BK119 := n1_; have HB := n2_; have BK120 := n3_; have GW120 := n4_; have GE120 := n5_; have NB118_120 := n6_; have NB120_118 := n7_; have NB119_120 := n8_; have NB120_119 := n9_; clear n0_ n1_ n2_ n3_ n4_ n5_ n6_ n7_ n8_ n9_; clear hb hbox hg; have hnb5 := NB118_119.out; have hnc5 := NB119_118.out; have hnb6 := NB118_120.out; have hnc6 := NB120_118.out; have hcz7_0 : w4.cell? ⟨gb118, 0, none⟩ = some (.bool a0_0) := (blk_cell BK118.out 0).trans rfl; have hcz7_1 : w4.cell? ⟨gb118, 1, none⟩ = some (.int .i64 a0_1) := (blk_cell BK118.out 1).trans rfl; have hcz7_2 : w4.cell? ⟨gb118, 2, none⟩ = some (.int .i64 a0_2) := (blk_cell BK118.out 2).trans rfl; have hcz7_3 : w4.cell? ⟨gb118, 3, none⟩ = some (.int .i64 a0_3) := (blk_cell BK118.out 3).trans rfl; have hcz7_4 : w4.cell? ⟨gb118, 4, none⟩ = some (.int .i64 a0_4) := (blk_cell BK118.out 4).trans rfl; have hcz7_5 : w4.cell? ⟨gb118, 5, none⟩ = some (.int .i64 a0_5) := (blk_cell BK118.out 5).trans rfl; have hcz7_6 : w4.cell? ⟨gb118, 6, none⟩ = some (.int .i64 a0_6) := (blk_cell BK118.out 6).trans rfl; have hfz7_0 := blk_frozen BK118.out 0; have hfz7_1 := blk_frozen BK118.out 1; have hfz7_2 := blk_frozen BK118.out 2; have hfz7_3 := blk_frozen BK118.out 3; have hfz7_4 := blk_frozen BK118.out 4; have hfz7_5 := blk_frozen BK118.out 5; have hfz7_6 := blk_frozen BK118.out 6; have hnb8 := NB120_119.out; have hnc8 := NB119_120.out; have hcz9_0 : w4.cell? ⟨gb120, 0, none⟩ = some (.bool false) := (blk_cell BK120.out 0).trans rfl; have hcz9_1 : w4.cell? ⟨gb120, 1, none⟩ = some (.int .i64 0) := (blk_cell BK120.out 1).trans rfl; have hcz9_2 : w4.cell? ⟨gb120, 2, none⟩ = some (.int .i64 0) := (blk_cell BK120.out 2).trans rfl; have hcz9_3 : w4.cell? ⟨gb120, 3, none⟩ = some (.int .i64 0) := (blk_cell BK120.out 3).trans rfl; have hcz9_4 : w4.cell? ⟨gb120, 4, none⟩ = some (.int .i64 0) := (blk_cell BK120.out 4).trans rfl; have hcz9_5 : w4.cell? ⟨gb120, 5, none⟩ = some (.int .i64 0) := (blk_cell BK120.out 5).trans rfl; have hcz9_6 : w4.cell? ⟨gb120, 6, none⟩ = some (.int .i64 0) := (blk_cell BK120.out 6).trans rfl; have hfz9_0 := blk_frozen BK120.out 0; have hfz9_1 := blk_frozen BK120.out 1; have hfz9_2 := blk_frozen BK120.out 2; have hfz9_3 := blk_frozen BK120.out 3; have hfz9_4 := blk_frozen BK120.out 4; have hfz9_5 := blk_frozen BK120.out 5; have hfz9_6 := blk_frozen BK120.out 6; have hcz10_0 : w4.cell? ⟨gb119, 0, none⟩ = some (.bool false) := (blk_cell BK119.out 0).trans rfl; have hcz10_1 : w4.cell? ⟨gb119, 1, none⟩ = some (.int .i64 0) := (blk_cell BK119.out 1).trans rfl; have hcz10_2 : w4.cell? ⟨gb119, 2, none⟩ = some (.int .i64 0) := (blk_cell BK119.out 2).trans rfl; have hcz10_3 : w4.cell? ⟨gb119, 3, none⟩ = some (.int .i64 0) := (blk_cell BK119.out 3).trans rfl; have hcz10_4 : w4.cell? ⟨gb119, 4, none⟩ = some (.int .i64 0) := (blk_cell BK119.out 4).trans rfl; have hcz10_5 : w4.cell? ⟨gb119, 5, none⟩ = some (.int .i64 0) := (blk_cell BK119.out 5).trans rfl; have hcz10_6 : w4.cell? ⟨gb119, 6, none⟩ = some (.int .i64 0) := (blk_cell BK119.out 6).trans rfl; have hfz10_0 := blk_frozen BK119.out 0; have hfz10_1 := blk_frozen BK119.out 1; have hfz10_2 := blk_frozen BK119.out 2; have hfz10_3 := blk_frozen BK119.out 3; have hfz10_4 := blk_frozen BK119.out 4; have hfz10_5 := blk_frozen BK119.out 5; have hfz10_6 := blk_frozen BK119.out 6))
  refine bodyPost_ret (results_cell_row rfl _ _ gb119 25 #[.bool a0_0, .int .i64 a0_1, .int .i64 a0_2, .int .i64 a0_3, .int .i64 a0_4, .int .i64 a0_5, .int .i64 a0_6] (0, 0) _ rfl (by (with_reducible repeat refine bu ?_); refine blk_put (cs := #[.bool a0_0, .int .i64 a0_1, .int .i64 a0_2, .int .i64 a0_3, .int .i64 a0_4, .int .i64 a0_5, .int .i64 0]) ?_ 6 _ rfl; (with_reducible repeat refine bu ?_); refine blk_put (cs := #[.bool a0_0, .int .i64 a0_1, .int .i64 a0_2, .int .i64 a0_3, .int .i64 a0_4, .int .i64 0, .int .i64 0]) ?_ 5 _ rfl; (with_reducible repeat refine bu ?_); refine blk_put (cs := #[.bool a0_0, .int .i64 a0_1, .int .i64 a0_2, .int .i64 a0_3, .int .i64 0, .int .i64 0, .int .i64 0]) ?_ 4 _ rfl; (with_reducible repeat refine bu ?_); refine blk_put (cs := #[.bool a0_0, .int .i64 a0_1, .int .i64 a0_2, .int .i64 0, .int .i64 0, .int .i64 0, .int .i64 0]) ?_ 3 _ rfl; (with_reducible repeat refine bu ?_); refine blk_put (cs := #[.bool a0_0, .int .i64 a0_1, .int .i64 0, .int .i64 0, .int .i64 0, .int .i64 0, .int .i64 0]) ?_ 2 _ rfl; (with_reducible repeat refine bu ?_); refine blk_put (cs := #[.bool a0_0, .int .i64 0, .int .i64 0, .int .i64 0, .int .i64 0, .int .i64 0, .int .i64 0]) ?_ 1 _ rfl; (with_reducible repeat refine bu ?_); refine blk_put (cs := #[.bool false, .int .i64 0, .int .i64 0, .int .i64 0, .int .i64 0, .int .i64 0, .int .i64 0]) ?_ 0 _ rfl; (with_reducible repeat refine bu ?_); refine blk_far ?_ NB119_120.out _; (with_reducible repeat refine bu ?_); refine blk_far ?_ NB119_120.out _; (with_reducible repeat refine bu ?_); refine blk_far ?_ NB119_120.out _; (with_reducible repeat refine bu ?_); refine blk_far ?_ NB119_120.out _; (with_reducible repeat refine bu ?_); refine blk_far ?_ NB119_120.out _; (with_reducible repeat refine bu ?_); refine blk_far ?_ NB119_120.out _; (with_reducible repeat refine bu ?_); refine blk_far ?_ NB119_120.out _; (with_reducible repeat refine bu ?_); exact BK119.out) Tryd.underlying25 rfl (by kernel_rfl)) rfl ?_
  exact ⟨by first | rfl | (simp [errW_none, errW_some] <;> rfl) | (simp [*, errW_none, errW_some] <;> rfl), by repeat (first | (with_reducible first | exact HB.out | apply below_alloc | apply pw_below_drewN | apply below_drew1 | refine below_set ?_ GE118.out | refine below_set ?_ GE119.out | refine below_set ?_ GE120.out) | exact HB.out)⟩

end Go.Proofs.YtiocgkggegahhaaDoor.P

-- written by hw.py for this claim
namespace Go.Proofs.YtiocgkggegahhaaDoor.P
open Go.RowKit Go.Proofs.YtiocgkggegahhaaDoorUFnExactRulText.PrintWords Go.Proofs.YtiocgkggegahhaaDoorUFnExactRulText.PrintLast Go.Proofs.YtiocgkggegahhaaDoorUFnExactRulText.PrintMore
attribute [local go_sem] max2_int min2_int max_two min_two max_three min_three max_four min_four
set_option linter.unusedVariables false
set_option linter.unusedSimpArgs false

/-! ### laws_FnExactRulText: function 3 -/
def laws_FnExactRulText.f (k : Nat) (a0_0 : Bool) (a0_1 : Int) (a0_2 : Int) (a0_3 : Int) (a0_4 : Int) (a0_5 : Int) (a0_6 : Int) : Option (Bool) := (laws_toRulRule.f a0_0 a0_1 a0_2 a0_3 a0_4 a0_5 a0_6).bind fun bt151 => ((spec_RulText.f k bt151.1 bt151.2.1 bt151.2.2.1 bt151.2.2.2.1 bt151.2.2.2.2.1 bt151.2.2.2.2.2.1 bt151.2.2.2.2.2.2).bind fun t158 => ((laws_toRulRule.f a0_0 a0_1 a0_2 a0_3 a0_4 a0_5 a0_6).bind fun bt159 => ((impl_RulText.f bt159.1 bt159.2.1 bt159.2.2.1 bt159.2.2.2.1 bt159.2.2.2.2.1 bt159.2.2.2.2.2.1 bt159.2.2.2.2.2.2).bind fun t166 => (if t166.toList = t158.toList then (some true) else (some false)))))
theorem laws_FnExactRulText.mono : ∀ a0 a1 a2 a3 a4 a5 a6 k, LeO (laws_FnExactRulText.f k a0 a1 a2 a3 a4 a5 a6) (laws_FnExactRulText.f (k + 1) a0 a1 a2 a3 a4 a5 a6) := by
  intro a0 a1 a2 a3 a4 a5 a6 k
  unfold laws_FnExactRulText.f
  repeat' first
      | (with_reducible exact spec_RulText.mono _ _ _ _ _ _ _ _)
      | (with_reducible exact LeO.refl _)
      | (with_reducible exact LeO.none _)
      | (with_reducible refine LeO.ite ?_ ?_)
      | (with_reducible refine LeO.bind ?_ (fun _ => ?_))
      | exact spec_RulText.mono _ _ _ _ _ _ _ _
      | exact LeO.none _
      | refine LeO.ite ?_ ?_
      | refine LeO.bind ?_ (fun _ => ?_)
set_option maxHeartbeats 8000000 in
set_option maxRecDepth 100000 in
theorem laws_FnExactRulText.calls (k : Nat) (a0_0 : Bool) (a0_1 : Int) (a0_2 : Int) (a0_3 : Int) (a0_4 : Int) (a0_5 : Int) (a0_6 : Int) (r : Bool) (w : World) (h : laws_FnExactRulText.f k a0_0 a0_1 a0_2 a0_3 a0_4 a0_5 a0_6 = some r) (hrt : Aside0 (r = true)) (hE : EnvT w) :
    Calls Tryd.prog 3 #[.agg #[.bool a0_0, .int .i64 a0_1, .int .i64 a0_2, .int .i64 a0_3, .int .i64 a0_4, .int .i64 a0_5, .int .i64 a0_6]] w fun e w' => e = .returned (.bool r) ∧ Below w.heap.size w w' := by
  have hu23 := Tryd.underlying23
  have HB := Aside0.mk (Below.refl w.heap.size w)
  have H : ((laws_toRulRule.f a0_0 a0_1 a0_2 a0_3 a0_4 a0_5 a0_6).bind fun bt151 => ((spec_RulText.f k bt151.1 bt151.2.1 bt151.2.2.1 bt151.2.2.2.1 bt151.2.2.2.2.1 bt151.2.2.2.2.2.1 bt151.2.2.2.2.2.2).bind fun t158 => ((laws_toRulRule.f a0_0 a0_1 a0_2 a0_3 a0_4 a0_5 a0_6).bind fun bt159 => ((impl_RulText.f bt159.1 bt159.2.1 bt159.2.2.1 bt159.2.2.2.1 bt159.2.2.2.2.1 bt159.2.2.2.2.2.1 bt159.2.2.2.2.2.2).bind fun t166 => (if t166.toList = t158.toList then (some true) else (some false)))))) = some r := h
  clear h
  replace H := Option.bind_eq_some_iff.mp H
  obtain ⟨⟨t151, t152, t153, t154, t155, t156, t157⟩, A20, H⟩ := H
  replace H : ((spec_RulText.f k t151 t152 t153 t154 t155 t156 t157).bind fun t158 => ((laws_toRulRule.f a0_0 a0_1 a0_2 a0_3 a0_4 a0_5 a0_6).bind fun bt159 => ((impl_RulText.f bt159.1 bt159.2.1 bt159.2.2.1 bt159.2.2.2.1 bt159.2.2.2.2.1 bt159.2.2.2.2.2.1 bt159.2.2.2.2.2.2).bind fun t166 => (if t166.toList = t158.toList then (some true) else (some false))))) = some r := H
  have A2 := Aside0.mk A20
  clear A20
  replace H := Option.bind_eq_some_iff.mp H
  obtain ⟨t158, A30, H⟩ := H
  replace H : ((laws_toRulRule.f a0_0 a0_1 a0_2 a0_3 a0_4 a0_5 a0_6).bind fun bt159 => ((impl_RulText.f bt159.1 bt159.2.1 bt159.2.2.1 bt159.2.2.2.1 bt159.2.2.2.2.1 bt159.2.2.2.2.2.1 bt159.2.2.2.2.2.2).bind fun t166 => (if t166.toList = t158.toList then (some true) else (some false)))) = some r := H
  have A3 := Aside0.mk A30
  clear A30
  replace H := Option.bind_eq_some_iff.mp H
  obtain ⟨⟨t159, t160, t161, t162, t163, t164, t165⟩, A40, H⟩ := H
  replace H : ((impl_RulText.f t159 t160 t161 t162 t163 t164 t165).bind fun t166 => (if t166.toList = t158.toList then (some true) else (some false))) = some r := H
  have A4 := Aside0.mk A40
  clear A40
  replace H := Option.bind_eq_some_iff.mp H
  obtain ⟨t166, A50, H⟩ := H
  replace H : (if t166.toList = t158.toList then (some true) else (some false)) = some r := H
  have A5 := Aside0.mk A50
  clear A50
  by_cases c6 : t166.toList = t158.toList
  · rw [if_pos c6] at H
    have c6b0 : (t166.toList == t158.toList) = true := beq_iff_eq.mpr c6
    have c6b1 : (t166.toList != t158.toList) = false := bne_eq_false_iff_eq.mpr c6
    clear c6
    obtain rfl := Option.some.inj H
    go_enter Tryd.func3, Tryd.ntmps3
    go_wp2_with (first | ((with_reducible refine gate_dst (N := 1) rfl ?_); refine box_event ?hg (N := 1) ?hd (cs := #[.bool a0_0, .int .i64 a0_1, .int .i64 a0_2, .int .i64 a0_3, .int .i64 a0_4, .int .i64 a0_5, .int .i64 a0_6]) (t := 23) ?hr ?_; (case hd => rfl); (case hg => rfl); (case hr => first | (go_simp; done) | (go_simp; rfl)); intro gb150 hg w7 hbox hb; have n0_ := Aside0.mk (below_step (bl HB) hb); have n1_ := Aside0.mk (hbox); have n2_ := Aside0.mk ((by rw [hg]; exact (below_size (bl HB)) : w.heap.size ≤ gb150)); have n3_ := Aside0.mk ((by rw [hg]; exact (below_size (bl HB)) : w.heap.size ≤ gb150)); clear HB; have HB := n0_; have BK150 := n1_; have GW150 := n2_; have GE150 := n3_; clear n0_ n1_ n2_ n3_; clear hb hbox hg; have hcz8_0 : w7.cell? ⟨gb150, 0, none⟩ = some (.bool a0_0) := (blk_cell BK150.out 0).trans rfl; have hcz8_1 : w7.cell? ⟨gb150, 1, none⟩ = some (.int .i64 a0_1) := (blk_cell BK150.out 1).trans rfl; have hcz8_2 : w7.cell? ⟨gb150, 2, none⟩ = some (.int .i64 a0_2) := (blk_cell BK150.out 2).trans rfl; have hcz8_3 : w7.cell? ⟨gb150, 3, none⟩ = some (.int .i64 a0_3) := (blk_cell BK150.out 3).trans rfl; have hcz8_4 : w7.cell? ⟨gb150, 4, none⟩ = some (.int .i64 a0_4) := (blk_cell BK150.out 4).trans rfl; have hcz8_5 : w7.cell? ⟨gb150, 5, none⟩ = some (.int .i64 a0_5) := (blk_cell BK150.out 5).trans rfl; have hcz8_6 : w7.cell? ⟨gb150, 6, none⟩ = some (.int .i64 a0_6) := (blk_cell BK150.out 6).trans rfl; have hfz8_0 := blk_frozen BK150.out 0; have hfz8_1 := blk_frozen BK150.out 1; have hfz8_2 := blk_frozen BK150.out 2; have hfz8_3 := blk_frozen BK150.out 3; have hfz8_4 := blk_frozen BK150.out 4; have hfz8_5 := blk_frozen BK150.out 5; have hfz8_6 := blk_frozen BK150.out 6) | ((with_reducible refine gate_callee (f := 7) rfl ?_); refine goesL_ (some 6) rfl rfl Tryd.func7 (by kernel_rfl) rfl #[.agg #[.bool a0_0, .int .i64 a0_1, .int .i64 a0_2, .int .i64 a0_3, .int .i64 a0_4, .int .i64 a0_5, .int .i64 a0_6]] rfl (by (try simp only [List.map_toArray, List.map_cons, List.map_nil]); first | done | rfl | (simp only [List.length_drop, List.length_take]; rfl)) ?_; (with_reducible refine (laws_toRulRule.calls a0_0 a0_1 a0_2 a0_3 a0_4 a0_5 a0_6 t151 t152 t153 t154 t155 t156 t157 _ A2.out).mono ?_); rintro e w9 ⟨rfl, hb⟩; refine ⟨_, rfl, ?_⟩; have n0_ := bkB BK150 hb; have n1_ := Aside0.mk (below_step (bl HB) hb); clear BK150; clear HB; have BK150 := n0_; have HB := n1_; clear n0_ n1_; (try clear hb); (try clear hb2); (try clear hk); (try clear hi)) | ((with_reducible refine gate_callee (f := 6) rfl ?_); refine goesL_ (some 7) rfl rfl Tryd.func6 (by kernel_rfl) rfl #[.agg #[.bool t151, .int .i64 t152, .int .i64 t153, .int .i64 t154, .int .i64 t155, .int .i64 t156, .int .i64 t157]] rfl (by (try simp only [List.map_toArray, List.map_cons, List.map_nil]); first | done | rfl | (simp only [List.length_drop, List.length_take]; rfl)) ?_; (with_reducible refine (spec_RulText.calls k t151 t152 t153 t154 t155 t156 t157 t158 _ A3.out).mono ?_); rintro e w10 ⟨rfl, hb⟩; refine ⟨_, rfl, ?_⟩; have n0_ := bkB BK150 hb; have n1_ := Aside0.mk (below_step (bl HB) hb); clear BK150; clear HB; have BK150 := n0_; have HB := n1_; clear n0_ n1_; (try clear hb); (try clear hb2); (try clear hk); (try clear hi); have hcz11_0 : w10.cell? ⟨gb150, 0, none⟩ = some (.bool a0_0) := (blk_cell BK150.out 0).trans rfl; have hcz11_1 : w10.cell? ⟨gb150, 1, none⟩ = some (.int .i64 a0_1) := (blk_cell BK150.out 1).trans rfl; have hcz11_2 : w10.cell? ⟨gb150, 2, none⟩ = some (.int .i64 a0_2) := (blk_cell BK150.out 2).trans rfl; have hcz11_3 : w10.cell? ⟨gb150, 3, none⟩ = some (.int .i64 a0_3) := (blk_cell BK150.out 3).trans rfl; have hcz11_4 : w10.cell? ⟨gb150, 4, none⟩ = some (.int .i64 a0_4) := (blk_cell BK150.out 4).trans rfl; have hcz11_5 : w10.cell? ⟨gb150, 5, none⟩ = some (.int .i64 a0_5) := (blk_cell BK150.out 5).trans rfl; have hcz11_6 : w10.cell? ⟨gb150, 6, none⟩ = some (.int .i64 a0_6) := (blk_cell BK150.out 6).trans rfl; have hfz11_0 := blk_frozen BK150.out 0; have hfz11_1 := blk_frozen BK150.out 1; have hfz11_2 := blk_frozen BK150.out 2; have hfz11_3 := blk_frozen BK150.out 3; have hfz11_4 := blk_frozen BK150.out 4; have hfz11_5 := blk_frozen BK150.out 5; have hfz11_6 := blk_frozen BK150.out 6) | ((with_reducible refine gate_callee (f := 7) rfl ?_); refine goesL_ (some 9) rfl rfl Tryd.func7 (by kernel_rfl) rfl #[.agg #[.bool a0_0, .int .i64 a0_1, .int .i64 a0_2, .int .i64 a0_3, .int .i64 a0_4, .int .i64 a0_5, .int .i64 a0_6]] rfl (by (try simp only [List.map_toArray, List.map_cons, List.map_nil]); first | done | rfl | (simp only [List.length_drop, List.length_take]; rfl)) ?_; (with_reducible refine (laws_toRulRule.calls a0_0 a0_1 a0_2 a0_3 a0_4 a0_5 a0_6 t159 t160 t161 t162 t163 t164 t165 _ A4.out).mono ?_); rintro e w12 ⟨rfl, hb⟩; refine ⟨_, rfl, ?_⟩; have n0_ := bkB BK150 hb; have n1_ := Aside0.mk (below_step (bl HB) hb); clear BK150; clear HB; have BK150 := n0_; have HB := n1_; clear n0_ n1_; (try clear hb); (try clear hb2); (try clear hk); (try clear hi)) | ((with_reducible refine gate_callee (f := 8) rfl ?_); refine goesL_ (some 10) rfl rfl Tryd.func8 (by kernel_rfl) rfl #[.agg #[.bool t159, .int .i64 t160, .int .i64 t161, .int .i64 t162, .int .i64 t163, .int .i64 t164, .int .i64 t165]] rfl (by (try simp only [List.map_toArray, List.map_cons, List.map_nil]); first | done | rfl | (simp only [List.length_drop, List.length_take]; rfl)) ?_; (with_reducible refine (impl_RulText.calls t159 t160 t161 t162 t163 t164 t165 t166 _ A5.out (EnvT.below hE (bl HB))).mono ?_); rintro e w13 ⟨rfl, hb⟩; refine ⟨_, rfl, ?_⟩; have n0_ := bkB BK150 hb; have n1_ := Aside0.mk (below_step (bl HB) hb); clear BK150; clear HB; have BK150 := n0_; have HB := n1_; clear n0_ n1_; (try clear hb); (try clear hb2); (try clear hk); (try clear hi)))
    go_ret
    exact ⟨by first | rfl | (simp [errW_none, errW_some] <;> rfl) | (simp [*, errW_none, errW_some] <;> rfl), by repeat (first | (with_reducible first | exact HB.out | apply below_alloc | apply pw_below_drewN | apply below_drew1 | refine below_set ?_ GE150.out) | exact HB.out)⟩
  · rw [if_neg c6] at H
    have c6b0 : (t166.toList == t158.toList) = false := beq_eq_false_iff_ne.mpr c6
    have c6b1 : (t166.toList != t158.toList) = true := bne_iff_ne.mpr c6
    exact absurd ((Option.some.inj H).trans hrt.out) (by decide)

end Go.Proofs.YtiocgkggegahhaaDoor.P

/- The plain law of FnExactRulText: what the printed law computes is true. -/
namespace Go.Proofs.YtiocgkggegahhaaDoor.P
open Go.RowKit Go.Proofs.YtiocgkggegahhaaDoorUFnExactRulText.PrintWords Go.Proofs.YtiocgkggegahhaaDoorUFnExactRulText.PrintLast Go.Proofs.YtiocgkggegahhaaDoorUFnExactRulText.PrintMore
set_option linter.unusedVariables false
set_option linter.unusedSimpArgs false
def laws_FnExactRulText.Pure : Prop := ∀ (b : Bool) (n1 n2 n3 n4 n5 n6 : Int), ∃ k, laws_FnExactRulText.f k b n1 n2 n3 n4 n5 n6 = some true
theorem laws_FnExactRulText.pure : laws_FnExactRulText.Pure := by
  intro b n1 n2 n3 n4 n5 n6
  have A : Ans (fun k => laws_FnExactRulText.f k b n1 n2 n3 n4 n5 n6) (fun r => r = true) := by
    unfold laws_FnExactRulText.f laws_toRulRule.f
    refine Ans.bsome (Ans.bind (specRulText_a b n1 n2 n3 n4 n5 n6) ?_)
    rintro v rfl
    refine Ans.bsome ?_
    simp only
    rw [implRulText_f]
    exact Ans.bsome (Ans.pos rfl (Ans.pure rfl))
  obtain ⟨k, v, rfl, h⟩ := A.got
  exact ⟨k, h⟩
end Go.Proofs.YtiocgkggegahhaaDoor.P
