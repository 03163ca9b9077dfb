import Derived.Test.YtiocgkggegahhaaGLawFnExactMapPutx3
-- written by hw.py for this claim
namespace Go.Proofs.Ytiocgkggegahhaa.P
open Go.RowKit Go.Proofs.YtiocgkggegahhaaUFnExactMapPut.PrintWords Go.Proofs.YtiocgkggegahhaaUFnExactMapPut.PrintLast Go.Proofs.YtiocgkggegahhaaUFnExactMapPut.PrintMore
attribute [local go_sem] max2_int min2_int max_two min_two max_three min_three max_four min_four
set_option linter.unusedVariables false
set_option linter.unusedSimpArgs false

/-! ### spec_l20Table: function 91 -/
mutual
def spec_l20Table.l0 : Nat → Int → Int → List Int → Int → List (S29) → Option ((List (S29)) × Int)
  | 0, _, _, _, _, _ => none
  | k + 1, x1, x6, x1000, x1001, x556000 => if x6 > 0 then ((spec_l20In.f k x1000 x1001).bind fun bt558 => ((spec_MapPut.f k x556000 bt558.1 bt558.2.1).bind fun bt561 => (spec_l20Table.l0 k x1 (wrap64 (x6 - 1)) x1000 bt558.2.2 bt561.1))) else ((spec_l20Rd_odd.f k x1000 x1001 x1).bind fun bt566 => (if bt566.1 = true then ((spec_l20Rd_pick.f k x1000 bt566.2 3).bind fun bt568 => (if bt568.1 = 0 then ((spec_l20Out.f k x1000 bt568.2).bind fun bt570 => (if x556000.length < 8796093022208 then (some ((x556000 ++ [(⟨bt570.1, bt570.2.1⟩ : S29)]), bt570.2.2)) else (none))) else (if bt568.1 = 1 then (if x556000.length < 8796093022208 then ((some (x556000 ++ [(⟨9, 9⟩ : S29)] : List (S29))).bind fun y576 => (if y576.length < 8796093022208 then (some ((y576 ++ [(⟨9, 9⟩ : S29)]), bt568.2)) else (none))) else (none)) else (spec_l20Table.l1 k x1000 bt568.2 x556000)))) else (some (x556000, bt566.2))))
def spec_l20Table.l1 : Nat → List Int → Int → List (S29) → Option ((List (S29)) × Int)
  | 0, _, _, _ => none
  | k + 1, x1000, x1001, x556000 => if (x556000.length : Int) ≤ 6 then (if x556000.length < 8796093022208 then (spec_l20Table.l1 k x1000 x1001 (x556000 ++ [(⟨8, wrap64 (1 + (x556000.length : Int))⟩ : S29)])) else (none)) else (some (x556000, x1001))
end
def spec_l20Table.f (k : Nat) (s0_0 : List Int) (s0_1 : Int) (a1 : Int) : Option ((List (S29)) × Int) := (spec_l20Rd_pick.f k s0_0 s0_1 8).bind fun bt556 => (spec_l20Table.l0 k a1 bt556.1 s0_0 bt556.2 ([] : List (S29)))
theorem spec_l20Table.mono_l : ∀ k, (∀ y0 y1 y2 y3 y4, LeO (spec_l20Table.l0 k y0 y1 y2 y3 y4) (spec_l20Table.l0 (k + 1) y0 y1 y2 y3 y4)) ∧ (∀ y0 y1 y2, LeO (spec_l20Table.l1 k y0 y1 y2) (spec_l20Table.l1 (k + 1) y0 y1 y2))
  | 0 => ⟨fun _ _ _ _ _ r h => by simp [spec_l20Table.l0] at h, fun _ _ _ r h => by simp [spec_l20Table.l1] at h⟩
  | k + 1 => by
    obtain ⟨ih0, ih1⟩ := spec_l20Table.mono_l k
    refine ⟨?_, ?_⟩
    · intro y0 y1 y2 y3 y4
      unfold spec_l20Table.l0
      repeat' first
      | (with_reducible exact ih0 _ _ _ _ _)
      | (with_reducible exact ih1 _ _ _)
      | (with_reducible exact spec_MapPut.mono _ _ _ _)
      | (with_reducible exact spec_l20In.mono _ _ _)
      | (with_reducible exact spec_l20Out.mono _ _ _)
      | (with_reducible exact spec_l20Rd_odd.mono _ _ _ _)
      | (with_reducible exact spec_l20Rd_pick.mono _ _ _ _)
      | (with_reducible exact LeO.refl _)
      | (with_reducible exact LeO.none _)
      | (with_reducible refine LeO.ite ?_ ?_)
      | (with_reducible refine LeO.bind ?_ (fun _ => ?_))
      | exact ih0 _ _ _ _ _
      | exact ih1 _ _ _
      | exact spec_MapPut.mono _ _ _ _
      | exact spec_l20In.mono _ _ _
      | exact spec_l20Out.mono _ _ _
      | exact spec_l20Rd_odd.mono _ _ _ _
      | exact spec_l20Rd_pick.mono _ _ _ _
      | exact LeO.none _
      | refine LeO.ite ?_ ?_
      | refine LeO.bind ?_ (fun _ => ?_)
    · intro y0 y1 y2
      unfold spec_l20Table.l1
      repeat' first
      | (with_reducible exact ih0 _ _ _ _ _)
      | (with_reducible exact ih1 _ _ _)
      | (with_reducible exact spec_MapPut.mono _ _ _ _)
      | (with_reducible exact spec_l20In.mono _ _ _)
      | (with_reducible exact spec_l20Out.mono _ _ _)
      | (with_reducible exact spec_l20Rd_odd.mono _ _ _ _)
      | (with_reducible exact spec_l20Rd_pick.mono _ _ _ _)
      | (with_reducible exact LeO.refl _)
      | (with_reducible exact LeO.none _)
      | (with_reducible refine LeO.ite ?_ ?_)
      | (with_reducible refine LeO.bind ?_ (fun _ => ?_))
      | exact ih0 _ _ _ _ _
      | exact ih1 _ _ _
      | exact spec_MapPut.mono _ _ _ _
      | exact spec_l20In.mono _ _ _
      | exact spec_l20Out.mono _ _ _
      | exact spec_l20Rd_odd.mono _ _ _ _
      | exact spec_l20Rd_pick.mono _ _ _ _
      | exact LeO.none _
      | refine LeO.ite ?_ ?_
      | refine LeO.bind ?_ (fun _ => ?_)
theorem spec_l20Table.mono : ∀ a0 a1 a2 k, LeO (spec_l20Table.f k a0 a1 a2) (spec_l20Table.f (k + 1) a0 a1 a2) := by
  intro a0 a1 a2 k
  obtain ⟨ih0, ih1⟩ := spec_l20Table.mono_l k
  unfold spec_l20Table.f
  repeat' first
      | (with_reducible exact ih0 _ _ _ _ _)
      | (with_reducible exact ih1 _ _ _)
      | (with_reducible exact spec_MapPut.mono _ _ _ _)
      | (with_reducible exact spec_l20In.mono _ _ _)
      | (with_reducible exact spec_l20Out.mono _ _ _)
      | (with_reducible exact spec_l20Rd_odd.mono _ _ _ _)
      | (with_reducible exact spec_l20Rd_pick.mono _ _ _ _)
      | (with_reducible exact LeO.refl _)
      | (with_reducible exact LeO.none _)
      | (with_reducible refine LeO.ite ?_ ?_)
      | (with_reducible refine LeO.bind ?_ (fun _ => ?_))
      | exact ih0 _ _ _ _ _
      | exact ih1 _ _ _
      | exact spec_MapPut.mono _ _ _ _
      | exact spec_l20In.mono _ _ _
      | exact spec_l20Out.mono _ _ _
      | exact spec_l20Rd_odd.mono _ _ _ _
      | exact spec_l20Rd_pick.mono _ _ _ _
      | exact LeO.none _
      | refine LeO.ite ?_ ?_
      | refine LeO.bind ?_ (fun _ => ?_)
def spec_l20Table.T5 : Bool × List (List Nat × List Nat) := (true, [([], []), ([], []), ([1], [1]), ([0, 2, 2], [0, 2]), ([3], [3]), ([4], [4]), ([4], [4]), ([], []), ([7, 5, 3, 0, 1, 2, 3, 4, 5, 7], [5, 7]), ([6, 8, 0, 1, 2, 3, 4, 5, 6, 7, 8], [6])])
def spec_l20Table.B5 : List Nat := [0, 0, 2, 7, 15, 31, 31, 0, 191, 511]
theorem spec_l20Table.tab5 : rtab .any (opsOf Try.f91 5) = spec_l20Table.T5 := by kernel_rfl
theorem spec_l20Table.bits5 : waitsOk spec_l20Table.T5.2 spec_l20Table.B5 = true := by kernel_rfl
def spec_l20Table.T12 : Bool × List (List Nat × List Nat) := (true, [([], []), ([0], [0]), ([], []), ([2], [2]), ([3], [3]), ([1, 4, 3], [1, 4]), ([0, 1, 2, 3, 4, 5], []), ([6, 5, 5, 0, 1, 2, 3, 4, 5], [5, 6])])
def spec_l20Table.B12 : List Nat := [0, 1, 0, 4, 12, 31, 63, 127]
theorem spec_l20Table.tab12 : rtab .any (opsOf Try.f91 12) = spec_l20Table.T12 := by kernel_rfl
theorem spec_l20Table.bits12 : waitsOk spec_l20Table.T12.2 spec_l20Table.B12 = true := by kernel_rfl
set_option maxHeartbeats 8000000 in
set_option maxRecDepth 100000 in
theorem spec_l20Table.calls (k : Nat) (g : Nat) (s0_0 : List Int) (s0_1 : Int) (a1 : Int) (r1 : List (S29)) (r2 : Int) (w0 w : World) (hI : IsS102 w0 w g s0_0 s0_1) (hB : Below w0.heap.size w0 w) (h : spec_l20Table.f k s0_0 s0_1 a1 = some (r1, r2)) :
    Calls Try.prog 91 #[.pointer (some ⟨g, 0, none⟩), .int .i64 a1] w fun e w' => ∃ v0_ : Value, e = .returned (.agg #[v0_]) ∧ Kd.R k29 29 w' w.heap.size (fun _ => True) v0_ r1 ∧ IsS102 w0 w' g s0_0 r2 ∧ Below w0.heap.size w0 w' ∧ KeepBut w w' g none := by
  have hu45 := Try.underlying45
  have hu29 := Try.underlying29
  have HI0 := Aside0.mk hI
  have HK := Aside0.mk (KeepBut.refl w g none)
  have HL := Aside0.mk hB.size
  clear hI
  have HW0 := Aside0.mk hB.size
  have HB := Aside0.mk hB
  clear hB
  have H : ((spec_l20Rd_pick.f k s0_0 s0_1 8).bind fun bt556 => (spec_l20Table.l0 k a1 bt556.1 s0_0 bt556.2 ([] : List (S29)))) = some (r1, r2) := h
  clear h
  replace H := Option.bind_eq_some_iff.mp H
  obtain ⟨⟨t556, t557⟩, A30, H⟩ := H
  replace H : (spec_l20Table.l0 k a1 t556 s0_0 t557 ([] : List (S29))) = some (r1, r2) := H
  have A3 := Aside0.mk A30
  clear A30
  have H' := Aside0.mk H
  clear H
  go_enter Try.func91, Try.ntmps91
  go_wp2_with (first | ((with_reducible refine gate_dst (N := 4) rfl ?_); refine box_event ?hg (N := 4) ?hd (cs := #[.slice none 0 0]) (t := 45) ?hr ?_; (case hd => rfl); (case hg => rfl); (case hr => first | (go_simp; done) | (go_simp; rfl)); intro gb554 hg w4 hbox hb; have n0_ := Aside0.mk (IsS102.below (by repeat (first | (with_reducible first | exact HI0.out | apply IsS102.alloc | apply IsS102.drewN | apply IsS102.drew | apply IsS102.set_1) | exact HI0.out)) hb); have n1_ := Aside0.mk (KeepBut.trans (by repeat (first | (with_reducible first | exact HK.out | apply KeepBut.set_ | apply keep_drewN | apply keep_drew | apply keep_alloc) | exact HK.out)) (KeepBut.of_below hb g none) (.inl rfl)); have n2_ := Aside0.mk (below_step (by repeat (first | (with_reducible first | exact HB.out | apply below_alloc | apply pw_below_drewN | apply below_drew1 | refine below_set ?_ (IsS102.ge HI0.out)) | exact HB.out)) hb); have n3_ := Aside0.mk (hbox); have n4_ := Aside0.mk ((by rw [hg]; exact (keep_size (w := w) (g := g) (row := none) (by repeat (first | (with_reducible first | exact HK.out | apply KeepBut.set_ | apply keep_drewN | apply keep_drew | apply keep_alloc) | exact HK.out))) : w.heap.size ≤ gb554)); have n5_ := Aside0.mk ((Nat.le_trans HW0.out (by rw [hg]; exact (keep_size (w := w) (g := g) (row := none) (by repeat (first | (with_reducible first | exact HK.out | apply KeepBut.set_ | apply keep_drewN | apply keep_drew | apply keep_alloc) | exact HK.out))) : w.heap.size ≤ gb554) : w0.heap.size ≤ gb554)); have n6_ := Aside0.mk ((by rw [hg]; exact Nat.ne_of_lt (IsS102.lt (show IsS102 w0 _ g s0_0 s0_1 from by repeat (first | (with_reducible first | exact HI0.out | apply IsS102.alloc | apply IsS102.drewN | apply IsS102.drew | apply IsS102.set_1) | exact HI0.out))) : g ≠ gb554)); have n7_ := Aside0.mk ((by rw [hg]; exact Nat.ne_of_gt (IsS102.lt (show IsS102 w0 _ g s0_0 s0_1 from by repeat (first | (with_reducible first | exact HI0.out | apply IsS102.alloc | apply IsS102.drewN | apply IsS102.drew | apply IsS102.set_1) | exact HI0.out))) : gb554 ≠ g)); clear HI0; clear HK; clear HB; have HI0 := n0_; have HK := n1_; have HB := n2_; have BK554 := n3_; have GW554 := n4_; have GE554 := n5_; have NB0_554 := n6_; have NB554_0 := n7_; clear n0_ n1_ n2_ n3_ n4_ n5_ n6_ n7_; clear hb hbox hg) | ((with_reducible refine gate_dst (N := 5) rfl ?_); refine box_event ?hg (N := 5) ?hd (cs := #[.slice none 0 0]) (t := 45) ?hr ?_; (case hd => rfl); (case hg => rfl); (case hr => first | (go_simp; done) | (go_simp; rfl)); intro gb555 hg w5 hbox hb; have n0_ := Aside0.mk (IsS102.below (by repeat (first | (with_reducible first | exact HI0.out | apply IsS102.alloc | apply IsS102.drewN | apply IsS102.drew | apply IsS102.set_1 | refine IsS102.far ?_ NB0_554.out _) | exact HI0.out)) hb); have n1_ := bkB BK554 hb; have n2_ := Aside0.mk (KeepBut.trans (by repeat (first | (with_reducible first | exact HK.out | apply KeepBut.set_ | apply keep_drewN | apply keep_drew | apply keep_alloc | refine keep_far ?_ GW554.out _) | exact HK.out)) (KeepBut.of_below hb g none) (.inl rfl)); have n3_ := Aside0.mk (below_step (by repeat (first | (with_reducible first | exact HB.out | apply below_alloc | apply pw_below_drewN | apply below_drew1 | refine below_set ?_ (IsS102.ge HI0.out) | refine below_set ?_ GE554.out) | exact HB.out)) hb); have n4_ := Aside0.mk (hbox); have n5_ := Aside0.mk ((by rw [hg]; exact (keep_size (w := w) (g := g) (row := none) (by repeat (first | (with_reducible first | exact HK.out | apply KeepBut.set_ | apply keep_drewN | apply keep_drew | apply keep_alloc | refine keep_far ?_ GW554.out _) | exact HK.out))) : w.heap.size ≤ gb555)); have n6_ := Aside0.mk ((Nat.le_trans HW0.out (by rw [hg]; exact (keep_size (w := w) (g := g) (row := none) (by repeat (first | (with_reducible first | exact HK.out | apply KeepBut.set_ | apply keep_drewN | apply keep_drew | apply keep_alloc | refine keep_far ?_ GW554.out _) | exact HK.out))) : w.heap.size ≤ gb555) : w0.heap.size ≤ gb555)); have n7_ := Aside0.mk ((by rw [hg]; exact Nat.ne_of_lt (bkL BK554) : gb554 ≠ gb555)); have n8_ := Aside0.mk ((by rw [hg]; exact Nat.ne_of_gt (bkL BK554) : gb555 ≠ gb554)); have n9_ := Aside0.mk ((by rw [hg]; exact Nat.ne_of_lt (IsS102.lt (show IsS102 w0 _ g s0_0 s0_1 from by repeat (first | (with_reducible first | exact HI0.out | apply IsS102.alloc | apply IsS102.drewN | apply IsS102.drew | apply IsS102.set_1 | refine IsS102.far ?_ NB0_554.out _) | exact HI0.out))) : g ≠ gb555)); have n10_ := Aside0.mk ((by rw [hg]; exact Nat.ne_of_gt (IsS102.lt (show IsS102 w0 _ g s0_0 s0_1 from by repeat (first | (with_reducible first | exact HI0.out | apply IsS102.alloc | apply IsS102.drewN | apply IsS102.drew | apply IsS102.set_1 | refine IsS102.far ?_ NB0_554.out _) | exact HI0.out))) : gb555 ≠ g)); clear HI0; clear BK554; clear HK; clear HB; have HI0 := n0_; have BK554 := n1_; have HK := n2_; have HB := n3_; have BK555 := n4_; have GW555 := n5_; have GE555 := n6_; have NB554_555 := n7_; have NB555_554 := n8_; have NB0_555 := n9_; have NB555_0 := n10_; clear n0_ n1_ n2_ n3_ n4_ n5_ n6_ n7_ n8_ n9_ n10_; clear hb hbox hg; have hnb6 := NB555_554.out; have hnc6 := NB554_555.out; have hnb7 := NB555_0.out; have hnc7 := NB0_555.out; have hcz8_0 : w5.cell? ⟨gb555, 0, none⟩ = some (.slice none 0 0) := (blk_cell BK555.out 0).trans rfl; have hfz8_0 := blk_frozen BK555.out 0) | ((with_reducible refine gate_callee (f := 58) rfl ?_); refine goesL_ (some 11) rfl rfl Try.func58 (by kernel_rfl) rfl #[.pointer (some ⟨g, 0, none⟩), .int .i64 8] rfl (by (try simp only [List.map_toArray, List.map_cons, List.map_nil]); first | done | rfl | (simp only [List.length_drop, List.length_take]; rfl)) ?_; (with_reducible refine (spec_l20Rd_pick.calls k g s0_0 s0_1 8 t556 t557 w0 _ ?side1 ?side2 A3.out).mono ?_); (case side1 => repeat (first | (with_reducible first | exact HI0.out | apply IsS102.alloc | apply IsS102.drewN | apply IsS102.drew | apply IsS102.set_1 | refine IsS102.far ?_ NB0_554.out _ | refine IsS102.far ?_ NB0_555.out _) | exact HI0.out)); (case side2 => repeat (first | (with_reducible first | exact HB.out | apply below_alloc | apply pw_below_drewN | apply below_drew1 | refine below_set ?_ (IsS102.ge HI0.out) | refine below_set ?_ GE554.out | refine below_set ?_ GE555.out) | exact HB.out)); rintro e w9 ⟨rfl, hi, hb, hk⟩; refine ⟨_, rfl, ?_⟩; have n0_ := Aside0.mk (KeepBut.blk hk (g' := gb554) (o := .cells #[.slice none 0 0] 45 (0, 0)) (by (with_reducible repeat refine bu ?_); refine blk_far ?_ NB554_555.out _; (with_reducible repeat refine bu ?_); exact BK554.out) NB554_0.out (by simp)); have n1_ := Aside0.mk (KeepBut.blk hk (g' := gb555) (o := .cells #[.slice none 0 0] 45 (0, 0)) (by (with_reducible repeat refine bu ?_); refine blk_put (cs := #[.slice none 0 0]) ?_ 0 _ rfl; (with_reducible repeat refine bu ?_); exact BK555.out) NB555_0.out (by simp)); have n2_ := Aside0.mk (KeepBut.trans (by repeat (first | (with_reducible first | exact HK.out | apply KeepBut.set_ | apply keep_drewN | apply keep_drew | apply keep_alloc | refine keep_far ?_ GW554.out _ | refine keep_far ?_ GW555.out _) | exact HK.out)) hk (.inl rfl)); have n3_ := Aside0.mk (hb); have n4_ := Aside0.mk (hi); clear BK554; clear BK555; clear HK; clear HB; clear HI0; have BK554 := n0_; have BK555 := n1_; have HK := n2_; have HB := n3_; have HI0 := n4_; clear n0_ n1_ n2_ n3_ n4_; (try clear hb); (try clear hb2); (try clear hk); (try clear hi)))
  go_loopg [6] k (fun kq v6 w' => ∃ (x6_1 : Int) (x1001_1 : Int) (x556000_1 : List (S29)) (u556000 : Value), v6 = .int .i64 x6_1 ∧ Aside0 (spec_l20Table.l0 kq a1 x6_1 s0_0 x1001_1 x556000_1 = some (r1, r2)) ∧ Aside0 (kq ≤ k) ∧ Aside0 (Kd.R k29 29 w' w.heap.size (fun _ => True) u556000 x556000_1) ∧ Aside0 (w'.heap[gb554]? = some (.cells #[(.slice none 0 0)] 45 (0, 0))) ∧ Aside0 (w'.heap[gb555]? = some (.cells #[u556000] 45 (0, 0))) ∧ Aside0 (IsS102 w0 w' g s0_0 x1001_1) ∧ Aside0 (KeepBut w w' g none) ∧ Aside0 (Below w0.heap.size w0 w'))
  case atStart => exact ⟨(t556), (t557), (([] : List (S29))), (.slice none 0 0), (by first | rfl | (simp; done) | (simp [*]; done)), H', ⟨Nat.le_refl _⟩, ⟨by first | exact Kd.R_nil _ _ _ _ _ | exact Kd.N_nil _ _ _ _ _ | exact Kd.V_nil _ _ _ _ _ | exact Kd.Q_nil _ _ _ _ _ | exact Kd.S_nil _ _ _ _ _⟩, ⟨by (with_reducible repeat refine bu ?_); exact BK554.out⟩, ⟨by (with_reducible repeat refine bu ?_); exact BK555.out⟩, ⟨by repeat (first | (with_reducible first | exact HI0.out | apply IsS102.alloc | apply IsS102.drewN | apply IsS102.drew | apply IsS102.set_1 | refine IsS102.far ?_ NB0_554.out _ | refine IsS102.far ?_ NB0_555.out _) | exact HI0.out)⟩, ⟨by repeat (first | (with_reducible first | exact HK.out | apply KeepBut.set_ | apply keep_drewN | apply keep_drew | apply keep_alloc | refine keep_far ?_ GW554.out _ | refine keep_far ?_ GW555.out _) | exact HK.out)⟩, ⟨by repeat (first | (with_reducible first | exact HB.out | apply below_alloc | apply pw_below_drewN | apply below_drew1 | refine below_set ?_ (IsS102.ge HI0.out) | refine below_set ?_ GE554.out | refine below_set ?_ GE555.out) | exact HB.out)⟩⟩
  case round =>
    clear H'
    try clear p2
    try clear c5
    try clear c6
    try clear c7
    try clear c9
    try clear hcz8_0
    try clear hfz8_0
    obtain ⟨x6_1, x1001_1, x556000_1, u556000, rfl, HA, HK1, HO_556000, BK554, BK555, HI0, HK, HB⟩ := hrel
    cases gk with
    | zero => exact absurd HA.out (by simp [spec_l20Table.l0])
    | succ k1 =>
      have H := HA.out
      clear HA
      simp only [spec_l20Table.l0] at H
      by_cases c10 : x6_1 > 0
      · rw [if_pos c10] at H
        have c10b0 : decide (0 < x6_1) = true := decide_eq_true c10
        clear c10
        replace H := Option.bind_eq_some_iff.mp H
        obtain ⟨⟨t558, t559, t560⟩, A110, H⟩ := H
        replace H : ((spec_MapPut.f k1 x556000_1 t558 t559).bind fun bt561 => (spec_l20Table.l0 k1 a1 (wrap64 (x6_1 - 1)) s0_0 t560 bt561.1)) = some (r1, r2) := H
        have A11 := Aside0.mk A110
        clear A110
        replace H := Option.bind_eq_some_iff.mp H
        obtain ⟨⟨t561, t564⟩, A120, H⟩ := H
        replace H : (spec_l20Table.l0 k1 a1 (wrap64 (x6_1 - 1)) s0_0 t560 t561) = some (r1, r2) := H
        have A12 := Aside0.mk A120
        clear A120
        have H' := Aside0.mk H
        clear H
        obtain ⟨Ao13, co13, eo13⟩ := Kd.R_slice HO_556000.out
        subst eo13
        try go_wp2
        have n0_ := Aside0.mk (Kd.R_drew HO_556000.out)
        have n1_ := Aside0.mk (blk_drew BK554.out)
        have n2_ := Aside0.mk (blk_drew BK555.out)
        have n3_ := Aside0.mk (IsS102.drew HI0.out)
        have n4_ := Aside0.mk (keep_drew HK.out)
        have n5_ := Aside0.mk (below_drew1 HB.out)
        clear HO_556000
        clear BK554
        clear BK555
        clear HI0
        clear HK
        clear HB
        have HO_556000 := n0_
        have BK554 := n1_
        have BK555 := n2_
        have HI0 := n3_
        have HK := n4_
        have HB := n5_
        clear n0_ n1_ n2_ n3_ n4_ n5_
        refine start_ (n := 10) (S := fun w' => w'.cell? ⟨gb555, 0, none⟩ = some (.slice Ao13 x556000_1.length co13)) (ds := []) #[false, false, false, false, false, false, false, false, false, false] (by kernel_rfl) rfl rfl ((blk_cell BK555.out 0).trans rfl) (fun hHeld => ?_); refine with_tabW spec_l20Table.tab5 spec_l20Table.bits5 (fun HT_ HW_ => ?_)
        generalize wr.drew = w14 at HO_556000 BK554 BK555 HI0 HK HB hHeld ⊢
        refine pure_ (i := 1) (N := some 18) (v := ?_) (a' := ?_) #[false, true, false, false, false, false, false, false, false, false] rfl rfl (any_of HT_.out (by kernel_rfl)) (fun _ _ _ h => h) (Or.inl ⟨by rfl, ?_⟩) ?_ ?_
        rotate_left
        · intro w'
          go_simp
          with_reducible rfl
        rotate_left
        · simp only [Act.put, List.setIfInBounds_toArray, List.set_cons_zero, List.set_cons_succ, i64_w, i32_w]
          rfl
        refine take_ (i := 0) (N := some 17) (v := ?_) (a' := ?_) #[true, true, false, false, false, false, false, false, false, false] rfl rfl (take_ofW HT_.out HW_.out (by kernel_rfl)) (fun _ _ _ h => h) (Or.inl ⟨by rfl, ?_⟩) hHeld ?_ ?_
        rotate_left
        · intro w' s0
          go_simp
          with_reducible rfl
        rotate_left
        · simp only [Act.put, List.setIfInBounds_toArray, List.set_cons_zero, List.set_cons_succ, i64_w, i32_w]
          rfl
        refine join_ (σ := Value × Nat) 2 #[true, true, true, true, true, true, true, true, false, false] (fun s_ => [(19, .agg #[.int .i64 t558, .int .i64 t559]), (20, .tuple #[.agg #[s_.1], .int .i64 t564]), (7, .pointer (some ⟨s_.2, 0, none⟩)), (16, .tuple #[.agg #[s_.1], .int .i64 t564]), (21, .agg #[s_.1]), (22, .int .i64 t564)]) (fun s_ w' => (w'.cell? ⟨gb555, 0, none⟩ = some (.slice Ao13 x556000_1.length co13)) ∧ (Kd.R k29 29 w' w.heap.size (fun k_ => some k_ ≠ (.slice Ao13 x556000_1.length co13 : Value).ownBlock) s_.1 t561) ∧ (Kd.R k29 29 w' w.heap.size (fun k_ => some k_ ≠ (s_.1 : Value).ownBlock) (.slice Ao13 x556000_1.length co13) x556000_1) ∧ (w'.heap[gb554]? = some (.cells #[.slice none 0 0] 45 (0, 0))) ∧ (w'.heap[gb555]? = some (.cells #[.slice Ao13 x556000_1.length co13] 45 (0, 0))) ∧ (w'.heap[s_.2]? = some (.cells #[.slice none 0 0] 45 (0, 0))) ∧ (w.heap.size ≤ s_.2) ∧ (w0.heap.size ≤ s_.2) ∧ (g ≠ s_.2) ∧ (s_.2 ≠ g) ∧ (gb554 ≠ s_.2) ∧ (s_.2 ≠ gb554) ∧ (gb555 ≠ s_.2) ∧ (s_.2 ≠ gb555) ∧ (IsS102 w0 w' g s0_0 t560) ∧ (KeepBut w w' g none) ∧ (Below w0.heap.size w0 w')) ?_ ?_
        rotate_left
        · intro hCont
          refine two_ (i := 2) (j := 7) (Ni := some 19) (Nj := some 7) #[true, true, true, false, false, false, false, false, false, false] #[true, true, false, false, false, false, false, true, false, false] rfl rfl rfl rfl (two_of HT_.out (by kernel_rfl)) (by decide) (by decide) (fun K hK => ?_) (fun K hK => ?_)
          · skip
            refine goes_ Try.func61 (by kernel_rfl) rfl #[.pointer (some ⟨g, 0, none⟩)] (by rfl) rfl rfl (by (try simp only [List.map_toArray, List.map_cons, List.map_nil]); first | done | rfl | (simp only [List.length_drop, List.length_take]; rfl)) ?_
            with_reducible refine (spec_l20In.calls k1 g s0_0 x1001_1 t558 t559 t560 w0 _ ?side1 ?side2 A11.out).mono ?_
            (case side1 => repeat (first | (with_reducible first | exact HI0.out | apply IsS102.alloc | apply IsS102.drewN | apply IsS102.drew | apply IsS102.set_1 | refine IsS102.far ?_ NB0_554.out _ | refine IsS102.far ?_ NB0_555.out _) | exact HI0.out))
            (case side2 => repeat (first | (with_reducible first | exact HB.out | apply below_alloc | apply pw_below_drewN | apply below_drew1 | refine below_set ?_ (IsS102.ge HI0.out) | refine below_set ?_ GE554.out | refine below_set ?_ GE555.out) | exact HB.out))
            rintro e w15 ⟨rfl, hi, hb, hk⟩
            refine ⟨_, rfl, ?_⟩
            have n0_ := Aside0.mk (Kd.R_mono (Kd.R_keep (IsS102.apart (show IsS102 w0 _ g s0_0 x1001_1 from by repeat (first | (with_reducible first | exact HI0.out | apply IsS102.alloc | apply IsS102.drewN | apply IsS102.drew | apply IsS102.set_1 | refine IsS102.far ?_ NB0_554.out _ | refine IsS102.far ?_ NB0_555.out _) | exact HI0.out)) (rs HO_556000) (by decide)) hk (fun _ h => h.2)) (fun _ h => h.1))
            have n1_ := Aside0.mk (KeepBut.blk hk (g' := gb554) (o := .cells #[.slice none 0 0] 45 (0, 0)) (bk BK554) NB554_0.out (by simp))
            have n2_ := Aside0.mk (KeepBut.blk hk (g' := gb555) (o := .cells #[.slice Ao13 x556000_1.length co13] 45 (0, 0)) (bk BK555) NB555_0.out (by simp))
            have n3_ := Aside0.mk (KeepBut.trans (by repeat (first | (with_reducible first | exact HK.out | apply KeepBut.set_ | apply keep_drewN | apply keep_drew | apply keep_alloc | refine keep_far ?_ GW554.out _ | refine keep_far ?_ GW555.out _) | exact HK.out)) hk (.inl rfl))
            have n4_ := Aside0.mk (hb)
            have n5_ := Aside0.mk (hi)
            clear HO_556000
            clear BK554
            clear BK555
            clear HK
            clear HB
            clear HI0
            have HO_556000 := n0_
            have BK554 := n1_
            have BK555 := n2_
            have HK := n3_
            have HB := n4_
            have HI0 := n5_
            clear n0_ n1_ n2_ n3_ n4_ n5_
            (try clear hb)
            (try clear hb2)
            (try clear hk)
            (try clear hi)
            refine hK.out _ _ ((blk_cell BK555.out 0).trans rfl) (fun hHeld => ?_)
            clear hK K
            refine norm_ (a' := ?_) ?_ ?_
            rotate_left
            · show Act.put _ (some 19) _ = _
              simp only [Act.put, List.setIfInBounds_toArray, List.set_cons_zero, List.set_cons_succ, i64_w, i32_w]
              rfl
            refine two_ (i := 3) (j := 7) (Ni := some 20) (Nj := some 7) #[true, true, true, true, false, false, false, false, false, false] #[true, true, true, false, false, false, false, true, false, false] rfl rfl rfl rfl (two_of HT_.out (by kernel_rfl)) (by decide) (by decide) (fun K hK => ?_) (fun K hK => ?_)
            · skip
              refine goes_ Try.func29 (by kernel_rfl) rfl #[.agg #[.slice Ao13 x556000_1.length co13], .agg #[.int .i64 t558, .int .i64 t559]] (by rfl) rfl rfl (by (try simp only [List.map_toArray, List.map_cons, List.map_nil]); first | done | rfl | (simp only [List.length_drop, List.length_take]; rfl)) ?_
              with_reducible refine (spec_MapPut.calls k1 _ _ x556000_1 t558 t559 t561 t564 _ ?side1 ?side2 A12.out).mono ?_
              (case side1 => repeat (first | exact (Kd.R_reads' HO_556000.out).2.2 | (with_reducible refine Kd.C_alloc ?_ _) | (with_reducible refine Kd.C_drewN ?_ _) | (with_reducible refine Kd.C_drew ?_)))
              (case side2 => exact (Kd.R_reads' HO_556000.out).2.1)
              rintro e w16 ⟨v562, rfl, ho0, hb⟩
              refine ⟨_, rfl, ?_⟩
              have n0_ := Aside0.mk (Kd.R_elder' (rs HO_556000) (Kd.R_base ho0) hb)
              have n1_ := Aside0.mk (Kd.R_lower (Kd.R_new' ho0 (Kd.R_lt (rs HO_556000))) (keep_size (w := w) (g := g) (row := none) (by repeat (first | (with_reducible first | exact HK.out | apply KeepBut.set_ | apply keep_drewN | apply keep_drew | apply keep_alloc | refine keep_far ?_ GW554.out _ | refine keep_far ?_ GW555.out _) | exact HK.out))))
              have n2_ := bkB BK554 hb
              have n3_ := bkB BK555 hb
              have n4_ := Aside0.mk (IsS102.below (by repeat (first | (with_reducible first | exact HI0.out | apply IsS102.alloc | apply IsS102.drewN | apply IsS102.drew | apply IsS102.set_1 | refine IsS102.far ?_ NB0_554.out _ | refine IsS102.far ?_ NB0_555.out _) | exact HI0.out)) hb)
              have n5_ := Aside0.mk (KeepBut.trans (by repeat (first | (with_reducible first | exact HK.out | apply KeepBut.set_ | apply keep_drewN | apply keep_drew | apply keep_alloc | refine keep_far ?_ GW554.out _ | refine keep_far ?_ GW555.out _) | exact HK.out)) (KeepBut.of_below hb g none) (.inl rfl))
              have n6_ := Aside0.mk (below_step (by repeat (first | (with_reducible first | exact HB.out | apply below_alloc | apply pw_below_drewN | apply below_drew1 | refine below_set ?_ (IsS102.ge HI0.out) | refine below_set ?_ GE554.out | refine below_set ?_ GE555.out) | exact HB.out)) hb)
              clear HO_556000
              clear BK554
              clear BK555
              clear HI0
              clear HK
              clear HB
              have HO_556000 := n0_
              have HO563 := n1_
              have BK554 := n2_
              have BK555 := n3_
              have HI0 := n4_
              have HK := n5_
              have HB := n6_
              clear n0_ n1_ n2_ n3_ n4_ n5_ n6_
              (try clear hb)
              (try clear hb2)
              (try clear hk)
              (try clear hi)
              (try clear ho0)
              refine hK.out _ _ ((blk_cell BK555.out 0).trans rfl) (fun hHeld => ?_)
              clear hK K
              refine norm_ (a' := ?_) ?_ ?_
              rotate_left
              · show Act.put _ (some 20) _ = _
                simp only [Act.put, List.setIfInBounds_toArray, List.set_cons_zero, List.set_cons_succ, i64_w, i32_w]
                rfl
              refine pure_ (i := 4) (N := some 16) (v := ?_) (a' := ?_) #[true, true, true, true, true, false, false, false, false, false] rfl rfl (any_of HT_.out (by kernel_rfl)) (fun _ _ _ h => h) (Or.inl ⟨by rfl, ?_⟩) ?_ ?_
              rotate_left
              · intro w'
                go_simp
                with_reducible rfl
              rotate_left
              · simp only [Act.put, List.setIfInBounds_toArray, List.set_cons_zero, List.set_cons_succ, i64_w, i32_w]
                rfl
              refine pure_ (i := 5) (N := some 21) (v := ?_) (a' := ?_) #[true, true, true, true, true, true, false, false, false, false] rfl rfl (any_of HT_.out (by kernel_rfl)) (fun _ _ _ h => h) (Or.inl ⟨by rfl, ?_⟩) ?_ ?_
              rotate_left
              · intro w'
                go_simp
                with_reducible rfl
              rotate_left
              · simp only [Act.put, List.setIfInBounds_toArray, List.set_cons_zero, List.set_cons_succ, i64_w, i32_w]
                rfl
              refine pure_ (i := 6) (N := some 22) (v := ?_) (a' := ?_) #[true, true, true, true, true, true, true, false, false, false] rfl rfl (any_of HT_.out (by kernel_rfl)) (fun _ _ _ h => h) (Or.inl ⟨by rfl, ?_⟩) ?_ ?_
              rotate_left
              · intro w'
                go_simp
                with_reducible rfl
              rotate_left
              · simp only [Act.put, List.setIfInBounds_toArray, List.set_cons_zero, List.set_cons_succ, i64_w, i32_w]
                rfl
              refine one_ (i := 7) (N := some 7) #[true, true, true, true, true, true, true, true, false, false] rfl rfl (one_of HT_.out (by kernel_rfl)) (by decide) (fun K hK => ?_)
              refine box_step ?hg (N := 7) ?hd (cs := #[.slice none 0 0]) (t := 45) ?hr ?_; (case hd => rfl); (case hg => rfl); (case hr => first | (go_simp; done) | (go_simp; rfl))
              intro gb565 hg w17 hbox hb
              have n0_ := Aside0.mk (Kd.R_below (rs HO_556000) hb)
              have n1_ := Aside0.mk (Kd.R_below (rs HO563) hb)
              have n2_ := bkB BK554 hb
              have n3_ := bkB BK555 hb
              have n4_ := Aside0.mk (IsS102.below (by repeat (first | (with_reducible first | exact HI0.out | apply IsS102.alloc | apply IsS102.drewN | apply IsS102.drew | apply IsS102.set_1 | refine IsS102.far ?_ NB0_554.out _ | refine IsS102.far ?_ NB0_555.out _) | exact HI0.out)) hb)
              have n5_ := Aside0.mk (KeepBut.trans (by repeat (first | (with_reducible first | exact HK.out | apply KeepBut.set_ | apply keep_drewN | apply keep_drew | apply keep_alloc | refine keep_far ?_ GW554.out _ | refine keep_far ?_ GW555.out _) | exact HK.out)) (KeepBut.of_below hb g none) (.inl rfl))
              have n6_ := Aside0.mk (below_step (by repeat (first | (with_reducible first | exact HB.out | apply below_alloc | apply pw_below_drewN | apply below_drew1 | refine below_set ?_ (IsS102.ge HI0.out) | refine below_set ?_ GE554.out | refine below_set ?_ GE555.out) | exact HB.out)) hb)
              have n7_ := Aside0.mk (hbox)
              have n8_ := Aside0.mk ((by rw [hg]; exact (keep_size (w := w) (g := g) (row := none) (by repeat (first | (with_reducible first | exact HK.out | apply KeepBut.set_ | apply keep_drewN | apply keep_drew | apply keep_alloc | refine keep_far ?_ GW554.out _ | refine keep_far ?_ GW555.out _) | exact HK.out))) : w.heap.size ≤ gb565))
              have n9_ := Aside0.mk ((Nat.le_trans HW0.out (by rw [hg]; exact (keep_size (w := w) (g := g) (row := none) (by repeat (first | (with_reducible first | exact HK.out | apply KeepBut.set_ | apply keep_drewN | apply keep_drew | apply keep_alloc | refine keep_far ?_ GW554.out _ | refine keep_far ?_ GW555.out _) | exact HK.out))) : w.heap.size ≤ gb565) : w0.heap.size ≤ gb565))
              have n10_ := Aside0.mk ((by rw [hg]; exact Nat.ne_of_lt (bkL BK554) : gb554 ≠ gb565))
              have n11_ := Aside0.mk ((by rw [hg]; exact Nat.ne_of_gt (bkL BK554) : gb565 ≠ gb554))
              have n12_ := Aside0.mk ((by rw [hg]; exact Nat.ne_of_lt (bkL BK555) : gb555 ≠ gb565))
              have n13_ := Aside0.mk ((by rw [hg]; exact Nat.ne_of_gt (bkL BK555) : gb565 ≠ gb555))
              have n14_ := Aside0.mk ((by rw [hg]; exact Nat.ne_of_lt (IsS102.lt (show IsS102 w0 _ g s0_0 t560 from by repeat (first | (with_reducible first | exact HI0.out | apply IsS102.alloc | apply IsS102.drewN | apply IsS102.drew | apply IsS102.set_1 | refine IsS102.far ?_ NB0_554.out _ | refine IsS102.far ?_ NB0_555.out _) | exact HI0.out))) : g ≠ gb565))
              have n15_ := Aside0.mk ((by rw [hg]; exact Nat.ne_of_gt (IsS102.lt (show IsS102 w0 _ g s0_0 t560 from by repeat (first | (with_reducible first | exact HI0.out | apply IsS102.alloc | apply IsS102.drewN | apply IsS102.drew | apply IsS102.set_1 | refine IsS102.far ?_ NB0_554.out _ | refine IsS102.far ?_ NB0_555.out _) | exact HI0.out))) : gb565 ≠ g))
              clear HO_556000
              clear HO563
              clear BK554
              clear BK555
              clear HI0
              clear HK
              clear HB
              have HO_556000 := n0_
              have HO563 := n1_
              have BK554 := n2_
              have BK555 := n3_
              have HI0 := n4_
              have HK := n5_
              have HB := n6_
              have BK565 := n7_
              have GW565 := n8_
              have GE565 := n9_
              have NB554_565 := n10_
              have NB565_554 := n11_
              have NB555_565 := n12_
              have NB565_555 := n13_
              have NB0_565 := n14_
              have NB565_0 := n15_
              clear n0_ n1_ n2_ n3_ n4_ n5_ n6_ n7_ n8_ n9_ n10_ n11_ n12_ n13_ n14_ n15_
              clear hb hbox hg
              refine hK.out _ _ ((blk_cell BK555.out 0).trans rfl) (fun hHeld => ?_)
              clear hK K
              refine norm_ (a' := ?_) ?_ ?_
              rotate_left
              · show Act.put _ (some 7) _ = _
                simp only [Act.put, List.setIfInBounds_toArray, List.set_cons_zero, List.set_cons_succ, i64_w, i32_w]
                rfl
              exact norm_ (by simp only [putAll, Act.put, List.setIfInBounds_toArray, List.set_cons_zero, List.set_cons_succ]) (hCont (v562, gb565) _ ⟨hHeld, (by (with_reducible repeat apply ru); exact Kd.R_mono HO563.out (fun _ hk => hk.2)), (by (with_reducible repeat apply ru); exact Kd.R_mono HO_556000.out (fun _ hk => hk.2)), (bk BK554), (bk BK555), (bk BK565), GW565.out, GE565.out, NB0_565.out, NB565_0.out, NB554_565.out, NB565_554.out, NB555_565.out, NB565_555.out, (by repeat (first | (with_reducible first | exact HI0.out | apply IsS102.alloc | apply IsS102.drewN | apply IsS102.drew | apply IsS102.set_1 | refine IsS102.far ?_ NB0_554.out _ | refine IsS102.far ?_ NB0_555.out _ | refine IsS102.far ?_ NB0_565.out _) | exact HI0.out)), (by repeat (first | (with_reducible first | exact HK.out | apply KeepBut.set_ | apply keep_drewN | apply keep_drew | apply keep_alloc | refine keep_far ?_ GW554.out _ | refine keep_far ?_ GW555.out _ | refine keep_far ?_ GW565.out _) | exact HK.out)), (by repeat (first | (with_reducible first | exact HB.out | apply below_alloc | apply pw_below_drewN | apply below_drew1 | refine below_set ?_ (IsS102.ge HI0.out) | refine below_set ?_ GE554.out | refine below_set ?_ GE555.out | refine below_set ?_ GE565.out) | exact HB.out))⟩)
            · skip
              refine box_step ?hg (N := 7) ?hd (cs := #[.slice none 0 0]) (t := 45) ?hr ?_; (case hd => rfl); (case hg => rfl); (case hr => first | (go_simp; done) | (go_simp; rfl))
              intro gb565 hg w16 hbox hb
              have n0_ := Aside0.mk (Kd.R_below (rs HO_556000) hb)
              have n1_ := bkB BK554 hb
              have n2_ := bkB BK555 hb
              have n3_ := Aside0.mk (IsS102.below (by repeat (first | (with_reducible first | exact HI0.out | apply IsS102.alloc | apply IsS102.drewN | apply IsS102.drew | apply IsS102.set_1 | refine IsS102.far ?_ NB0_554.out _ | refine IsS102.far ?_ NB0_555.out _) | exact HI0.out)) hb)
              have n4_ := Aside0.mk (KeepBut.trans (by repeat (first | (with_reducible first | exact HK.out | apply KeepBut.set_ | apply keep_drewN | apply keep_drew | apply keep_alloc | refine keep_far ?_ GW554.out _ | refine keep_far ?_ GW555.out _) | exact HK.out)) (KeepBut.of_below hb g none) (.inl rfl))
              have n5_ := Aside0.mk (below_step (by repeat (first | (with_reducible first | exact HB.out | apply below_alloc | apply pw_below_drewN | apply below_drew1 | refine below_set ?_ (IsS102.ge HI0.out) | refine below_set ?_ GE554.out | refine below_set ?_ GE555.out) | exact HB.out)) hb)
              have n6_ := Aside0.mk (hbox)
              have n7_ := Aside0.mk ((by rw [hg]; exact (keep_size (w := w) (g := g) (row := none) (by repeat (first | (with_reducible first | exact HK.out | apply KeepBut.set_ | apply keep_drewN | apply keep_drew | apply keep_alloc | refine keep_far ?_ GW554.out _ | refine keep_far ?_ GW555.out _) | exact HK.out))) : w.heap.size ≤ gb565))
              have n8_ := Aside0.mk ((Nat.le_trans HW0.out (by rw [hg]; exact (keep_size (w := w) (g := g) (row := none) (by repeat (first | (with_reducible first | exact HK.out | apply KeepBut.set_ | apply keep_drewN | apply keep_drew | apply keep_alloc | refine keep_far ?_ GW554.out _ | refine keep_far ?_ GW555.out _) | exact HK.out))) : w.heap.size ≤ gb565) : w0.heap.size ≤ gb565))
              have n9_ := Aside0.mk ((by rw [hg]; exact Nat.ne_of_lt (bkL BK554) : gb554 ≠ gb565))
              have n10_ := Aside0.mk ((by rw [hg]; exact Nat.ne_of_gt (bkL BK554) : gb565 ≠ gb554))
              have n11_ := Aside0.mk ((by rw [hg]; exact Nat.ne_of_lt (bkL BK555) : gb555 ≠ gb565))
              have n12_ := Aside0.mk ((by rw [hg]; exact Nat.ne_of_gt (bkL BK555) : gb565 ≠ gb555))
              have n13_ := Aside0.mk ((by rw [hg]; exact Nat.ne_of_lt (IsS102.lt (show IsS102 w0 _ g s0_0 t560 from by repeat (first | (with_reducible first | exact HI0.out | apply IsS102.alloc | apply IsS102.drewN | apply IsS102.drew | apply IsS102.set_1 | refine IsS102.far ?_ NB0_554.out _ | refine IsS102.far ?_ NB0_555.out _) | exact HI0.out))) : g ≠ gb565))
              have n14_ := Aside0.mk ((by rw [hg]; exact Nat.ne_of_gt (IsS102.lt (show IsS102 w0 _ g s0_0 t560 from by repeat (first | (with_reducible first | exact HI0.out | apply IsS102.alloc | apply IsS102.drewN | apply IsS102.drew | apply IsS102.set_1 | refine IsS102.far ?_ NB0_554.out _ | refine IsS102.far ?_ NB0_555.out _) | exact HI0.out))) : gb565 ≠ g))
              clear HO_556000
              clear BK554
              clear BK555
              clear HI0
              clear HK
              clear HB
              have HO_556000 := n0_
              have BK554 := n1_
              have BK555 := n2_
              have HI0 := n3_
              have HK := n4_
              have HB := n5_
              have BK565 := n6_
              have GW565 := n7_
              have GE565 := n8_
              have NB554_565 := n9_
              have NB565_554 := n10_
              have NB555_565 := n11_
              have NB565_555 := n12_
              have NB0_565 := n13_
              have NB565_0 := n14_
              clear n0_ n1_ n2_ n3_ n4_ n5_ n6_ n7_ n8_ n9_ n10_ n11_ n12_ n13_ n14_
              clear hb hbox hg
              refine hK.out _ _ ((blk_cell BK555.out 0).trans rfl) (fun hHeld => ?_)
              clear hK K
              refine norm_ (a' := ?_) ?_ ?_
              rotate_left
              · show Act.put _ (some 7) _ = _
                simp only [Act.put, List.setIfInBounds_toArray, List.set_cons_zero, List.set_cons_succ, i64_w, i32_w]
                rfl
              refine one_ (i := 3) (N := some 20) #[true, true, true, true, false, false, false, true, false, false] rfl rfl (one_of HT_.out (by kernel_rfl)) (by decide) (fun K hK => ?_)
              refine goes_ Try.func29 (by kernel_rfl) rfl #[.agg #[.slice Ao13 x556000_1.length co13], .agg #[.int .i64 t558, .int .i64 t559]] (by rfl) rfl rfl (by (try simp only [List.map_toArray, List.map_cons, List.map_nil]); first | done | rfl | (simp only [List.length_drop, List.length_take]; rfl)) ?_
              with_reducible refine (spec_MapPut.calls k1 _ _ x556000_1 t558 t559 t561 t564 _ ?side1 ?side2 A12.out).mono ?_
              (case side1 => repeat (first | exact (Kd.R_reads' HO_556000.out).2.2 | (with_reducible refine Kd.C_alloc ?_ _) | (with_reducible refine Kd.C_drewN ?_ _) | (with_reducible refine Kd.C_drew ?_)))
              (case side2 => exact (Kd.R_reads' HO_556000.out).2.1)
              rintro e w17 ⟨v562, rfl, ho0, hb⟩
              refine ⟨_, rfl, ?_⟩
              have n0_ := Aside0.mk (Kd.R_elder' (rs HO_556000) (Kd.R_base ho0) hb)
              have n1_ := Aside0.mk (Kd.R_lower (Kd.R_new' ho0 (Kd.R_lt (rs HO_556000))) (keep_size (w := w) (g := g) (row := none) (by repeat (first | (with_reducible first | exact HK.out | apply KeepBut.set_ | apply keep_drewN | apply keep_drew | apply keep_alloc | refine keep_far ?_ GW554.out _ | refine keep_far ?_ GW555.out _ | refine keep_far ?_ GW565.out _) | exact HK.out))))
              have n2_ := bkB BK554 hb
              have n3_ := bkB BK555 hb
              have n4_ := Aside0.mk (IsS102.below (by repeat (first | (with_reducible first | exact HI0.out | apply IsS102.alloc | apply IsS102.drewN | apply IsS102.drew | apply IsS102.set_1 | refine IsS102.far ?_ NB0_554.out _ | refine IsS102.far ?_ NB0_555.out _ | refine IsS102.far ?_ NB0_565.out _) | exact HI0.out)) hb)
              have n5_ := bkB BK565 hb
              have n6_ := Aside0.mk (KeepBut.trans (by repeat (first | (with_reducible first | exact HK.out | apply KeepBut.set_ | apply keep_drewN | apply keep_drew | apply keep_alloc | refine keep_far ?_ GW554.out _ | refine keep_far ?_ GW555.out _ | refine keep_far ?_ GW565.out _) | exact HK.out)) (KeepBut.of_below hb g none) (.inl rfl))
              have n7_ := Aside0.mk (below_step (by repeat (first | (with_reducible first | exact HB.out | apply below_alloc | apply pw_below_drewN | apply below_drew1 | refine below_set ?_ (IsS102.ge HI0.out) | refine below_set ?_ GE554.out | refine below_set ?_ GE555.out | refine below_set ?_ GE565.out) | exact HB.out)) hb)
              clear HO_556000
              clear BK554
              clear BK555
              clear HI0
              clear BK565
              clear HK
              clear HB
              have HO_556000 := n0_
              have HO563 := n1_
              have BK554 := n2_
              have BK555 := n3_
              have HI0 := n4_
              have BK565 := n5_
              have HK := n6_
              have HB := n7_
              clear n0_ n1_ n2_ n3_ n4_ n5_ n6_ n7_
              (try clear hb)
              (try clear hb2)
              (try clear hk)
              (try clear hi)
              (try clear ho0)
              refine hK.out _ _ ((blk_cell BK555.out 0).trans rfl) (fun hHeld => ?_)
              clear hK K
              refine norm_ (a' := ?_) ?_ ?_
              rotate_left
              · show Act.put _ (some 20) _ = _
                simp only [Act.put, List.setIfInBounds_toArray, List.set_cons_zero, List.set_cons_succ, i64_w, i32_w]
                rfl
              refine pure_ (i := 4) (N := some 16) (v := ?_) (a' := ?_) #[true, true, true, true, true, false, false, true, false, false] rfl rfl (any_of HT_.out (by kernel_rfl)) (fun _ _ _ h => h) (Or.inl ⟨by rfl, ?_⟩) ?_ ?_
              rotate_left
              · intro w'
                go_simp
                with_reducible rfl
              rotate_left
              · simp only [Act.put, List.setIfInBounds_toArray, List.set_cons_zero, List.set_cons_succ, i64_w, i32_w]
                rfl
              refine pure_ (i := 5) (N := some 21) (v := ?_) (a' := ?_) #[true, true, true, true, true, true, false, true, false, false] rfl rfl (any_of HT_.out (by kernel_rfl)) (fun _ _ _ h => h) (Or.inl ⟨by rfl, ?_⟩) ?_ ?_
              rotate_left
              · intro w'
                go_simp
                with_reducible rfl
              rotate_left
              · simp only [Act.put, List.setIfInBounds_toArray, List.set_cons_zero, List.set_cons_succ, i64_w, i32_w]
                rfl
              refine pure_ (i := 6) (N := some 22) (v := ?_) (a' := ?_) #[true, true, true, true, true, true, true, true, false, false] rfl rfl (any_of HT_.out (by kernel_rfl)) (fun _ _ _ h => h) (Or.inl ⟨by rfl, ?_⟩) ?_ ?_
              rotate_left
              · intro w'
                go_simp
                with_reducible rfl
              rotate_left
              · simp only [Act.put, List.setIfInBounds_toArray, List.set_cons_zero, List.set_cons_succ, i64_w, i32_w]
                rfl
              exact norm_ (by simp only [putAll, Act.put, List.setIfInBounds_toArray, List.set_cons_zero, List.set_cons_succ]) (hCont (v562, gb565) _ ⟨hHeld, (by (with_reducible repeat apply ru); exact Kd.R_mono HO563.out (fun _ hk => hk.2)), (by (with_reducible repeat apply ru); exact Kd.R_mono HO_556000.out (fun _ hk => hk.2)), (bk BK554), (bk BK555), (bk BK565), GW565.out, GE565.out, NB0_565.out, NB565_0.out, NB554_565.out, NB565_554.out, NB555_565.out, NB565_555.out, (by repeat (first | (with_reducible first | exact HI0.out | apply IsS102.alloc | apply IsS102.drewN | apply IsS102.drew | apply IsS102.set_1 | refine IsS102.far ?_ NB0_554.out _ | refine IsS102.far ?_ NB0_555.out _ | refine IsS102.far ?_ NB0_565.out _) | exact HI0.out)), (by repeat (first | (with_reducible first | exact HK.out | apply KeepBut.set_ | apply keep_drewN | apply keep_drew | apply keep_alloc | refine keep_far ?_ GW554.out _ | refine keep_far ?_ GW555.out _ | refine keep_far ?_ GW565.out _) | exact HK.out)), (by repeat (first | (with_reducible first | exact HB.out | apply below_alloc | apply pw_below_drewN | apply below_drew1 | refine below_set ?_ (IsS102.ge HI0.out) | refine below_set ?_ GE554.out | refine below_set ?_ GE555.out | refine below_set ?_ GE565.out) | exact HB.out))⟩)
          · skip
            refine box_step ?hg (N := 7) ?hd (cs := #[.slice none 0 0]) (t := 45) ?hr ?_; (case hd => rfl); (case hg => rfl); (case hr => first | (go_simp; done) | (go_simp; rfl))
            intro gb565 hg w15 hbox hb
            have n0_ := Aside0.mk (Kd.R_below (rs HO_556000) hb)
            have n1_ := bkB BK554 hb
            have n2_ := bkB BK555 hb
            have n3_ := Aside0.mk (IsS102.below (by repeat (first | (with_reducible first | exact HI0.out | apply IsS102.alloc | apply IsS102.drewN | apply IsS102.drew | apply IsS102.set_1 | refine IsS102.far ?_ NB0_554.out _ | refine IsS102.far ?_ NB0_555.out _) | exact HI0.out)) hb)
            have n4_ := Aside0.mk (KeepBut.trans (by repeat (first | (with_reducible first | exact HK.out | apply KeepBut.set_ | apply keep_drewN | apply keep_drew | apply keep_alloc | refine keep_far ?_ GW554.out _ | refine keep_far ?_ GW555.out _) | exact HK.out)) (KeepBut.of_below hb g none) (.inl rfl))
            have n5_ := Aside0.mk (below_step (by repeat (first | (with_reducible first | exact HB.out | apply below_alloc | apply pw_below_drewN | apply below_drew1 | refine below_set ?_ (IsS102.ge HI0.out) | refine below_set ?_ GE554.out | refine below_set ?_ GE555.out) | exact HB.out)) hb)
            have n6_ := Aside0.mk (hbox)
            have n7_ := Aside0.mk ((by rw [hg]; exact (keep_size (w := w) (g := g) (row := none) (by repeat (first | (with_reducible first | exact HK.out | apply KeepBut.set_ | apply keep_drewN | apply keep_drew | apply keep_alloc | refine keep_far ?_ GW554.out _ | refine keep_far ?_ GW555.out _) | exact HK.out))) : w.heap.size ≤ gb565))
            have n8_ := Aside0.mk ((Nat.le_trans HW0.out (by rw [hg]; exact (keep_size (w := w) (g := g) (row := none) (by repeat (first | (with_reducible first | exact HK.out | apply KeepBut.set_ | apply keep_drewN | apply keep_drew | apply keep_alloc | refine keep_far ?_ GW554.out _ | refine keep_far ?_ GW555.out _) | exact HK.out))) : w.heap.size ≤ gb565) : w0.heap.size ≤ gb565))
            have n9_ := Aside0.mk ((by rw [hg]; exact Nat.ne_of_lt (bkL BK554) : gb554 ≠ gb565))
            have n10_ := Aside0.mk ((by rw [hg]; exact Nat.ne_of_gt (bkL BK554) : gb565 ≠ gb554))
            have n11_ := Aside0.mk ((by rw [hg]; exact Nat.ne_of_lt (bkL BK555) : gb555 ≠ gb565))
            have n12_ := Aside0.mk ((by rw [hg]; exact Nat.ne_of_gt (bkL BK555) : gb565 ≠ gb555))
            have n13_ := Aside0.mk ((by rw [hg]; exact Nat.ne_of_lt (IsS102.lt (show IsS102 w0 _ g s0_0 x1001_1 from by repeat (first | (with_reducible first | exact HI0.out | apply IsS102.alloc | apply IsS102.drewN | apply IsS102.drew | apply IsS102.set_1 | refine IsS102.far ?_ NB0_554.out _ | refine IsS102.far ?_ NB0_555.out _) | exact HI0.out))) : g ≠ gb565))
            have n14_ := Aside0.mk ((by rw [hg]; exact Nat.ne_of_gt (IsS102.lt (show IsS102 w0 _ g s0_0 x1001_1 from by repeat (first | (with_reducible first | exact HI0.out | apply IsS102.alloc | apply IsS102.drewN | apply IsS102.drew | apply IsS102.set_1 | refine IsS102.far ?_ NB0_554.out _ | refine IsS102.far ?_ NB0_555.out _) | exact HI0.out))) : gb565 ≠ g))
            clear HO_556000
            clear BK554
            clear BK555
            clear HI0
            clear HK
            clear HB
            have HO_556000 := n0_
            have BK554 := n1_
            have BK555 := n2_
            have HI0 := n3_
            have HK := n4_
            have HB := n5_
            have BK565 := n6_
            have GW565 := n7_
            have GE565 := n8_
            have NB554_565 := n9_
            have NB565_554 := n10_
            have NB555_565 := n11_
            have NB565_555 := n12_
            have NB0_565 := n13_
            have NB565_0 := n14_
            clear n0_ n1_ n2_ n3_ n4_ n5_ n6_ n7_ n8_ n9_ n10_ n11_ n12_ n13_ n14_
            clear hb hbox hg
            refine hK.out _ _ ((blk_cell BK555.out 0).trans rfl) (fun hHeld => ?_)
            clear hK K
            refine norm_ (a' := ?_) ?_ ?_
            rotate_left
            · show Act.put _ (some 7) _ = _
              simp only [Act.put, List.setIfInBounds_toArray, List.set_cons_zero, List.set_cons_succ, i64_w, i32_w]
              rfl
            refine one_ (i := 2) (N := some 19) #[true, true, true, false, false, false, false, true, false, false] rfl rfl (one_of HT_.out (by kernel_rfl)) (by decide) (fun K hK => ?_)
            refine goes_ Try.func61 (by kernel_rfl) rfl #[.pointer (some ⟨g, 0, none⟩)] (by rfl) rfl rfl (by (try simp only [List.map_toArray, List.map_cons, List.map_nil]); first | done | rfl | (simp only [List.length_drop, List.length_take]; rfl)) ?_
            with_reducible refine (spec_l20In.calls k1 g s0_0 x1001_1 t558 t559 t560 w0 _ ?side1 ?side2 A11.out).mono ?_
            (case side1 => repeat (first | (with_reducible first | exact HI0.out | apply IsS102.alloc | apply IsS102.drewN | apply IsS102.drew | apply IsS102.set_1 | refine IsS102.far ?_ NB0_554.out _ | refine IsS102.far ?_ NB0_555.out _ | refine IsS102.far ?_ NB0_565.out _) | exact HI0.out))
            (case side2 => repeat (first | (with_reducible first | exact HB.out | apply below_alloc | apply pw_below_drewN | apply below_drew1 | refine below_set ?_ (IsS102.ge HI0.out) | refine below_set ?_ GE554.out | refine below_set ?_ GE555.out | refine below_set ?_ GE565.out) | exact HB.out))
            rintro e w16 ⟨rfl, hi, hb, hk⟩
            refine ⟨_, rfl, ?_⟩
            have n0_ := Aside0.mk (Kd.R_mono (Kd.R_keep (IsS102.apart (show IsS102 w0 _ g s0_0 x1001_1 from by repeat (first | (with_reducible first | exact HI0.out | apply IsS102.alloc | apply IsS102.drewN | apply IsS102.drew | apply IsS102.set_1 | refine IsS102.far ?_ NB0_554.out _ | refine IsS102.far ?_ NB0_555.out _ | refine IsS102.far ?_ NB0_565.out _) | exact HI0.out)) (rs HO_556000) (by decide)) hk (fun _ h => h.2)) (fun _ h => h.1))
            have n1_ := Aside0.mk (KeepBut.blk hk (g' := gb554) (o := .cells #[.slice none 0 0] 45 (0, 0)) (bk BK554) NB554_0.out (by simp))
            have n2_ := Aside0.mk (KeepBut.blk hk (g' := gb555) (o := .cells #[.slice Ao13 x556000_1.length co13] 45 (0, 0)) (bk BK555) NB555_0.out (by simp))
            have n3_ := Aside0.mk (KeepBut.blk hk (g' := gb565) (o := .cells #[.slice none 0 0] 45 (0, 0)) (bk BK565) NB565_0.out (by simp))
            have n4_ := Aside0.mk (KeepBut.trans (by repeat (first | (with_reducible first | exact HK.out | apply KeepBut.set_ | apply keep_drewN | apply keep_drew | apply keep_alloc | refine keep_far ?_ GW554.out _ | refine keep_far ?_ GW555.out _ | refine keep_far ?_ GW565.out _) | exact HK.out)) hk (.inl rfl))
            have n5_ := Aside0.mk (hb)
            have n6_ := Aside0.mk (hi)
            clear HO_556000
            clear BK554
            clear BK555
            clear BK565
            clear HK
            clear HB
            clear HI0
            have HO_556000 := n0_
            have BK554 := n1_
            have BK555 := n2_
            have BK565 := n3_
            have HK := n4_
            have HB := n5_
            have HI0 := n6_
            clear n0_ n1_ n2_ n3_ n4_ n5_ n6_
            (try clear hb)
            (try clear hb2)
            (try clear hk)
            (try clear hi)
            refine hK.out _ _ ((blk_cell BK555.out 0).trans rfl) (fun hHeld => ?_)
            clear hK K
            refine norm_ (a' := ?_) ?_ ?_
            rotate_left
            · show Act.put _ (some 19) _ = _
              simp only [Act.put, List.setIfInBounds_toArray, List.set_cons_zero, List.set_cons_succ, i64_w, i32_w]
              rfl
            refine one_ (i := 3) (N := some 20) #[true, true, true, true, false, false, false, true, false, false] rfl rfl (one_of HT_.out (by kernel_rfl)) (by decide) (fun K hK => ?_)
            refine goes_ Try.func29 (by kernel_rfl) rfl #[.agg #[.slice Ao13 x556000_1.length co13], .agg #[.int .i64 t558, .int .i64 t559]] (by rfl) rfl rfl (by (try simp only [List.map_toArray, List.map_cons, List.map_nil]); first | done | rfl | (simp only [List.length_drop, List.length_take]; rfl)) ?_
            with_reducible refine (spec_MapPut.calls k1 _ _ x556000_1 t558 t559 t561 t564 _ ?side1 ?side2 A12.out).mono ?_
            (case side1 => repeat (first | exact (Kd.R_reads' HO_556000.out).2.2 | (with_reducible refine Kd.C_alloc ?_ _) | (with_reducible refine Kd.C_drewN ?_ _) | (with_reducible refine Kd.C_drew ?_)))
            (case side2 => exact (Kd.R_reads' HO_556000.out).2.1)
            rintro e w17 ⟨v562, rfl, ho0, hb⟩
            refine ⟨_, rfl, ?_⟩
            have n0_ := Aside0.mk (Kd.R_elder' (rs HO_556000) (Kd.R_base ho0) hb)
            have n1_ := Aside0.mk (Kd.R_lower (Kd.R_new' ho0 (Kd.R_lt (rs HO_556000))) (keep_size (w := w) (g := g) (row := none) (by repeat (first | (with_reducible first | exact HK.out | apply KeepBut.set_ | apply keep_drewN | apply keep_drew | apply keep_alloc | refine keep_far ?_ GW554.out _ | refine keep_far ?_ GW555.out _ | refine keep_far ?_ GW565.out _) | exact HK.out))))
            have n2_ := bkB BK554 hb
            have n3_ := bkB BK555 hb
            have n4_ := Aside0.mk (IsS102.below (by repeat (first | (with_reducible first | exact HI0.out | apply IsS102.alloc | apply IsS102.drewN | apply IsS102.drew | apply IsS102.set_1 | refine IsS102.far ?_ NB0_554.out _ | refine IsS102.far ?_ NB0_555.out _ | refine IsS102.far ?_ NB0_565.out _) | exact HI0.out)) hb)
            have n5_ := bkB BK565 hb
            have n6_ := Aside0.mk (KeepBut.trans (by repeat (first | (with_reducible first | exact HK.out | apply KeepBut.set_ | apply keep_drewN | apply keep_drew | apply keep_alloc | refine keep_far ?_ GW554.out _ | refine keep_far ?_ GW555.out _ | refine keep_far ?_ GW565.out _) | exact HK.out)) (KeepBut.of_below hb g none) (.inl rfl))
            have n7_ := Aside0.mk (below_step (by repeat (first | (with_reducible first | exact HB.out | apply below_alloc | apply pw_below_drewN | apply below_drew1 | refine below_set ?_ (IsS102.ge HI0.out) | refine below_set ?_ GE554.out | refine below_set ?_ GE555.out | refine below_set ?_ GE565.out) | exact HB.out)) hb)
            clear HO_556000
            clear BK554
            clear BK555
            clear HI0
            clear BK565
            clear HK
            clear HB
            have HO_556000 := n0_
            have HO563 := n1_
            have BK554 := n2_
            have BK555 := n3_
            have HI0 := n4_
            have BK565 := n5_
            have HK := n6_
            have HB := n7_
            clear n0_ n1_ n2_ n3_ n4_ n5_ n6_ n7_
            (try clear hb)
            (try clear hb2)
            (try clear hk)
            (try clear hi)
            (try clear ho0)
            refine hK.out _ _ ((blk_cell BK555.out 0).trans rfl) (fun hHeld => ?_)
            clear hK K
            refine norm_ (a' := ?_) ?_ ?_
            rotate_left
            · show Act.put _ (some 20) _ = _
              simp only [Act.put, List.setIfInBounds_toArray, List.set_cons_zero, List.set_cons_succ, i64_w, i32_w]
              rfl
            refine pure_ (i := 4) (N := some 16) (v := ?_) (a' := ?_) #[true, true, true, true, true, false, false, true, false, false] rfl rfl (any_of HT_.out (by kernel_rfl)) (fun _ _ _ h => h) (Or.inl ⟨by rfl, ?_⟩) ?_ ?_
            rotate_left
            · intro w'
              go_simp
              with_reducible rfl
            rotate_left
            · simp only [Act.put, List.setIfInBounds_toArray, List.set_cons_zero, List.set_cons_succ, i64_w, i32_w]
              rfl
            refine pure_ (i := 5) (N := some 21) (v := ?_) (a' := ?_) #[true, true, true, true, true, true, false, true, false, false] rfl rfl (any_of HT_.out (by kernel_rfl)) (fun _ _ _ h => h) (Or.inl ⟨by rfl, ?_⟩) ?_ ?_
            rotate_left
            · intro w'
              go_simp
              with_reducible rfl
            rotate_left
            · simp only [Act.put, List.setIfInBounds_toArray, List.set_cons_zero, List.set_cons_succ, i64_w, i32_w]
              rfl
            refine pure_ (i := 6) (N := some 22) (v := ?_) (a' := ?_) #[true, true, true, true, true, true, true, true, false, false] rfl rfl (any_of HT_.out (by kernel_rfl)) (fun _ _ _ h => h) (Or.inl ⟨by rfl, ?_⟩) ?_ ?_
            rotate_left
            · intro w'
              go_simp
              with_reducible rfl
            rotate_left
            · simp only [Act.put, List.setIfInBounds_toArray, List.set_cons_zero, List.set_cons_succ, i64_w, i32_w]
              rfl
            exact norm_ (by simp only [putAll, Act.put, List.setIfInBounds_toArray, List.set_cons_zero, List.set_cons_succ]) (hCont (v562, gb565) _ ⟨hHeld, (by (with_reducible repeat apply ru); exact Kd.R_mono HO563.out (fun _ hk => hk.2)), (by (with_reducible repeat apply ru); exact Kd.R_mono HO_556000.out (fun _ hk => hk.2)), (bk BK554), (bk BK555), (bk BK565), GW565.out, GE565.out, NB0_565.out, NB565_0.out, NB554_565.out, NB565_554.out, NB555_565.out, NB565_555.out, (by repeat (first | (with_reducible first | exact HI0.out | apply IsS102.alloc | apply IsS102.drewN | apply IsS102.drew | apply IsS102.set_1 | refine IsS102.far ?_ NB0_554.out _ | refine IsS102.far ?_ NB0_555.out _ | refine IsS102.far ?_ NB0_565.out _) | exact HI0.out)), (by repeat (first | (with_reducible first | exact HK.out | apply KeepBut.set_ | apply keep_drewN | apply keep_drew | apply keep_alloc | refine keep_far ?_ GW554.out _ | refine keep_far ?_ GW555.out _ | refine keep_far ?_ GW565.out _) | exact HK.out)), (by repeat (first | (with_reducible first | exact HB.out | apply below_alloc | apply pw_below_drewN | apply below_drew1 | refine below_set ?_ (IsS102.ge HI0.out) | refine below_set ?_ GE554.out | refine below_set ?_ GE555.out | refine below_set ?_ GE565.out) | exact HB.out))⟩)
        rintro ⟨v562, gb565⟩ w18 ⟨hS_, h0_, h1_, h2_, h3_, h4_, h5_, h6_, h7_, h8_, h9_, h10_, h11_, h12_, h13_, h14_, h15_⟩
        have n0_ : Aside0 (Kd.R k29 29 w18 w.heap.size (fun k_ => some k_ ≠ (.slice Ao13 x556000_1.length co13 : Value).ownBlock) v562 t561) := ⟨h0_⟩
        have n1_ : Aside0 (Kd.R k29 29 w18 w.heap.size (fun k_ => some k_ ≠ (v562 : Value).ownBlock) (.slice Ao13 x556000_1.length co13) x556000_1) := ⟨h1_⟩
        have n2_ : Aside0 (w18.heap[gb554]? = some (.cells #[.slice none 0 0] 45 (0, 0))) := ⟨h2_⟩
        have n3_ : Aside0 (w18.heap[gb555]? = some (.cells #[.slice Ao13 x556000_1.length co13] 45 (0, 0))) := ⟨h3_⟩
        have n4_ : Aside0 (w18.heap[gb565]? = some (.cells #[.slice none 0 0] 45 (0, 0))) := ⟨h4_⟩
        have n5_ : Aside0 (w.heap.size ≤ gb565) := ⟨h5_⟩
        have n6_ : Aside0 (w0.heap.size ≤ gb565) := ⟨h6_⟩
        have n7_ : Aside0 (g ≠ gb565) := ⟨h7_⟩
        have n8_ : Aside0 (gb565 ≠ g) := ⟨h8_⟩
        have n9_ : Aside0 (gb554 ≠ gb565) := ⟨h9_⟩
        have n10_ : Aside0 (gb565 ≠ gb554) := ⟨h10_⟩
        have n11_ : Aside0 (gb555 ≠ gb565) := ⟨h11_⟩
        have n12_ : Aside0 (gb565 ≠ gb555) := ⟨h12_⟩
        have n13_ : Aside0 (IsS102 w0 w18 g s0_0 t560) := ⟨h13_⟩
        have n14_ : Aside0 (KeepBut w w18 g none) := ⟨h14_⟩
        have n15_ : Aside0 (Below w0.heap.size w0 w18) := ⟨h15_⟩
        clear HO_556000
        clear BK554
        clear BK555
        clear HI0
        clear HK
        clear HB
        clear h0_ h1_ h2_ h3_ h4_ h5_ h6_ h7_ h8_ h9_ h10_ h11_ h12_ h13_ h14_ h15_
        have HO563 := n0_
        have HO_556000 := n1_
        have BK554 := n2_
        have BK555 := n3_
        have BK565 := n4_
        have GW565 := n5_
        have GE565 := n6_
        have NB0_565 := n7_
        have NB565_0 := n8_
        have NB554_565 := n9_
        have NB565_554 := n10_
        have NB555_565 := n11_
        have NB565_555 := n12_
        have HI0 := n13_
        have HK := n14_
        have HB := n15_
        clear n0_ n1_ n2_ n3_ n4_ n5_ n6_ n7_ n8_ n9_ n10_ n11_ n12_ n13_ n14_ n15_
        have hHeld : w18.cell? ⟨gb555, 0, none⟩ = some (.slice Ao13 x556000_1.length co13) := hS_
        obtain ⟨Ao19, co19, eo19⟩ := Kd.R_slice HO563.out
        (first | subst eo19 | (injection eo19 with f1_ f2_ f3_; have f4_ := f1_.symm; have f5_ := f3_.symm; clear f1_ f2_ f3_; subst f4_; subst f5_))
        refine norm_ (a' := ?_) ?_ ?_
        rotate_left
        · simp only [putAll, Act.put, List.setIfInBounds_toArray, List.set_cons_zero, List.set_cons_succ]
          rfl
        refine one_ (i := 8) (N := none) #[true, true, true, true, true, true, true, true, true, false] rfl rfl (one_of HT_.out (by kernel_rfl)) (by decide) (fun K hK => ?_)
        have hs20 : w18.cell? ⟨gb565, 0, none⟩ = some (.slice none 0 0) := (blk_cell BK565.out 0).trans rfl
        have hfs20 := blk_frozen BK565.out 0
        have hns20_0 := NB554_565.out
        have hns20_1 := NB555_565.out
        have hms20_0 := NB565_554.out
        have hms20_1 := NB565_555.out
        refine skip_ (w1 := ?_) (by rfl) rfl ?_ ?_
        rotate_left
        · go_simp
          rfl
        refine hK.out _ _ (((cell_far (p := ⟨gb565, _, none⟩) NB555_565.out _).trans (hHeld))) (fun hHeld => ?_)
        clear hK K
        refine pure_ (i := 9) (N := some 8) (v := ?_) (a' := ?_) #[true, true, true, true, true, true, true, true, true, true] rfl rfl (any_of HT_.out (by kernel_rfl)) (fun _ _ _ h => h) (Or.inl ⟨by rfl, ?_⟩) ?_ ?_
        rotate_left
        · intro w'
          go_simp
          with_reducible rfl
        rotate_left
        · simp only [Act.put, List.setIfInBounds_toArray, List.set_cons_zero, List.set_cons_succ, i64_w, i32_w]
          rfl
        refine done_ (done_of HT_.out (by kernel_rfl)) ?_
        have hnb21 := NB565_554.out
        have hnc21 := NB554_565.out
        have hnb22 := NB565_555.out
        have hnc22 := NB555_565.out
        have hnb23 := NB565_0.out
        have hnc23 := NB0_565.out
        have hcz24_0 : w18.cell? ⟨gb565, 0, none⟩ = some (.slice none 0 0) := (blk_cell BK565.out 0).trans rfl
        have hfz24_0 := blk_frozen BK565.out 0
        have hnb25 := NB555_554.out
        have hnc25 := NB554_555.out
        have hnb26 := NB555_0.out
        have hnc26 := NB0_555.out
        have hcz27_0 : w18.cell? ⟨gb555, 0, none⟩ = some (.slice Ao13 x556000_1.length co13) := (blk_cell BK555.out 0).trans rfl
        have hfz27_0 := blk_frozen BK555.out 0
        try go_wp2
        go_roundg k1
        case measure => have := HK1.out; omega
        case rel => exact ⟨(wrap64 (x6_1 - 1)), (t560), (t561), (.slice Ao19 t561.length co19), (by first | rfl | (simp; done) | (simp [*]; done)), H', ⟨by have := HK1.out; omega⟩, ⟨by (with_reducible repeat apply ru); exact Kd.R_mono (Kd.R_far (p := ⟨gb555, 0, none⟩) (Kd.R_far (p := ⟨gb565, 0, none⟩) (Kd.R_types (Kd.R_types HO563.out BK565.out (by decide)) BK555.out (by decide)) (fun _ hk => hk.1.2) (.slice Ao19 t561.length co19)) (fun _ hk => hk.2) (.slice Ao19 t561.length co19)) (fun _ hk => trivial)⟩, ⟨by (with_reducible repeat refine bu ?_); refine blk_far ?_ NB554_555.out _; (with_reducible repeat refine bu ?_); refine blk_far ?_ NB554_565.out _; (with_reducible repeat refine bu ?_); exact BK554.out⟩, ⟨by (with_reducible repeat refine bu ?_); refine blk_put (cs := #[.slice Ao13 x556000_1.length co13]) ?_ 0 _ rfl; (with_reducible repeat refine bu ?_); refine blk_far ?_ NB555_565.out _; (with_reducible repeat refine bu ?_); exact BK555.out⟩, ⟨by repeat (first | (with_reducible first | exact HI0.out | apply IsS102.alloc | apply IsS102.drewN | apply IsS102.drew | apply IsS102.set_1 | refine IsS102.far ?_ NB0_554.out _ | refine IsS102.far ?_ NB0_555.out _ | refine IsS102.far ?_ NB0_565.out _) | exact HI0.out)⟩, ⟨by repeat (first | (with_reducible first | exact HK.out | apply KeepBut.set_ | apply keep_drewN | apply keep_drew | apply keep_alloc | refine keep_far ?_ GW554.out _ | refine keep_far ?_ GW555.out _ | refine keep_far ?_ GW565.out _) | exact HK.out)⟩, ⟨by repeat (first | (with_reducible first | exact HB.out | apply below_alloc | apply pw_below_drewN | apply below_drew1 | refine below_set ?_ (IsS102.ge HI0.out) | refine below_set ?_ GE554.out | refine below_set ?_ GE555.out | refine below_set ?_ GE565.out) | exact HB.out)⟩⟩
      · rw [if_neg c10] at H
        have c10b0 : decide (0 < x6_1) = false := decide_eq_false c10
        clear c10
        replace H := Option.bind_eq_some_iff.mp H
        obtain ⟨⟨t566, t567⟩, A280, H⟩ := H
        replace H : (if t566 = true then ((spec_l20Rd_pick.f k1 s0_0 t567 3).bind fun bt568 => (if bt568.1 = 0 then ((spec_l20Out.f k1 s0_0 bt568.2).bind fun bt570 => (if x556000_1.length < 8796093022208 then (some ((x556000_1 ++ [(⟨bt570.1, bt570.2.1⟩ : S29)]), bt570.2.2)) else (none))) else (if bt568.1 = 1 then (if x556000_1.length < 8796093022208 then ((some (x556000_1 ++ [(⟨9, 9⟩ : S29)] : List (S29))).bind fun y576 => (if y576.length < 8796093022208 then (some ((y576 ++ [(⟨9, 9⟩ : S29)]), bt568.2)) else (none))) else (none)) else (spec_l20Table.l1 k1 s0_0 bt568.2 x556000_1)))) else (some (x556000_1, t567))) = some (r1, r2) := H
        have A28 := Aside0.mk A280
        clear A280
        by_cases c29 : t566 = true
        · subst c29
          have H1 : ((spec_l20Rd_pick.f k1 s0_0 t567 3).bind fun bt568 => (if bt568.1 = 0 then ((spec_l20Out.f k1 s0_0 bt568.2).bind fun bt570 => (if x556000_1.length < 8796093022208 then (some ((x556000_1 ++ [(⟨bt570.1, bt570.2.1⟩ : S29)]), bt570.2.2)) else (none))) else (if bt568.1 = 1 then (if x556000_1.length < 8796093022208 then ((some (x556000_1 ++ [(⟨9, 9⟩ : S29)] : List (S29))).bind fun y576 => (if y576.length < 8796093022208 then (some ((y576 ++ [(⟨9, 9⟩ : S29)]), bt568.2)) else (none))) else (none)) else (spec_l20Table.l1 k1 s0_0 bt568.2 x556000_1)))) = some (r1, r2) := by rw [if_pos rfl] at H; exact H
          clear H
          have H := H1
          clear H1
          replace H := Option.bind_eq_some_iff.mp H
          obtain ⟨⟨t568, t569⟩, A300, H⟩ := H
          replace H : (if t568 = 0 then ((spec_l20Out.f k1 s0_0 t569).bind fun bt570 => (if x556000_1.length < 8796093022208 then (some ((x556000_1 ++ [(⟨bt570.1, bt570.2.1⟩ : S29)]), bt570.2.2)) else (none))) else (if t568 = 1 then (if x556000_1.length < 8796093022208 then ((some (x556000_1 ++ [(⟨9, 9⟩ : S29)] : List (S29))).bind fun y576 => (if y576.length < 8796093022208 then (some ((y576 ++ [(⟨9, 9⟩ : S29)]), t569)) else (none))) else (none)) else (spec_l20Table.l1 k1 s0_0 t569 x556000_1))) = some (r1, r2) := H
          have A30 := Aside0.mk A300
          clear A300
          by_cases c31 : t568 = 0
          · rw [if_pos c31] at H
            have c31b0 : (t568 == 0) = true := beq_iff_eq.mpr c31
            have c31b1 : (t568 != 0) = false := bne_eq_false_iff_eq.mpr c31
            clear c31
            replace H := Option.bind_eq_some_iff.mp H
            obtain ⟨⟨t570, t571, t572⟩, A320, H⟩ := H
            replace H : (if x556000_1.length < 8796093022208 then (some ((x556000_1 ++ [(⟨t570, t571⟩ : S29)]), t572)) else (none)) = some (r1, r2) := H
            have A32 := Aside0.mk A320
            clear A320
            by_cases c33 : x556000_1.length < 8796093022208
            · rw [if_pos c33] at H
              have LMc33 := Aside0.mk c33
              clear c33
              obtain ⟨y573, hy573⟩ : ∃ y_ : List (S29), y_ = (x556000_1 ++ [(⟨t570, t571⟩ : S29)]) := ⟨_, rfl⟩
              replace H : (some (y573, t572)) = some (r1, r2) := by first | (rw [hy573]; with_reducible exact H) | (have H2_ := (Option.bind_some _ _).symm.trans H; rw [hy573]; with_reducible exact H2_) | (have H2_ := (Option.bind_some _ _).symm.trans H; with_reducible exact H2_) | with_reducible exact H | (rw [hy573]; exact H) | exact H
              have Ny573 := Aside0.mk hy573
              clear hy573
              simp only [Option.some.injEq, Prod.mk.injEq] at H
              obtain ⟨rfl, rfl⟩ := H
              try go_wp2_with (first | ((with_reducible refine gate_callee (f := 59) rfl ?_); refine goesL_ (some 26) rfl rfl Try.func59 (by kernel_rfl) rfl #[.pointer (some ⟨g, 0, none⟩), .int .i64 a1] rfl (by (try simp only [List.map_toArray, List.map_cons, List.map_nil]); first | done | rfl | (simp only [List.length_drop, List.length_take]; rfl)) ?_; (with_reducible refine (spec_l20Rd_odd.calls k1 g s0_0 x1001_1 a1 true t567 w0 _ ?side1 ?side2 A28.out).mono ?_); (case side1 => repeat (first | (with_reducible first | exact HI0.out | apply IsS102.alloc | apply IsS102.drewN | apply IsS102.drew | apply IsS102.set_1 | refine IsS102.far ?_ NB0_554.out _ | refine IsS102.far ?_ NB0_555.out _) | exact HI0.out)); (case side2 => repeat (first | (with_reducible first | exact HB.out | apply below_alloc | apply pw_below_drewN | apply below_drew1 | refine below_set ?_ (IsS102.ge HI0.out) | refine below_set ?_ GE554.out | refine below_set ?_ GE555.out) | exact HB.out)); rintro e w34 ⟨rfl, hi, hb, hk⟩; refine ⟨_, rfl, ?_⟩; have n0_ := Aside0.mk (Kd.R_mono (Kd.R_keep (IsS102.apart (show IsS102 w0 _ g s0_0 x1001_1 from by repeat (first | (with_reducible first | exact HI0.out | apply IsS102.alloc | apply IsS102.drewN | apply IsS102.drew | apply IsS102.set_1 | refine IsS102.far ?_ NB0_554.out _ | refine IsS102.far ?_ NB0_555.out _) | exact HI0.out)) (rs HO_556000) (by decide)) hk (fun _ h => h.2)) (fun _ h => h.1)); have n1_ := Aside0.mk (KeepBut.blk hk (g' := gb554) (o := .cells #[.slice none 0 0] 45 (0, 0)) (bk BK554) NB554_0.out (by simp)); have n2_ := Aside0.mk (KeepBut.blk hk (g' := gb555) (o := .cells #[u556000] 45 (0, 0)) (bk BK555) NB555_0.out (by simp)); have n3_ := Aside0.mk (KeepBut.trans (by repeat (first | (with_reducible first | exact HK.out | apply KeepBut.set_ | apply keep_drewN | apply keep_drew | apply keep_alloc | refine keep_far ?_ GW554.out _ | refine keep_far ?_ GW555.out _) | exact HK.out)) hk (.inl rfl)); have n4_ := Aside0.mk (hb); have n5_ := Aside0.mk (hi); clear HO_556000; clear BK554; clear BK555; clear HK; clear HB; clear HI0; have HO_556000 := n0_; have BK554 := n1_; have BK555 := n2_; have HK := n3_; have HB := n4_; have HI0 := n5_; clear n0_ n1_ n2_ n3_ n4_ n5_; (try clear hb); (try clear hb2); (try clear hk); (try clear hi)) | ((with_reducible refine gate_callee (f := 58) rfl ?_); refine goesL_ (some 28) rfl rfl Try.func58 (by kernel_rfl) rfl #[.pointer (some ⟨g, 0, none⟩), .int .i64 3] rfl (by (try simp only [List.map_toArray, List.map_cons, List.map_nil]); first | done | rfl | (simp only [List.length_drop, List.length_take]; rfl)) ?_; (with_reducible refine (spec_l20Rd_pick.calls k1 g s0_0 t567 3 t568 t569 w0 _ ?side1 ?side2 A30.out).mono ?_); (case side1 => repeat (first | (with_reducible first | exact HI0.out | apply IsS102.alloc | apply IsS102.drewN | apply IsS102.drew | apply IsS102.set_1 | refine IsS102.far ?_ NB0_554.out _ | refine IsS102.far ?_ NB0_555.out _) | exact HI0.out)); (case side2 => repeat (first | (with_reducible first | exact HB.out | apply below_alloc | apply pw_below_drewN | apply below_drew1 | refine below_set ?_ (IsS102.ge HI0.out) | refine below_set ?_ GE554.out | refine below_set ?_ GE555.out) | exact HB.out)); rintro e w35 ⟨rfl, hi, hb, hk⟩; refine ⟨_, rfl, ?_⟩; have n0_ := Aside0.mk (Kd.R_mono (Kd.R_keep (IsS102.apart (show IsS102 w0 _ g s0_0 t567 from by repeat (first | (with_reducible first | exact HI0.out | apply IsS102.alloc | apply IsS102.drewN | apply IsS102.drew | apply IsS102.set_1 | refine IsS102.far ?_ NB0_554.out _ | refine IsS102.far ?_ NB0_555.out _) | exact HI0.out)) (rs HO_556000) (by decide)) hk (fun _ h => h.2)) (fun _ h => h.1)); have n1_ := Aside0.mk (KeepBut.blk hk (g' := gb554) (o := .cells #[.slice none 0 0] 45 (0, 0)) (bk BK554) NB554_0.out (by simp)); have n2_ := Aside0.mk (KeepBut.blk hk (g' := gb555) (o := .cells #[u556000] 45 (0, 0)) (bk BK555) NB555_0.out (by simp)); have n3_ := Aside0.mk (KeepBut.trans (by repeat (first | (with_reducible first | exact HK.out | apply KeepBut.set_ | apply keep_drewN | apply keep_drew | apply keep_alloc | refine keep_far ?_ GW554.out _ | refine keep_far ?_ GW555.out _) | exact HK.out)) hk (.inl rfl)); have n4_ := Aside0.mk (hb); have n5_ := Aside0.mk (hi); clear HO_556000; clear BK554; clear BK555; clear HK; clear HB; clear HI0; have HO_556000 := n0_; have BK554 := n1_; have BK555 := n2_; have HK := n3_; have HB := n4_; have HI0 := n5_; clear n0_ n1_ n2_ n3_ n4_ n5_; (try clear hb); (try clear hb2); (try clear hk); (try clear hi)))
              have n0_ := Aside0.mk (Kd.R_drew HO_556000.out)
              have n1_ := Aside0.mk (blk_drew BK554.out)
              have n2_ := Aside0.mk (blk_drew BK555.out)
              have n3_ := Aside0.mk (IsS102.drew HI0.out)
              have n4_ := Aside0.mk (keep_drew HK.out)
              have n5_ := Aside0.mk (below_drew1 HB.out)
              clear HO_556000
              clear BK554
              clear BK555
              clear HI0
              clear HK
              clear HB
              have HO_556000 := n0_
              have BK554 := n1_
              have BK555 := n2_
              have HI0 := n3_
              have HK := n4_
              have HB := n5_
              clear n0_ n1_ n2_ n3_ n4_ n5_
              refine start_ (n := 8) (S := fun w' => w'.cell? ⟨gb555, 0, none⟩ = some (u556000)) (ds := [7]) #[false, false, false, false, false, false, false, false] (by kernel_rfl) rfl rfl ((blk_cell BK555.out 0).trans rfl) (fun hHeld => ?_); refine with_tabW spec_l20Table.tab12 spec_l20Table.bits12 (fun HT_ HW_ => ?_)
              generalize w35.drew = w36 at HO_556000 BK554 BK555 HI0 HK HB hHeld ⊢
              refine pure_ (i := 0) (N := some 45) (v := ?_) (a' := ?_) #[true, false, false, false, false, false, false, false] rfl rfl (any_of HT_.out (by kernel_rfl)) (fun _ _ _ h => h) (Or.inl ⟨by rfl, ?_⟩) ?_ ?_
              rotate_left
              · intro w'
                go_simp
                with_reducible rfl
              rotate_left
              · simp only [Act.put, List.setIfInBounds_toArray, List.set_cons_zero, List.set_cons_succ, i64_w, i32_w]
                rfl
              refine pure_ (i := 2) (N := some 47) (v := ?_) (a' := ?_) #[true, false, true, false, false, false, false, false] rfl rfl (any_of HT_.out (by kernel_rfl)) (fun _ _ _ h => h) (Or.inl ⟨by rfl, ?_⟩) ?_ ?_
              rotate_left
              · intro w'
                go_simp
                with_reducible rfl
              rotate_left
              · simp only [Act.put, List.setIfInBounds_toArray, List.set_cons_zero, List.set_cons_succ, i64_w, i32_w]
                rfl
              refine take_ (i := 1) (N := some 46) (v := ?_) (a' := ?_) #[true, true, true, false, false, false, false, false] rfl rfl (take_ofW HT_.out HW_.out (by kernel_rfl)) (fun _ _ _ h => h) (Or.inl ⟨by rfl, ?_⟩) hHeld ?_ ?_
              rotate_left
              · intro w' s0
                go_simp
                with_reducible rfl
              rotate_left
              · simp only [Act.put, List.setIfInBounds_toArray, List.set_cons_zero, List.set_cons_succ, i64_w, i32_w]
                rfl
              refine one_ (i := 3) (N := some 48) #[true, true, true, true, false, false, false, false] rfl rfl (one_of HT_.out (by kernel_rfl)) (by decide) (fun K hK => ?_)
              refine goes_ Try.func62 (by kernel_rfl) rfl #[.pointer (some ⟨g, 0, none⟩)] (by rfl) rfl rfl (by (try simp only [List.map_toArray, List.map_cons, List.map_nil]); first | done | rfl | (simp only [List.length_drop, List.length_take]; rfl)) ?_
              with_reducible refine (spec_l20Out.calls k1 g s0_0 t569 t570 t571 t572 w0 _ ?side1 ?side2 A32.out).mono ?_
              (case side1 => repeat (first | (with_reducible first | exact HI0.out | apply IsS102.alloc | apply IsS102.drewN | apply IsS102.drew | apply IsS102.set_1 | refine IsS102.far ?_ NB0_554.out _ | refine IsS102.far ?_ NB0_555.out _) | exact HI0.out))
              (case side2 => repeat (first | (with_reducible first | exact HB.out | apply below_alloc | apply pw_below_drewN | apply below_drew1 | refine below_set ?_ (IsS102.ge HI0.out) | refine below_set ?_ GE554.out | refine below_set ?_ GE555.out) | exact HB.out))
              rintro e w37 ⟨rfl, hi, hb, hk⟩
              refine ⟨_, rfl, ?_⟩
              have n0_ := Aside0.mk (Kd.R_mono (Kd.R_keep (IsS102.apart (show IsS102 w0 _ g s0_0 t569 from by repeat (first | (with_reducible first | exact HI0.out | apply IsS102.alloc | apply IsS102.drewN | apply IsS102.drew | apply IsS102.set_1 | refine IsS102.far ?_ NB0_554.out _ | refine IsS102.far ?_ NB0_555.out _) | exact HI0.out)) (rs HO_556000) (by decide)) hk (fun _ h => h.2)) (fun _ h => h.1))
              have n1_ := Aside0.mk (KeepBut.blk hk (g' := gb554) (o := .cells #[.slice none 0 0] 45 (0, 0)) (bk BK554) NB554_0.out (by simp))
              have n2_ := Aside0.mk (KeepBut.blk hk (g' := gb555) (o := .cells #[u556000] 45 (0, 0)) (bk BK555) NB555_0.out (by simp))
              have n3_ := Aside0.mk (KeepBut.trans (by repeat (first | (with_reducible first | exact HK.out | apply KeepBut.set_ | apply keep_drewN | apply keep_drew | apply keep_alloc | refine keep_far ?_ GW554.out _ | refine keep_far ?_ GW555.out _) | exact HK.out)) hk (.inl rfl))
              have n4_ := Aside0.mk (hb)
              have n5_ := Aside0.mk (hi)
              clear HO_556000
              clear BK554
              clear BK555
              clear HK
              clear HB
              clear HI0
              have HO_556000 := n0_
              have BK554 := n1_
              have BK555 := n2_
              have HK := n3_
              have HB := n4_
              have HI0 := n5_
              clear n0_ n1_ n2_ n3_ n4_ n5_
              (try clear hb)
              (try clear hb2)
              (try clear hk)
              (try clear hi)
              refine hK.out _ _ ((blk_cell BK555.out 0).trans rfl) (fun hHeld => ?_)
              clear hK K
              refine norm_ (a' := ?_) ?_ ?_
              rotate_left
              · show Act.put _ (some 48) _ = _
                simp only [Act.put, List.setIfInBounds_toArray, List.set_cons_zero, List.set_cons_succ, i64_w, i32_w]
                rfl
              refine one_ (i := 4) (N := some 49) #[true, true, true, true, true, false, false, false] rfl rfl (one_of HT_.out (by kernel_rfl)) (by decide) (fun K hK => ?_)
              refine value_ (w1 := ?_) (v := ?_) (by rfl) rfl ?_ ?_
              rotate_left 2
              · go_simp
                constructor
                · rfl
                · rfl
              refine hK.out _ _ ((blk_cell (blk_alloc BK555.out _) 0).trans rfl) (fun hHeld => ?_)
              clear hK K
              refine norm_ (a' := ?_) ?_ ?_
              rotate_left
              · show Act.put _ (some 49) _ = _
                simp only [Act.put, List.setIfInBounds_toArray, List.set_cons_zero, List.set_cons_succ, i64_w, i32_w]
                rfl
              refine one_ (i := 5) (N := some 50) #[true, true, true, true, true, true, false, false] rfl rfl (one_of HT_.out (by kernel_rfl)) (by decide) (fun K hK => ?_)
              refine Kd.R_append_step k29 w.heap.size (by rfl) (.tmp 46) (.tmp 49) 43 29 (.agg #[(.int .i64 0), (.int .i64 0)]) 16 rfl Try.underlying43 info29 rfl (by decide) (by omega) u556000 x556000_1 (⟨t570, t571⟩ : S29) [.int .i64 t570, .int .i64 t571] (fun _ => True) (fun _ => False) rfl rfl ?aP (fun _ hk => hk.elim) ?aF ?aO (Below.refl _ _) ?aS ?aL ?_
              (case aP => exact k29_mkM _ _ _ (⟨t570, t571⟩ : S29))
              (case aF => exact (fun _ _ => trivial))
              (case aO => exact (rs HO_556000))
              (case aS => exact (keep_size (w := w) (g := g) (row := none) (by repeat (first | (with_reducible first | exact HK.out | apply KeepBut.set_ | apply keep_drewN | apply keep_drew | apply keep_alloc | refine keep_far ?_ GW554.out _ | refine keep_far ?_ GW555.out _) | exact HK.out))))
              (case aL => have := LMc33.out; omega)
              intro v574 w38 ho hb hg hat
              rw [← Ny573.out] at ho
              have n0_ := Aside0.mk (blk_grown (g := gb554) (o := .cells #[.slice none 0 0] 45 (0, 0)) (bk BK554) hg (Kd.R_ne HO_556000.out BK554.out (by decide)))
              have n1_ := Aside0.mk (blk_grown (g := gb555) (o := .cells #[u556000] 45 (0, 0)) (bk BK555) hg (Kd.R_ne HO_556000.out BK555.out (by decide)))
              have n2_ := Aside0.mk (IsS102.grown (by repeat (first | (with_reducible first | exact HI0.out | apply IsS102.alloc | apply IsS102.drewN | apply IsS102.drew | apply IsS102.set_1 | refine IsS102.far ?_ NB0_554.out _ | refine IsS102.far ?_ NB0_555.out _) | exact HI0.out)) hg (IsS102.own_ne HI0.out HO_556000.out (by decide)))
              have n3_ := Aside0.mk (below_weaken (by repeat (first | (with_reducible first | exact HB.out | apply below_alloc | apply pw_below_drewN | apply below_drew1 | refine below_set ?_ (IsS102.ge HI0.out) | refine below_set ?_ GE554.out | refine below_set ?_ GE555.out) | exact HB.out)) HL.out hb)
              have n4_ := Aside0.mk (KeepBut.trans (by repeat (first | (with_reducible first | exact HK.out | apply KeepBut.set_ | apply keep_drewN | apply keep_drew | apply keep_alloc | refine keep_far ?_ GW554.out _ | refine keep_far ?_ GW555.out _) | exact HK.out)) (KeepBut.of_grown hg g) (Kd.R_base2 HO_556000.out))
              have n5_ := Aside0.mk (ho)
              clear BK554
              clear BK555
              clear HI0
              clear HB
              clear HK
              clear HO_556000
              have BK554 := n0_
              have BK555 := n1_
              have HI0 := n2_
              have HB := n3_
              have HK := n4_
              have HO575 := n5_
              clear n0_ n1_ n2_ n3_ n4_ n5_
              clear ho hb hg hat
              obtain ⟨Ao39, co39, eo39⟩ := Kd.R_slice HO575.out
              (first | subst eo39 | (injection eo39 with f1_ f2_ f3_; have f4_ := f1_.symm; have f5_ := f3_.symm; clear f1_ f2_ f3_; subst f4_; subst f5_))
              refine hK.out _ _ ((blk_cell BK555.out 0).trans rfl) (fun hHeld => ?_)
              clear hK K
              refine norm_ (a' := ?_) ?_ ?_
              rotate_left
              · show Act.put _ (some 50) _ = _
                simp only [Act.put, List.setIfInBounds_toArray, List.set_cons_zero, List.set_cons_succ, i64_w, i32_w]
                rfl
              refine pure_ (i := 6) (N := some 51) (v := ?_) (a' := ?_) #[true, true, true, true, true, true, true, false] rfl rfl (any_of HT_.out (by kernel_rfl)) (fun _ _ _ h => h) (Or.inl ⟨by rfl, ?_⟩) ?_ ?_
              rotate_left
              · intro w'
                go_simp
                with_reducible rfl
              rotate_left
              · simp only [Act.put, List.setIfInBounds_toArray, List.set_cons_zero, List.set_cons_succ, i64_w, i32_w]
                rfl
              refine last_ (i := 7) (N := none) #[true, true, true, true, true, true, true, true] rfl rfl (one_of HT_.out (by kernel_rfl)) (by decide) (fun K hK => ?_)
              have hs40 : w38.cell? ⟨gb555, 0, none⟩ = some (u556000) := (blk_cell BK555.out 0).trans rfl
              have hfs40 := blk_frozen BK555.out 0
              have hns40_0 := NB554_555.out
              have hms40_0 := NB555_554.out
              refine skip_ (w1 := ?_) (by rfl) rfl ?_ ?_
              rotate_left
              · go_simp
                rfl
              refine hK.out _ _ ?_
              clear hK K
              refine done_ (done_of HT_.out (by kernel_rfl)) ?_
              have hnb41 := NB555_554.out
              have hnc41 := NB554_555.out
              have hnb42 := NB555_0.out
              have hnc42 := NB0_555.out
              have hcz43_0 : w38.cell? ⟨gb555, 0, none⟩ = some (u556000) := (blk_cell BK555.out 0).trans rfl
              have hfz43_0 := blk_frozen BK555.out 0
              have hnb44 := NB554_0.out
              have hnc44 := NB0_554.out
              have hcz45_0 : w38.cell? ⟨gb554, 0, none⟩ = some (.slice none 0 0) := (blk_cell BK554.out 0).trans rfl
              have hfz45_0 := blk_frozen BK554.out 0
              try go_wp2
              refine bodyPost_ret (results_cell_row rfl _ _ gb554 45 #[.slice Ao39 y573.length co39] (0, 0) _ rfl (by (with_reducible repeat refine bu ?_); refine blk_put (cs := #[.slice none 0 0]) ?_ 0 _ rfl; (with_reducible repeat refine bu ?_); refine blk_far ?_ NB554_555.out _; (with_reducible repeat refine bu ?_); exact BK554.out) Try.underlying45 rfl (by kernel_rfl)) rfl ?_
              exact ⟨_, by first | rfl | (simp [errW_none, errW_some] <;> rfl) | (simp [*, errW_none, errW_some] <;> rfl), by (with_reducible repeat apply ru); exact Kd.R_mono (Kd.R_far (p := ⟨gb554, 0, none⟩) (Kd.R_far (p := ⟨gb555, 0, none⟩) (Kd.R_types (Kd.R_types HO575.out BK555.out (by decide)) BK554.out (by decide)) (fun _ hk => hk.1.2) (.slice Ao39 y573.length co39)) (fun _ hk => hk.2) (.slice Ao39 y573.length co39)) (fun _ hk => trivial), by repeat (first | (with_reducible first | exact HI0.out | apply IsS102.alloc | apply IsS102.drewN | apply IsS102.drew | apply IsS102.set_1 | refine IsS102.far ?_ NB0_554.out _ | refine IsS102.far ?_ NB0_555.out _) | exact HI0.out), by repeat (first | (with_reducible first | exact HB.out | apply below_alloc | apply pw_below_drewN | apply below_drew1 | refine below_set ?_ (IsS102.ge HI0.out) | refine below_set ?_ GE554.out | refine below_set ?_ GE555.out) | exact HB.out), by repeat (first | (with_reducible first | exact HK.out | apply KeepBut.set_ | apply keep_drewN | apply keep_drew | apply keep_alloc | refine keep_far ?_ GW554.out _ | refine keep_far ?_ GW555.out _) | exact HK.out)⟩
            · rw [if_neg c33] at H
              exact absurd H (by simp)
          · rw [if_neg c31] at H
            have c31b0 : (t568 == 0) = false := beq_eq_false_iff_ne.mpr c31
            have c31b1 : (t568 != 0) = true := bne_iff_ne.mpr c31
            by_cases c46 : t568 = 1
            · rw [if_pos c46] at H
              have c46b0 : (t568 == 1) = true := beq_iff_eq.mpr c46
              have c46b1 : (t568 != 1) = false := bne_eq_false_iff_eq.mpr c46
              clear c46
              by_cases c47 : x556000_1.length < 8796093022208
              · rw [if_pos c47] at H
                have LMc47 := Aside0.mk c47
                clear c47
                obtain ⟨y576, hy576⟩ : ∃ y_ : List (S29), y_ = (x556000_1 ++ [(⟨9, 9⟩ : S29)]) := ⟨_, rfl⟩
                replace H : (if y576.length < 8796093022208 then (some ((y576 ++ [(⟨9, 9⟩ : S29)]), t569)) else (none)) = some (r1, r2) := by first | (rw [hy576]; with_reducible exact H) | (have H2_ := (Option.bind_some _ _).symm.trans H; rw [hy576]; with_reducible exact H2_) | (have H2_ := (Option.bind_some _ _).symm.trans H; with_reducible exact H2_) | with_reducible exact H | (rw [hy576]; exact H) | exact H
                have Ny576 := Aside0.mk hy576
                clear hy576
                by_cases c48 : y576.length < 8796093022208
                · rw [if_pos c48] at H
                  have LMc48 := Aside0.mk c48
                  clear c48
                  obtain ⟨y579, hy579⟩ : ∃ y_ : List (S29), y_ = (y576 ++ [(⟨9, 9⟩ : S29)]) := ⟨_, rfl⟩
                  replace H : (some (y579, t569)) = some (r1, r2) := by first | (rw [hy579]; with_reducible exact H) | (have H2_ := (Option.bind_some _ _).symm.trans H; rw [hy579]; with_reducible exact H2_) | (have H2_ := (Option.bind_some _ _).symm.trans H; with_reducible exact H2_) | with_reducible exact H | (rw [hy579]; exact H) | exact H
                  have Ny579 := Aside0.mk hy579
                  clear hy579
                  simp only [Option.some.injEq, Prod.mk.injEq] at H
                  obtain ⟨rfl, rfl⟩ := H
                  go_wp2_with (first | ((with_reducible refine gate_callee (f := 59) rfl ?_); refine goesL_ (some 26) rfl rfl Try.func59 (by kernel_rfl) rfl #[.pointer (some ⟨g, 0, none⟩), .int .i64 a1] rfl (by (try simp only [List.map_toArray, List.map_cons, List.map_nil]); first | done | rfl | (simp only [List.length_drop, List.length_take]; rfl)) ?_; (with_reducible refine (spec_l20Rd_odd.calls k1 g s0_0 x1001_1 a1 true t567 w0 _ ?side1 ?side2 A28.out).mono ?_); (case side1 => repeat (first | (with_reducible first | exact HI0.out | apply IsS102.alloc | apply IsS102.drewN | apply IsS102.drew | apply IsS102.set_1 | refine IsS102.far ?_ NB0_554.out _ | refine IsS102.far ?_ NB0_555.out _) | exact HI0.out)); (case side2 => repeat (first | (with_reducible first | exact HB.out | apply below_alloc | apply pw_below_drewN | apply below_drew1 | refine below_set ?_ (IsS102.ge HI0.out) | refine below_set ?_ GE554.out | refine below_set ?_ GE555.out) | exact HB.out)); rintro e w49 ⟨rfl, hi, hb, hk⟩; refine ⟨_, rfl, ?_⟩; have n0_ := Aside0.mk (Kd.R_mono (Kd.R_keep (IsS102.apart (show IsS102 w0 _ g s0_0 x1001_1 from by repeat (first | (with_reducible first | exact HI0.out | apply IsS102.alloc | apply IsS102.drewN | apply IsS102.drew | apply IsS102.set_1 | refine IsS102.far ?_ NB0_554.out _ | refine IsS102.far ?_ NB0_555.out _) | exact HI0.out)) (rs HO_556000) (by decide)) hk (fun _ h => h.2)) (fun _ h => h.1)); have n1_ := Aside0.mk (KeepBut.blk hk (g' := gb554) (o := .cells #[.slice none 0 0] 45 (0, 0)) (bk BK554) NB554_0.out (by simp)); have n2_ := Aside0.mk (KeepBut.blk hk (g' := gb555) (o := .cells #[u556000] 45 (0, 0)) (bk BK555) NB555_0.out (by simp)); have n3_ := Aside0.mk (KeepBut.trans (by repeat (first | (with_reducible first | exact HK.out | apply KeepBut.set_ | apply keep_drewN | apply keep_drew | apply keep_alloc | refine keep_far ?_ GW554.out _ | refine keep_far ?_ GW555.out _) | exact HK.out)) hk (.inl rfl)); have n4_ := Aside0.mk (hb); have n5_ := Aside0.mk (hi); clear HO_556000; clear BK554; clear BK555; clear HK; clear HB; clear HI0; have HO_556000 := n0_; have BK554 := n1_; have BK555 := n2_; have HK := n3_; have HB := n4_; have HI0 := n5_; clear n0_ n1_ n2_ n3_ n4_ n5_; (try clear hb); (try clear hb2); (try clear hk); (try clear hi)) | ((with_reducible refine gate_callee (f := 58) rfl ?_); refine goesL_ (some 28) rfl rfl Try.func58 (by kernel_rfl) rfl #[.pointer (some ⟨g, 0, none⟩), .int .i64 3] rfl (by (try simp only [List.map_toArray, List.map_cons, List.map_nil]); first | done | rfl | (simp only [List.length_drop, List.length_take]; rfl)) ?_; (with_reducible refine (spec_l20Rd_pick.calls k1 g s0_0 t567 3 t568 t569 w0 _ ?side1 ?side2 A30.out).mono ?_); (case side1 => repeat (first | (with_reducible first | exact HI0.out | apply IsS102.alloc | apply IsS102.drewN | apply IsS102.drew | apply IsS102.set_1 | refine IsS102.far ?_ NB0_554.out _ | refine IsS102.far ?_ NB0_555.out _) | exact HI0.out)); (case side2 => repeat (first | (with_reducible first | exact HB.out | apply below_alloc | apply pw_below_drewN | apply below_drew1 | refine below_set ?_ (IsS102.ge HI0.out) | refine below_set ?_ GE554.out | refine below_set ?_ GE555.out) | exact HB.out)); rintro e w50 ⟨rfl, hi, hb, hk⟩; refine ⟨_, rfl, ?_⟩; have n0_ := Aside0.mk (Kd.R_mono (Kd.R_keep (IsS102.apart (show IsS102 w0 _ g s0_0 t567 from by repeat (first | (with_reducible first | exact HI0.out | apply IsS102.alloc | apply IsS102.drewN | apply IsS102.drew | apply IsS102.set_1 | refine IsS102.far ?_ NB0_554.out _ | refine IsS102.far ?_ NB0_555.out _) | exact HI0.out)) (rs HO_556000) (by decide)) hk (fun _ h => h.2)) (fun _ h => h.1)); have n1_ := Aside0.mk (KeepBut.blk hk (g' := gb554) (o := .cells #[.slice none 0 0] 45 (0, 0)) (bk BK554) NB554_0.out (by simp)); have n2_ := Aside0.mk (KeepBut.blk hk (g' := gb555) (o := .cells #[u556000] 45 (0, 0)) (bk BK555) NB555_0.out (by simp)); have n3_ := Aside0.mk (KeepBut.trans (by repeat (first | (with_reducible first | exact HK.out | apply KeepBut.set_ | apply keep_drewN | apply keep_drew | apply keep_alloc | refine keep_far ?_ GW554.out _ | refine keep_far ?_ GW555.out _) | exact HK.out)) hk (.inl rfl)); have n4_ := Aside0.mk (hb); have n5_ := Aside0.mk (hi); clear HO_556000; clear BK554; clear BK555; clear HK; clear HB; clear HI0; have HO_556000 := n0_; have BK554 := n1_; have BK555 := n2_; have HK := n3_; have HB := n4_; have HI0 := n5_; clear n0_ n1_ n2_ n3_ n4_ n5_; (try clear hb); (try clear hb2); (try clear hk); (try clear hi); have hnb51 := NB555_554.out; have hnc51 := NB554_555.out; have hnb52 := NB555_0.out; have hnc52 := NB0_555.out; have hcz53_0 : w50.cell? ⟨gb555, 0, none⟩ = some (u556000) := (blk_cell BK555.out 0).trans rfl; have hfz53_0 := blk_frozen BK555.out 0) | ((with_reducible refine gate_builtin (b := .append) (xs := #[.tmp 55, .tmp 57]) rfl ?_); at_builtin; refine Kd.R_append k29 w.heap.size rfl (.tmp 55) (.tmp 57) 43 29 (.agg #[(.int .i64 0), (.int .i64 0)]) 16 rfl Try.underlying43 info29 rfl (by decide) (by omega) u556000 x556000_1 (⟨9, 9⟩ : S29) [.int .i64 9, .int .i64 9] (fun _ => True) (fun _ => False) rfl rfl ?aP (fun _ hk => hk.elim) ?aF ?aO (Below.refl _ _) ?aS ?aL ?_; (case aP => exact k29_mkM _ _ _ (⟨9, 9⟩ : S29)); (case aF => exact (fun _ _ => trivial)); (case aO => exact (rs HO_556000)); (case aS => exact (keep_size (w := w) (g := g) (row := none) (by repeat (first | (with_reducible first | exact HK.out | apply KeepBut.set_ | apply keep_drewN | apply keep_drew | apply keep_alloc | refine keep_far ?_ GW554.out _ | refine keep_far ?_ GW555.out _) | exact HK.out)))); (case aL => have := LMc47.out; omega); intro v577 w54 ho hb hg hat; rw [← Ny576.out] at ho; have n0_ := Aside0.mk (blk_grown (g := gb554) (o := .cells #[.slice none 0 0] 45 (0, 0)) (bk BK554) hg (Kd.R_ne HO_556000.out BK554.out (by decide))); have n1_ := Aside0.mk (blk_grown (g := gb555) (o := .cells #[u556000] 45 (0, 0)) (bk BK555) hg (Kd.R_ne HO_556000.out BK555.out (by decide))); have n2_ := Aside0.mk (IsS102.grown (by repeat (first | (with_reducible first | exact HI0.out | apply IsS102.alloc | apply IsS102.drewN | apply IsS102.drew | apply IsS102.set_1 | refine IsS102.far ?_ NB0_554.out _ | refine IsS102.far ?_ NB0_555.out _) | exact HI0.out)) hg (IsS102.own_ne HI0.out HO_556000.out (by decide))); have n3_ := Aside0.mk (below_weaken (by repeat (first | (with_reducible first | exact HB.out | apply below_alloc | apply pw_below_drewN | apply below_drew1 | refine below_set ?_ (IsS102.ge HI0.out) | refine below_set ?_ GE554.out | refine below_set ?_ GE555.out) | exact HB.out)) HL.out hb); have n4_ := Aside0.mk (KeepBut.trans (by repeat (first | (with_reducible first | exact HK.out | apply KeepBut.set_ | apply keep_drewN | apply keep_drew | apply keep_alloc | refine keep_far ?_ GW554.out _ | refine keep_far ?_ GW555.out _) | exact HK.out)) (KeepBut.of_grown hg g) (Kd.R_base2 HO_556000.out)); have n5_ := Aside0.mk (ho); clear BK554; clear BK555; clear HI0; clear HB; clear HK; clear HO_556000; have BK554 := n0_; have BK555 := n1_; have HI0 := n2_; have HB := n3_; have HK := n4_; have HO578 := n5_; clear n0_ n1_ n2_ n3_ n4_ n5_; clear ho hb hg hat) | ((with_reducible refine gate_builtin (b := .append) (xs := #[.tmp 58, .tmp 60]) rfl ?_); at_builtin; refine Kd.R_append k29 w.heap.size rfl (.tmp 58) (.tmp 60) 43 29 (.agg #[(.int .i64 0), (.int .i64 0)]) 16 rfl Try.underlying43 info29 rfl (by decide) (by omega) v577 y576 (⟨9, 9⟩ : S29) [.int .i64 9, .int .i64 9] (fun _ => True) (fun _ => False) rfl rfl ?aP (fun _ hk => hk.elim) ?aF ?aO (Below.refl _ _) ?aS ?aL ?_; (case aP => exact k29_mkM _ _ _ (⟨9, 9⟩ : S29)); (case aF => exact (fun _ _ => trivial)); (case aO => exact (rs HO578)); (case aS => exact (keep_size (w := w) (g := g) (row := none) (by repeat (first | (with_reducible first | exact HK.out | apply KeepBut.set_ | apply keep_drewN | apply keep_drew | apply keep_alloc | refine keep_far ?_ GW554.out _ | refine keep_far ?_ GW555.out _) | exact HK.out)))); (case aL => have := LMc48.out; omega); intro v580 w55 ho hb hg hat; rw [← Ny579.out] at ho; have n0_ := Aside0.mk (blk_grown (g := gb554) (o := .cells #[.slice none 0 0] 45 (0, 0)) (bk BK554) hg (Kd.R_ne HO578.out BK554.out (by decide))); have n1_ := Aside0.mk (blk_grown (g := gb555) (o := .cells #[u556000] 45 (0, 0)) (bk BK555) hg (Kd.R_ne HO578.out BK555.out (by decide))); have n2_ := Aside0.mk (IsS102.grown (by repeat (first | (with_reducible first | exact HI0.out | apply IsS102.alloc | apply IsS102.drewN | apply IsS102.drew | apply IsS102.set_1 | refine IsS102.far ?_ NB0_554.out _ | refine IsS102.far ?_ NB0_555.out _) | exact HI0.out)) hg (IsS102.own_ne HI0.out HO578.out (by decide))); have n3_ := Aside0.mk (below_weaken (by repeat (first | (with_reducible first | exact HB.out | apply below_alloc | apply pw_below_drewN | apply below_drew1 | refine below_set ?_ (IsS102.ge HI0.out) | refine below_set ?_ GE554.out | refine below_set ?_ GE555.out) | exact HB.out)) HL.out hb); have n4_ := Aside0.mk (KeepBut.trans (by repeat (first | (with_reducible first | exact HK.out | apply KeepBut.set_ | apply keep_drewN | apply keep_drew | apply keep_alloc | refine keep_far ?_ GW554.out _ | refine keep_far ?_ GW555.out _) | exact HK.out)) (KeepBut.of_grown hg g) (Kd.R_base2 HO578.out)); have n5_ := Aside0.mk (ho); clear BK554; clear BK555; clear HI0; clear HB; clear HK; clear HO578; have BK554 := n0_; have BK555 := n1_; have HI0 := n2_; have HB := n3_; have HK := n4_; have HO581 := n5_; clear n0_ n1_ n2_ n3_ n4_ n5_; clear ho hb hg hat; obtain ⟨Ao56, co56, eo56⟩ := Kd.R_slice HO581.out; subst eo56; have hcz57_0 : w55.cell? ⟨gb555, 0, none⟩ = some (u556000) := (blk_cell BK555.out 0).trans rfl; have hfz57_0 := blk_frozen BK555.out 0; have hnb58 := NB554_0.out; have hnc58 := NB0_554.out; have hcz59_0 : w55.cell? ⟨gb554, 0, none⟩ = some (.slice none 0 0) := (blk_cell BK554.out 0).trans rfl; have hfz59_0 := blk_frozen BK554.out 0))
                  refine bodyPost_ret (results_cell_row rfl _ _ gb554 45 #[.slice Ao56 y579.length co56] (0, 0) _ rfl (by (with_reducible repeat refine bu ?_); refine blk_put (cs := #[.slice none 0 0]) ?_ 0 _ rfl; (with_reducible repeat refine bu ?_); refine blk_far ?_ NB554_555.out _; (with_reducible repeat refine bu ?_); exact BK554.out) Try.underlying45 rfl (by kernel_rfl)) rfl ?_
                  exact ⟨_, by first | rfl | (simp [errW_none, errW_some] <;> rfl) | (simp [*, errW_none, errW_some] <;> rfl), by (with_reducible repeat apply ru); exact Kd.R_mono (Kd.R_far (p := ⟨gb554, 0, none⟩) (Kd.R_far (p := ⟨gb555, 0, none⟩) (Kd.R_types (Kd.R_types HO581.out BK555.out (by decide)) BK554.out (by decide)) (fun _ hk => hk.1.2) (.slice Ao56 y579.length co56)) (fun _ hk => hk.2) (.slice Ao56 y579.length co56)) (fun _ hk => trivial), by repeat (first | (with_reducible first | exact HI0.out | apply IsS102.alloc | apply IsS102.drewN | apply IsS102.drew | apply IsS102.set_1 | refine IsS102.far ?_ NB0_554.out _ | refine IsS102.far ?_ NB0_555.out _) | exact HI0.out), by repeat (first | (with_reducible first | exact HB.out | apply below_alloc | apply pw_below_drewN | apply below_drew1 | refine below_set ?_ (IsS102.ge HI0.out) | refine below_set ?_ GE554.out | refine below_set ?_ GE555.out) | exact HB.out), by repeat (first | (with_reducible first | exact HK.out | apply KeepBut.set_ | apply keep_drewN | apply keep_drew | apply keep_alloc | refine keep_far ?_ GW554.out _ | refine keep_far ?_ GW555.out _) | exact HK.out)⟩
                · rw [if_neg c48] at H
                  exact absurd H (by simp)
              · rw [if_neg c47] at H
                exact absurd H (by simp)
            · rw [if_neg c46] at H
              have c46b0 : (t568 == 1) = false := beq_eq_false_iff_ne.mpr c46
              have c46b1 : (t568 != 1) = true := bne_iff_ne.mpr c46
              have H' := Aside0.mk H
              clear H
              go_wp2_with (first | ((with_reducible refine gate_callee (f := 59) rfl ?_); refine goesL_ (some 26) rfl rfl Try.func59 (by kernel_rfl) rfl #[.pointer (some ⟨g, 0, none⟩), .int .i64 a1] rfl (by (try simp only [List.map_toArray, List.map_cons, List.map_nil]); first | done | rfl | (simp only [List.length_drop, List.length_take]; rfl)) ?_; (with_reducible refine (spec_l20Rd_odd.calls k1 g s0_0 x1001_1 a1 true t567 w0 _ ?side1 ?side2 A28.out).mono ?_); (case side1 => repeat (first | (with_reducible first | exact HI0.out | apply IsS102.alloc | apply IsS102.drewN | apply IsS102.drew | apply IsS102.set_1 | refine IsS102.far ?_ NB0_554.out _ | refine IsS102.far ?_ NB0_555.out _) | exact HI0.out)); (case side2 => repeat (first | (with_reducible first | exact HB.out | apply below_alloc | apply pw_below_drewN | apply below_drew1 | refine below_set ?_ (IsS102.ge HI0.out) | refine below_set ?_ GE554.out | refine below_set ?_ GE555.out) | exact HB.out)); rintro e w60 ⟨rfl, hi, hb, hk⟩; refine ⟨_, rfl, ?_⟩; have n0_ := Aside0.mk (Kd.R_mono (Kd.R_keep (IsS102.apart (show IsS102 w0 _ g s0_0 x1001_1 from by repeat (first | (with_reducible first | exact HI0.out | apply IsS102.alloc | apply IsS102.drewN | apply IsS102.drew | apply IsS102.set_1 | refine IsS102.far ?_ NB0_554.out _ | refine IsS102.far ?_ NB0_555.out _) | exact HI0.out)) (rs HO_556000) (by decide)) hk (fun _ h => h.2)) (fun _ h => h.1)); have n1_ := Aside0.mk (KeepBut.blk hk (g' := gb554) (o := .cells #[.slice none 0 0] 45 (0, 0)) (bk BK554) NB554_0.out (by simp)); have n2_ := Aside0.mk (KeepBut.blk hk (g' := gb555) (o := .cells #[u556000] 45 (0, 0)) (bk BK555) NB555_0.out (by simp)); have n3_ := Aside0.mk (KeepBut.trans (by repeat (first | (with_reducible first | exact HK.out | apply KeepBut.set_ | apply keep_drewN | apply keep_drew | apply keep_alloc | refine keep_far ?_ GW554.out _ | refine keep_far ?_ GW555.out _) | exact HK.out)) hk (.inl rfl)); have n4_ := Aside0.mk (hb); have n5_ := Aside0.mk (hi); clear HO_556000; clear BK554; clear BK555; clear HK; clear HB; clear HI0; have HO_556000 := n0_; have BK554 := n1_; have BK555 := n2_; have HK := n3_; have HB := n4_; have HI0 := n5_; clear n0_ n1_ n2_ n3_ n4_ n5_; (try clear hb); (try clear hb2); (try clear hk); (try clear hi)) | ((with_reducible refine gate_callee (f := 58) rfl ?_); refine goesL_ (some 28) rfl rfl Try.func58 (by kernel_rfl) rfl #[.pointer (some ⟨g, 0, none⟩), .int .i64 3] rfl (by (try simp only [List.map_toArray, List.map_cons, List.map_nil]); first | done | rfl | (simp only [List.length_drop, List.length_take]; rfl)) ?_; (with_reducible refine (spec_l20Rd_pick.calls k1 g s0_0 t567 3 t568 t569 w0 _ ?side1 ?side2 A30.out).mono ?_); (case side1 => repeat (first | (with_reducible first | exact HI0.out | apply IsS102.alloc | apply IsS102.drewN | apply IsS102.drew | apply IsS102.set_1 | refine IsS102.far ?_ NB0_554.out _ | refine IsS102.far ?_ NB0_555.out _) | exact HI0.out)); (case side2 => repeat (first | (with_reducible first | exact HB.out | apply below_alloc | apply pw_below_drewN | apply below_drew1 | refine below_set ?_ (IsS102.ge HI0.out) | refine below_set ?_ GE554.out | refine below_set ?_ GE555.out) | exact HB.out)); rintro e w61 ⟨rfl, hi, hb, hk⟩; refine ⟨_, rfl, ?_⟩; have n0_ := Aside0.mk (Kd.R_mono (Kd.R_keep (IsS102.apart (show IsS102 w0 _ g s0_0 t567 from by repeat (first | (with_reducible first | exact HI0.out | apply IsS102.alloc | apply IsS102.drewN | apply IsS102.drew | apply IsS102.set_1 | refine IsS102.far ?_ NB0_554.out _ | refine IsS102.far ?_ NB0_555.out _) | exact HI0.out)) (rs HO_556000) (by decide)) hk (fun _ h => h.2)) (fun _ h => h.1)); have n1_ := Aside0.mk (KeepBut.blk hk (g' := gb554) (o := .cells #[.slice none 0 0] 45 (0, 0)) (bk BK554) NB554_0.out (by simp)); have n2_ := Aside0.mk (KeepBut.blk hk (g' := gb555) (o := .cells #[u556000] 45 (0, 0)) (bk BK555) NB555_0.out (by simp)); have n3_ := Aside0.mk (KeepBut.trans (by repeat (first | (with_reducible first | exact HK.out | apply KeepBut.set_ | apply keep_drewN | apply keep_drew | apply keep_alloc | refine keep_far ?_ GW554.out _ | refine keep_far ?_ GW555.out _) | exact HK.out)) hk (.inl rfl)); have n4_ := Aside0.mk (hb); have n5_ := Aside0.mk (hi); clear HO_556000; clear BK554; clear BK555; clear HK; clear HB; clear HI0; have HO_556000 := n0_; have BK554 := n1_; have BK555 := n2_; have HK := n3_; have HB := n4_; have HI0 := n5_; clear n0_ n1_ n2_ n3_ n4_ n5_; (try clear hb); (try clear hb2); (try clear hk); (try clear hi)))
              go_loopg [] k1 (fun kq w' => ∃ (x556000_2 : List (S29)) (u556000 : Value), Aside0 (spec_l20Table.l1 kq s0_0 t569 x556000_2 = some (r1, r2)) ∧ Aside0 (kq ≤ k1) ∧ Aside0 (Kd.R k29 29 w' w.heap.size (fun _ => True) u556000 x556000_2) ∧ Aside0 (w'.heap[gb554]? = some (.cells #[(.slice none 0 0)] 45 (0, 0))) ∧ Aside0 (w'.heap[gb555]? = some (.cells #[u556000] 45 (0, 0))) ∧ Aside0 (IsS102 w0 w' g s0_0 t569) ∧ Aside0 (KeepBut w w' g none) ∧ Aside0 (Below w0.heap.size w0 w'))
              case atStart => exact ⟨(x556000_1), (u556000), H', ⟨Nat.le_refl _⟩, ⟨by (with_reducible repeat apply ru); exact HO_556000.out⟩, ⟨by (with_reducible repeat refine bu ?_); exact BK554.out⟩, ⟨by (with_reducible repeat refine bu ?_); exact BK555.out⟩, ⟨by repeat (first | (with_reducible first | exact HI0.out | apply IsS102.alloc | apply IsS102.drewN | apply IsS102.drew | apply IsS102.set_1 | refine IsS102.far ?_ NB0_554.out _ | refine IsS102.far ?_ NB0_555.out _) | exact HI0.out)⟩, ⟨by repeat (first | (with_reducible first | exact HK.out | apply KeepBut.set_ | apply keep_drewN | apply keep_drew | apply keep_alloc | refine keep_far ?_ GW554.out _ | refine keep_far ?_ GW555.out _) | exact HK.out)⟩, ⟨by repeat (first | (with_reducible first | exact HB.out | apply below_alloc | apply pw_below_drewN | apply below_drew1 | refine below_set ?_ (IsS102.ge HI0.out) | refine below_set ?_ GE554.out | refine below_set ?_ GE555.out) | exact HB.out)⟩⟩
              case round =>
                clear H'
                try clear c1
                try clear c2
                try clear p2
                try clear c3
                try clear c4
                try clear c5
                try clear c6
                try clear p6
                try clear c10
                try clear c10b0
                try clear c21
                try clear c22
                try clear c23
                try clear c25
                try clear c26
                try clear c29
                try clear c31
                try clear c31b0
                try clear c31b1
                try clear c33
                try clear c41
                try clear c42
                try clear c44
                try clear c46
                try clear c46b0
                try clear c46b1
                try clear c47
                try clear c48
                try clear c51
                try clear c52
                try clear c58
                try clear c59
                try clear c61
                try clear hcz24_0
                try clear hcz27_0
                try clear hcz43_0
                try clear hcz45_0
                try clear hcz53_0
                try clear hcz57_0
                try clear hcz59_0
                try clear hfz24_0
                try clear hfz27_0
                try clear hfz43_0
                try clear hfz45_0
                try clear hfz53_0
                try clear hfz57_0
                try clear hfz59_0
                obtain ⟨x556000_2, u556000, HA, HK2, HO_556000, BK554, BK555, HI0, HK, HB⟩ := hrel
                cases gk with
                | zero => exact absurd HA.out (by simp [spec_l20Table.l1])
                | succ k2 =>
                  have H := HA.out
                  clear HA
                  simp only [spec_l20Table.l1] at H
                  by_cases c62 : (x556000_2.length : Int) ≤ 6
                  · rw [if_pos c62] at H
                    have c62b0 : decide ((x556000_2.length : Int) ≤ 6) = true := decide_eq_true c62
                    have c62b1 : decide (x556000_2.length ≤ 6) = true := decide_eq_true (by omega)
                    clear c62
                    by_cases c63 : x556000_2.length < 8796093022208
                    · rw [if_pos c63] at H
                      have LMc63 := Aside0.mk c63
                      clear c63
                      obtain ⟨y582, hy582⟩ : ∃ y_ : List (S29), y_ = (x556000_2 ++ [(⟨8, wrap64 (1 + (x556000_2.length : Int))⟩ : S29)]) := ⟨_, rfl⟩
                      replace H : (spec_l20Table.l1 k2 s0_0 t569 y582) = some (r1, r2) := by first | (rw [hy582]; with_reducible exact H) | (have H2_ := (Option.bind_some _ _).symm.trans H; rw [hy582]; with_reducible exact H2_) | (have H2_ := (Option.bind_some _ _).symm.trans H; with_reducible exact H2_) | with_reducible exact H | (rw [hy582]; exact H) | exact H
                      have Ny582 := Aside0.mk hy582
                      clear hy582
                      have H' := Aside0.mk H
                      clear H
                      have hnb64 := NB555_554.out
                      have hnc64 := NB554_555.out
                      have hnb65 := NB555_0.out
                      have hnc65 := NB0_555.out
                      have hcz66_0 : wr.cell? ⟨gb555, 0, none⟩ = some (u556000) := (blk_cell BK555.out 0).trans rfl
                      have hfz66_0 := blk_frozen BK555.out 0
                      obtain ⟨Ao67, co67, eo67⟩ := Kd.R_slice HO_556000.out
                      subst eo67
                      go_wp2_with (first | ((with_reducible refine gate_builtin (b := .append) (xs := #[.tmp 34, .tmp 40]) rfl ?_); at_builtin; refine Kd.R_append k29 w.heap.size rfl (.tmp 34) (.tmp 40) 43 29 (.agg #[(.int .i64 0), (.int .i64 0)]) 16 rfl Try.underlying43 info29 rfl (by decide) (by omega) (.slice Ao67 x556000_2.length co67) x556000_2 (⟨8, wrap64 (1 + (x556000_2.length : Int))⟩ : S29) [.int .i64 8, .int .i64 (wrap64 (1 + (x556000_2.length : Int)))] (fun _ => True) (fun _ => False) rfl rfl ?aP (fun _ hk => hk.elim) ?aF ?aO (Below.refl _ _) ?aS ?aL ?_; (case aP => exact k29_mkM _ _ _ (⟨8, wrap64 (1 + (x556000_2.length : Int))⟩ : S29)); (case aF => exact (fun _ _ => trivial)); (case aO => exact (rs HO_556000)); (case aS => exact (keep_size (w := w) (g := g) (row := none) (by repeat (first | (with_reducible first | exact HK.out | apply KeepBut.set_ | apply keep_drewN | apply keep_drew | apply keep_alloc | refine keep_far ?_ GW554.out _ | refine keep_far ?_ GW555.out _) | exact HK.out)))); (case aL => have := LMc63.out; omega); intro v583 w68 ho hb hg hat; rw [← Ny582.out] at ho; have n0_ := Aside0.mk (blk_grown (g := gb554) (o := .cells #[.slice none 0 0] 45 (0, 0)) (bk BK554) hg (Kd.R_ne HO_556000.out BK554.out (by decide))); have n1_ := Aside0.mk (blk_grown (g := gb555) (o := .cells #[.slice Ao67 x556000_2.length co67] 45 (0, 0)) (bk BK555) hg (Kd.R_ne HO_556000.out BK555.out (by decide))); have n2_ := Aside0.mk (IsS102.grown (by repeat (first | (with_reducible first | exact HI0.out | apply IsS102.alloc | apply IsS102.drewN | apply IsS102.drew | apply IsS102.set_1 | refine IsS102.far ?_ NB0_554.out _ | refine IsS102.far ?_ NB0_555.out _) | exact HI0.out)) hg (IsS102.own_ne HI0.out HO_556000.out (by decide))); have n3_ := Aside0.mk (below_weaken (by repeat (first | (with_reducible first | exact HB.out | apply below_alloc | apply pw_below_drewN | apply below_drew1 | refine below_set ?_ (IsS102.ge HI0.out) | refine below_set ?_ GE554.out | refine below_set ?_ GE555.out) | exact HB.out)) HL.out hb); have n4_ := Aside0.mk (KeepBut.trans (by repeat (first | (with_reducible first | exact HK.out | apply KeepBut.set_ | apply keep_drewN | apply keep_drew | apply keep_alloc | refine keep_far ?_ GW554.out _ | refine keep_far ?_ GW555.out _) | exact HK.out)) (KeepBut.of_grown hg g) (Kd.R_base2 HO_556000.out)); have n5_ := Aside0.mk (ho); clear BK554; clear BK555; clear HI0; clear HB; clear HK; clear HO_556000; have BK554 := n0_; have BK555 := n1_; have HI0 := n2_; have HB := n3_; have HK := n4_; have HO584 := n5_; clear n0_ n1_ n2_ n3_ n4_ n5_; clear ho hb hg hat; obtain ⟨Ao69, co69, eo69⟩ := Kd.R_slice HO584.out; subst eo69; have hcz70_0 : w68.cell? ⟨gb555, 0, none⟩ = some (.slice Ao67 x556000_2.length co67) := (blk_cell BK555.out 0).trans rfl; have hfz70_0 := blk_frozen BK555.out 0))
                      go_roundg k2
                      case measure => have := HK1.out; have := HK2.out; omega
                      case rel => exact ⟨(y582), (.slice Ao69 y582.length co69), H', ⟨by have := HK1.out; have := HK2.out; omega⟩, ⟨by (with_reducible repeat apply ru); exact Kd.R_mono (Kd.R_far (p := ⟨gb555, 0, none⟩) (Kd.R_types HO584.out BK555.out (by decide)) (fun _ hk => hk.2) (.slice Ao69 y582.length co69)) (fun _ hk => trivial)⟩, ⟨by (with_reducible repeat refine bu ?_); refine blk_far ?_ NB554_555.out _; (with_reducible repeat refine bu ?_); exact BK554.out⟩, ⟨by (with_reducible repeat refine bu ?_); refine blk_put (cs := #[.slice Ao67 x556000_2.length co67]) ?_ 0 _ rfl; (with_reducible repeat refine bu ?_); exact BK555.out⟩, ⟨by repeat (first | (with_reducible first | exact HI0.out | apply IsS102.alloc | apply IsS102.drewN | apply IsS102.drew | apply IsS102.set_1 | refine IsS102.far ?_ NB0_554.out _ | refine IsS102.far ?_ NB0_555.out _) | exact HI0.out)⟩, ⟨by repeat (first | (with_reducible first | exact HK.out | apply KeepBut.set_ | apply keep_drewN | apply keep_drew | apply keep_alloc | refine keep_far ?_ GW554.out _ | refine keep_far ?_ GW555.out _) | exact HK.out)⟩, ⟨by repeat (first | (with_reducible first | exact HB.out | apply below_alloc | apply pw_below_drewN | apply below_drew1 | refine below_set ?_ (IsS102.ge HI0.out) | refine below_set ?_ GE554.out | refine below_set ?_ GE555.out) | exact HB.out)⟩⟩
                    · rw [if_neg c63] at H
                      exact absurd H (by simp)
                  · rw [if_neg c62] at H
                    have c62b0 : decide ((x556000_2.length : Int) ≤ 6) = false := decide_eq_false c62
                    have c62b1 : decide (x556000_2.length ≤ 6) = false := decide_eq_false (by omega)
                    clear c62
                    simp only [Option.some.injEq, Prod.mk.injEq] at H
                    obtain ⟨rfl, rfl⟩ := H
                    have hnb71 := NB555_554.out
                    have hnc71 := NB554_555.out
                    have hnb72 := NB555_0.out
                    have hnc72 := NB0_555.out
                    have hcz73_0 : wr.cell? ⟨gb555, 0, none⟩ = some (u556000) := (blk_cell BK555.out 0).trans rfl
                    have hfz73_0 := blk_frozen BK555.out 0
                    obtain ⟨Ao74, co74, eo74⟩ := Kd.R_slice HO_556000.out
                    subst eo74
                    have hnb75 := NB554_0.out
                    have hnc75 := NB0_554.out
                    have hcz76_0 : wr.cell? ⟨gb554, 0, none⟩ = some (.slice none 0 0) := (blk_cell BK554.out 0).trans rfl
                    have hfz76_0 := blk_frozen BK554.out 0
                    go_wp2
                    refine bodyPost_ret (results_cell_row rfl _ _ gb554 45 #[.slice Ao74 x556000_2.length co74] (0, 0) _ rfl (by (with_reducible repeat refine bu ?_); refine blk_put (cs := #[.slice none 0 0]) ?_ 0 _ rfl; (with_reducible repeat refine bu ?_); exact BK554.out) Try.underlying45 rfl (by kernel_rfl)) rfl ?_
                    exact ⟨_, by first | rfl | (simp [errW_none, errW_some] <;> rfl) | (simp [*, errW_none, errW_some] <;> rfl), by (with_reducible repeat apply ru); exact Kd.R_mono (Kd.R_far (p := ⟨gb554, 0, none⟩) (Kd.R_types HO_556000.out BK554.out (by decide)) (fun _ hk => hk.2) (.slice Ao74 x556000_2.length co74)) (fun _ hk => trivial), by repeat (first | (with_reducible first | exact HI0.out | apply IsS102.alloc | apply IsS102.drewN | apply IsS102.drew | apply IsS102.set_1 | refine IsS102.far ?_ NB0_554.out _ | refine IsS102.far ?_ NB0_555.out _) | exact HI0.out), by repeat (first | (with_reducible first | exact HB.out | apply below_alloc | apply pw_below_drewN | apply below_drew1 | refine below_set ?_ (IsS102.ge HI0.out) | refine below_set ?_ GE554.out | refine below_set ?_ GE555.out) | exact HB.out), by repeat (first | (with_reducible first | exact HK.out | apply KeepBut.set_ | apply keep_drewN | apply keep_drew | apply keep_alloc | refine keep_far ?_ GW554.out _ | refine keep_far ?_ GW555.out _) | exact HK.out)⟩
        · replace c29 := Bool.eq_false_iff.mpr c29
          subst c29
          have H1 : (some (x556000_1, t567)) = some (r1, r2) := by rw [if_neg (show ¬ (false = true) by decide)] at H; exact H
          clear H
          have H := H1
          clear H1
          simp only [Option.some.injEq, Prod.mk.injEq] at H
          obtain ⟨rfl, rfl⟩ := H
          go_wp2_with (first | ((with_reducible refine gate_callee (f := 59) rfl ?_); refine goesL_ (some 26) rfl rfl Try.func59 (by kernel_rfl) rfl #[.pointer (some ⟨g, 0, none⟩), .int .i64 a1] rfl (by (try simp only [List.map_toArray, List.map_cons, List.map_nil]); first | done | rfl | (simp only [List.length_drop, List.length_take]; rfl)) ?_; (with_reducible refine (spec_l20Rd_odd.calls k1 g s0_0 x1001_1 a1 false t567 w0 _ ?side1 ?side2 A28.out).mono ?_); (case side1 => repeat (first | (with_reducible first | exact HI0.out | apply IsS102.alloc | apply IsS102.drewN | apply IsS102.drew | apply IsS102.set_1 | refine IsS102.far ?_ NB0_554.out _ | refine IsS102.far ?_ NB0_555.out _) | exact HI0.out)); (case side2 => repeat (first | (with_reducible first | exact HB.out | apply below_alloc | apply pw_below_drewN | apply below_drew1 | refine below_set ?_ (IsS102.ge HI0.out) | refine below_set ?_ GE554.out | refine below_set ?_ GE555.out) | exact HB.out)); rintro e w77 ⟨rfl, hi, hb, hk⟩; refine ⟨_, rfl, ?_⟩; have n0_ := Aside0.mk (Kd.R_mono (Kd.R_keep (IsS102.apart (show IsS102 w0 _ g s0_0 x1001_1 from by repeat (first | (with_reducible first | exact HI0.out | apply IsS102.alloc | apply IsS102.drewN | apply IsS102.drew | apply IsS102.set_1 | refine IsS102.far ?_ NB0_554.out _ | refine IsS102.far ?_ NB0_555.out _) | exact HI0.out)) (rs HO_556000) (by decide)) hk (fun _ h => h.2)) (fun _ h => h.1)); have n1_ := Aside0.mk (KeepBut.blk hk (g' := gb554) (o := .cells #[.slice none 0 0] 45 (0, 0)) (bk BK554) NB554_0.out (by simp)); have n2_ := Aside0.mk (KeepBut.blk hk (g' := gb555) (o := .cells #[u556000] 45 (0, 0)) (bk BK555) NB555_0.out (by simp)); have n3_ := Aside0.mk (KeepBut.trans (by repeat (first | (with_reducible first | exact HK.out | apply KeepBut.set_ | apply keep_drewN | apply keep_drew | apply keep_alloc | refine keep_far ?_ GW554.out _ | refine keep_far ?_ GW555.out _) | exact HK.out)) hk (.inl rfl)); have n4_ := Aside0.mk (hb); have n5_ := Aside0.mk (hi); clear HO_556000; clear BK554; clear BK555; clear HK; clear HB; clear HI0; have HO_556000 := n0_; have BK554 := n1_; have BK555 := n2_; have HK := n3_; have HB := n4_; have HI0 := n5_; clear n0_ n1_ n2_ n3_ n4_ n5_; (try clear hb); (try clear hb2); (try clear hk); (try clear hi); have hnb78 := NB555_554.out; have hnc78 := NB554_555.out; have hnb79 := NB555_0.out; have hnc79 := NB0_555.out; have hcz80_0 : w77.cell? ⟨gb555, 0, none⟩ = some (u556000) := (blk_cell BK555.out 0).trans rfl; have hfz80_0 := blk_frozen BK555.out 0; obtain ⟨Ao81, co81, eo81⟩ := Kd.R_slice HO_556000.out; subst eo81; have hnb82 := NB554_0.out; have hnc82 := NB0_554.out; have hcz83_0 : w77.cell? ⟨gb554, 0, none⟩ = some (.slice none 0 0) := (blk_cell BK554.out 0).trans rfl; have hfz83_0 := blk_frozen BK554.out 0))
          refine bodyPost_ret (results_cell_row rfl _ _ gb554 45 #[.slice Ao81 x556000_1.length co81] (0, 0) _ rfl (by (with_reducible repeat refine bu ?_); refine blk_put (cs := #[.slice none 0 0]) ?_ 0 _ rfl; (with_reducible repeat refine bu ?_); exact BK554.out) Try.underlying45 rfl (by kernel_rfl)) rfl ?_
          exact ⟨_, by first | rfl | (simp [errW_none, errW_some] <;> rfl) | (simp [*, errW_none, errW_some] <;> rfl), by (with_reducible repeat apply ru); exact Kd.R_mono (Kd.R_far (p := ⟨gb554, 0, none⟩) (Kd.R_types HO_556000.out BK554.out (by decide)) (fun _ hk => hk.2) (.slice Ao81 x556000_1.length co81)) (fun _ hk => trivial), by repeat (first | (with_reducible first | exact HI0.out | apply IsS102.alloc | apply IsS102.drewN | apply IsS102.drew | apply IsS102.set_1 | refine IsS102.far ?_ NB0_554.out _ | refine IsS102.far ?_ NB0_555.out _) | exact HI0.out), by repeat (first | (with_reducible first | exact HB.out | apply below_alloc | apply pw_below_drewN | apply below_drew1 | refine below_set ?_ (IsS102.ge HI0.out) | refine below_set ?_ GE554.out | refine below_set ?_ GE555.out) | exact HB.out), by repeat (first | (with_reducible first | exact HK.out | apply KeepBut.set_ | apply keep_drewN | apply keep_drew | apply keep_alloc | refine keep_far ?_ GW554.out _ | refine keep_far ?_ GW555.out _) | exact HK.out)⟩

end Go.Proofs.Ytiocgkggegahhaa.P
