import Derived.Test.YtffmbccgcaghjaaGreatDoorGLawFnBakRwrx0
namespace Go.Proofs.YtffmbccgcaghjaaGreatDoor.P
open Go.RowKit Go.Proofs.YtffmbccgcaghjaaGreatDoorUFnBakRwr.PrintWords Go.Proofs.YtffmbccgcaghjaaGreatDoorUFnBakRwr.PrintLast Go.Proofs.YtffmbccgcaghjaaGreatDoorUFnBakRwr.PrintMore
attribute [local go_sem] max2_int min2_int max_two min_two max_three min_three max_four min_four
set_option linter.unusedVariables false
set_option linter.unusedSimpArgs false
def spec_MapPut.j0 : Nat → Bool → List (S34) → Int → Int → Option ((List (S34)) × Int)
 | 0, _, _, _, _ => none
 | k + 1, x13, x152000, x153000, x153001 => if x13 = true then (some (([] : List (S34)), 0)) else ((spec_l3Copy.f x152000).bind fun t156 => ((spec_l3Put.f k t156 x153000 x153001).bind fun bt159 => (some (bt159.1, bt159.2))))
def spec_MapPut.f (k : Nat) (l0_0 : List (S34)) (a1_0 : Int) (a1_1 : Int) : Option ((List (S34)) × Int) := (spec_MapOk.f k l0_0).bind fun t154 => (if t154 = true then ((spec_EndInside.f a1_0 a1_1).bind fun t155 => (spec_MapPut.j0 k (!t155) l0_0 a1_0 a1_1)) else (spec_MapPut.j0 k true l0_0 a1_0 a1_1))
theorem spec_MapPut.mono_l : ∀ k, (∀ y0 y1 y2 y3, LeO (spec_MapPut.j0 k y0 y1 y2 y3) (spec_MapPut.j0 (k + 1) y0 y1 y2 y3))
 | 0 => fun _ _ _ _ r h => by simp [spec_MapPut.j0] at h
 | k + 1 => by
  have ih0 := spec_MapPut.mono_l k
  ·intro y0 y1 y2 y3
   unfold spec_MapPut.j0
   repeat' first | (with_reducible first | exact ih0 _ _ _ _ | exact spec_MapOk.mono _ _ | exact spec_l3Put.mono _ _ _ _ | exact LeO.refl _ | exact LeO.none _ | refine LeO.ite ?_ ?_ | refine LeO.bind ?_ (fun _ => ?_)) | exact ih0 _ _ _ _ | exact spec_MapOk.mono _ _ | exact spec_l3Put.mono _ _ _ _ | exact LeO.none _ | refine LeO.ite ?_ ?_ | refine LeO.bind ?_ (fun _ => ?_)
theorem spec_MapPut.mono : ∀ a0 a1 a2 k, LeO (spec_MapPut.f k a0 a1 a2) (spec_MapPut.f (k + 1) a0 a1 a2) := by
 intro a0 a1 a2 k
 have ih0 := spec_MapPut.mono_l k
 unfold spec_MapPut.f
 repeat' first | (with_reducible first | exact ih0 _ _ _ _ | exact spec_MapOk.mono _ _ | exact spec_l3Put.mono _ _ _ _ | exact LeO.refl _ | exact LeO.none _ | refine LeO.ite ?_ ?_ | refine LeO.bind ?_ (fun _ => ?_)) | exact ih0 _ _ _ _ | exact spec_MapOk.mono _ _ | exact spec_l3Put.mono _ _ _ _ | exact LeO.none _ | refine LeO.ite ?_ ?_ | refine LeO.bind ?_ (fun _ => ?_)
def spec_MapPut.T3 : Bool × List (List Nat × List Nat) := (true, [([], []), ([0], [0]), ([], []), ([1, 2, 1], [1, 2]), ([3], [3]), ([3], [3]), ([4, 3, 0, 1, 2, 3, 4, 5], [4]), ([5, 6, 0, 1, 2, 3, 4, 5, 6], [5])])
def spec_MapPut.B3 : List Nat := [0, 1, 0, 7, 15, 15, 63, 127]
theorem spec_MapPut.tab3 : rtab .any (opsOf Tryz.f74 3) = spec_MapPut.T3 := by kernel_rfl
theorem spec_MapPut.bits3 : waitsOk spec_MapPut.T3.2 spec_MapPut.B3 = true := by kernel_rfl
set_option maxHeartbeats 8000000 in
set_option maxRecDepth 100000 in
theorem spec_MapPut.calls (k : Nat) (A0_0 : Option Addr) (c0_0 : Nat) (l0_0 : List (S34)) (a1_0 : Int) (a1_1 : Int) (r1 : List (S34)) (r2 : Int) (w : World) (hr0_0 : Kd.C k34 w A0_0 l0_0.length l0_0) (hc0_0 : l0_0.length ≤ c0_0) (h : spec_MapPut.f k l0_0 a1_0 a1_1 = some (r1, r2)) :
  Calls Tryz.prog 74 #[.agg #[.slice A0_0 l0_0.length c0_0], .agg #[.int .i64 a1_0, .int .i64 a1_1]] w fun e w' => ∃ v0_ : Value, e = .returned (.tuple #[.agg #[v0_], .int .i64 r2]) ∧ Kd.R k34 34 w' w.heap.size (fun _ => True) v0_ r1 ∧ Below w.heap.size w w' := by
 have hu25 := Tryz.underlying25
 have hu34 := Tryz.underlying34
 have HR0_0 := Aside0.mk hr0_0
 have HC0_0 := Aside0.mk hc0_0
 clear hr0_0 hc0_0
 have HB := Aside0.mk (Below.refl w.heap.size w)
 have H : ((spec_MapOk.f k l0_0).bind fun t154 => (if t154 = true then ((spec_EndInside.f a1_0 a1_1).bind fun t155 => (spec_MapPut.j0 k (!t155) l0_0 a1_0 a1_1)) else (spec_MapPut.j0 k true l0_0 a1_0 a1_1))) = some (r1, r2) := h
 clear h
 have HC3 := Aside0.mk H
 clear H
 go_enter Tryz.func74, Tryz.ntmps74
 go_upto_region 1 with (first | ((with_reducible refine gate_dst (N := 2) rfl ?_); refine box_event rfl (N := 2) rfl (cs := #[.slice A0_0 l0_0.length c0_0]) (t := 25) hr_ ?_; intro gb151 hg w4 hbox hb; have BK151 := Aside0.mk hbox; have GW151 := gwE HB hg; have GE151 := gwE HB hg; replace HB := hbS HB hb; clear hb hbox hg) | ((with_reducible refine gate_dst (N := 3) rfl ?_); refine box_event rfl (N := 3) rfl (cs := #[.int .i64 a1_0, .int .i64 a1_1]) (t := 34) hr_ ?_; intro gb152 hg w5 hbox hb; have BK152 := Aside0.mk hbox; have GW152 := gwE HB hg; have GE152 := gwE HB hg; replace HB := hbS HB hb; have NB151_152 := neL BK151 hg; have NB152_151 := neG BK151 hg; replace BK151 := bkB BK151 hb; clear hb hbox hg) | ((with_reducible refine gate_dst (N := 4) rfl ?_); refine box_event rfl (N := 4) rfl (cs := #[.slice none 0 0]) (t := 25) hr_ ?_; intro gb153 hg w6 hbox hb; have BK153 := Aside0.mk hbox; have GW153 := gwE HB hg; have GE153 := gwE HB hg; replace HB := hbS HB hb; have NB151_153 := neL BK151 hg; have NB153_151 := neG BK151 hg; replace BK151 := bkB BK151 hb; have NB152_153 := neL BK152 hg; have NB153_152 := neG BK152 hg; replace BK152 := bkB BK152 hb; clear hb hbox hg))
 (try simp only [Act.put, List.setIfInBounds_toArray, List.set_cons_zero, List.set_cons_succ])
 go_cut [13] (fun v13 wc => ∃ (kq : Nat) (x13_2 : Bool), v13 = .bool x13_2 ∧ Aside0 (spec_MapPut.j0 kq x13_2 l0_0 a1_0 a1_1 = some (r1, r2)) ∧ Aside0 (kq ≤ k) ∧ Aside0 (wc.heap[gb151]? = some (.cells #[(.slice A0_0 l0_0.length c0_0)] 25 (0, 0))) ∧ Aside0 (wc.heap[gb152]? = some (.cells #[.int .i64 a1_0, .int .i64 a1_1] 34 (0, 0))) ∧ Aside0 (wc.heap[gb153]? = some (.cells #[(.slice none 0 0)] 25 (0, 0))) ∧ Aside0 (Below w.heap.size w wc))
 case first =>
  have H := HC3.out
  clear HC3
  replace H := Option.bind_eq_some_iff.mp H
  obtain ⟨t154, A70, H⟩ := H
  try dsimp only at H
  have A7 := Aside0.mk A70
  clear A70
  by_cases c8 : t154 = true
  ·subst c8
   have H1 : ((spec_EndInside.f a1_0 a1_1).bind fun t155 => (spec_MapPut.j0 k (!t155) l0_0 a1_0 a1_1)) = some (r1, r2) := by rw [if_pos rfl] at H; exact H
   clear H
   have H := H1
   clear H1
   replace H := Option.bind_eq_some_iff.mp H
   obtain ⟨t155, A90, H⟩ := H
   try dsimp only at H
   have A9 := Aside0.mk A90
   clear A90
   have H' := Aside0.mk H
   clear H
   have hnb10 := NB151_152.out
   have hnc10 := NB152_151.out
   have hnb11 := NB151_153.out
   have hnc11 := NB153_151.out
   have hcz12_0 := bcell BK151 0
   have hfz12_0 := blk_frozen BK151.out 0
   go_wp2_with (first | ((with_reducible refine gate_callee (f := 16) rfl ?_); refine gL (some 7) Tryz.func16 #[.agg #[.slice A0_0 l0_0.length c0_0]] ?_; (with_reducible refine (spec_MapOk.calls k _ _ l0_0 true _ ?side1 ?side2 A7.out).mono ?_); (case side1 => exact m4_); (case side2 => exact HC0_0.out); rintro e w13 ⟨rfl, hb⟩; refine ⟨_, rfl, ?_⟩; replace BK151 := bkB BK151 hb; replace BK152 := bkB BK152 hb; replace BK153 := bkB BK153 hb; replace HB := hbS HB hb; (try clear hb); have hnb14 := NB152_153.out; have hnc14 := NB153_152.out; have hcz15_0 := bcell BK152 0; have hcz15_1 := bcell BK152 1; have hfz15_0 := blk_frozen BK152.out 0; have hfz15_1 := blk_frozen BK152.out 1) | (go_at_call 48; (with_reducible refine (spec_EndInside.calls a1_0 a1_1 t155 _ A9.out).mono ?_); rintro e w16 ⟨rfl, hb⟩; replace BK151 := bkB BK151 hb; replace BK152 := bkB BK152 hb; replace BK153 := bkB BK153 hb; replace HB := hbS HB hb; (try clear hb)))
   go_meet
   case rel => exact ⟨_, (!t155), rs_, H', ⟨by first | omega | exact Nat.le_refl _⟩, ⟨bk BK151⟩, ⟨bk BK152⟩, ⟨bk BK153⟩, ⟨m2_⟩⟩
  ·replace c8 := Bool.eq_false_iff.mpr c8
   subst c8
   have H1 : (spec_MapPut.j0 k true l0_0 a1_0 a1_1) = some (r1, r2) := by rw [if_neg (show ¬ (false = true) by decide)] at H; exact H
   clear H
   have H := H1
   clear H1
   have H' := Aside0.mk H
   clear H
   have hnb17 := NB151_152.out
   have hnc17 := NB152_151.out
   have hnb18 := NB151_153.out
   have hnc18 := NB153_151.out
   have hcz19_0 := bcell BK151 0
   have hfz19_0 := blk_frozen BK151.out 0
   go_wp2_with (first | ((with_reducible refine gate_callee (f := 16) rfl ?_); refine gL (some 7) Tryz.func16 #[.agg #[.slice A0_0 l0_0.length c0_0]] ?_; (with_reducible refine (spec_MapOk.calls k _ _ l0_0 false _ ?side1 ?side2 A7.out).mono ?_); (case side1 => exact m4_); (case side2 => exact HC0_0.out); rintro e w20 ⟨rfl, hb⟩; refine ⟨_, rfl, ?_⟩; replace BK151 := bkB BK151 hb; replace BK152 := bkB BK152 hb; replace BK153 := bkB BK153 hb; replace HB := hbS HB hb; (try clear hb)))
   go_meet
   case rel => exact ⟨_, (true), rs_, H', ⟨by first | omega | exact Nat.le_refl _⟩, ⟨bk BK151⟩, ⟨bk BK152⟩, ⟨bk BK153⟩, ⟨m2_⟩⟩
 case rest =>
  clear HC3
  try clear c1
  try clear p2
  try clear c7
  try clear c8
  try clear c10
  try clear c11
  try clear c14
  try clear c16
  try clear c17
  try clear c18
  try clear hcz12_0
  try clear hcz15_0
  try clear hcz15_1
  try clear hcz19_0
  try clear hfz12_0
  try clear hfz15_0
  try clear hfz15_1
  try clear hfz19_0
  obtain ⟨kq, x13_2, rfl, HA, HJ2, BK151, BK152, BK153, HB⟩ := hcut
  cases kq with
  | zero => exact absurd HA.out (by simp [spec_MapPut.j0])
  | succ kj2 =>
   have H := HA.out
   clear HA
   simp only [spec_MapPut.j0] at H
   by_cases c21 : x13_2 = true
   ·subst c21
    have H1 : (some (([] : List (S34)), 0)) = some (r1, r2) := by rw [if_pos rfl] at H; exact H
    clear H
    have H := H1
    clear H1
    simp only [Option.some.injEq, Prod.mk.injEq] at H
    obtain ⟨rfl, rfl⟩ := H
    have hnb22 := NB153_151.out
    have hnc22 := NB151_153.out
    have hnb23 := NB153_152.out
    have hnc23 := NB152_153.out
    have hcz24_0 := bcell BK153 0
    have hfz24_0 := blk_frozen BK153.out 0
    go_wp2
    refine bodyPost_ret (results_ct rfl _ _ gb153 25 #[.slice none 0 0] (0, 0) _ rfl (by (with_reducible repeat refine bu ?_); refine blk_put (cs := #[.slice none 0 0]) ?_ 0 _ rfl; (with_reducible repeat refine bu ?_); exact BK153.out) Tryz.underlying25 rfl (by kernel_rfl)) rfl ?_
    exact ⟨_, fi_, by first | exact Kd.R_nil _ _ _ _ _ | exact Kd.N_nil _ _ _ _ _ | exact Kd.V_nil _ _ _ _ _ | exact Kd.Q_nil _ _ _ _ _ | exact Kd.S_nil _ _ _ _ _, m2_⟩
   ·replace c21 := Bool.eq_false_iff.mpr c21
    subst c21
    have H1 : ((spec_l3Copy.f l0_0).bind fun t156 => ((spec_l3Put.f kj2 t156 a1_0 a1_1).bind fun bt159 => (some (bt159.1, bt159.2)))) = some (r1, r2) := by rw [if_neg (show ¬ (false = true) by decide)] at H; exact H
    clear H
    have H := H1
    clear H1
    replace H := Option.bind_eq_some_iff.mp H
    obtain ⟨t156, A250, H⟩ := H
    try dsimp only at H
    have A25 := Aside0.mk A250
    clear A250
    replace H := Option.bind_eq_some_iff.mp H
    obtain ⟨⟨t159, t162⟩, A260, H⟩ := H
    try dsimp only at H
    have A26 := Aside0.mk A260
    clear A260
    simp only [Option.some.injEq, Prod.mk.injEq] at H
    obtain ⟨rfl, rfl⟩ := H
    try go_wp2
    replace BK151 := Aside0.mk (blk_drew BK151.out)
    replace BK152 := Aside0.mk (blk_drew BK152.out)
    replace BK153 := Aside0.mk (blk_drew BK153.out)
    replace HB := Aside0.mk (below_drew1 HB.out)
    refine start_ (n := 8) (S := fun w' => w'.cell? ⟨gb151, 0, none⟩ = some (.slice A0_0 l0_0.length c0_0) ∧ w'.cell? ⟨gb152, 0, none⟩ = some (.int .i64 a1_0) ∧ w'.cell? ⟨gb152, 1, none⟩ = some (.int .i64 a1_1)) (ds := []) #[false, false, false, false, false, false, false, false] (by kernel_rfl) rfl rfl ⟨bcell BK151 0, bcell BK152 0, bcell BK152 1⟩ (fun hHeld => ?_); refine with_tabW spec_MapPut.tab3 spec_MapPut.bits3 (fun HT_ HW_ => ?_)
    generalize wc.drew = w27 at BK151 BK152 BK153 HB hHeld ⊢
    refine tk_ 0 (some 15) #[true, false, false, false, false, false, false, false] rfl (.inl ⟨rfl, m10_⟩) ?_
    refine tk_ 2 (some 17) #[true, false, true, false, false, false, false, false] rfl (.inl ⟨rfl, m10_⟩) ?_
    refine on_ 1 (some 16) #[true, true, true, false, false, false, false, false] (fun K hK => ?_)
    refine gR Tryz.func47 #[.agg #[.slice A0_0 l0_0.length c0_0]] ?_
    with_reducible refine (spec_l3Copy.calls _ _ l0_0 t156 _ ?side1 ?side2 A25.out).mono ?_
    (case side1 => exact m4_)
    (case side2 => exact HC0_0.out)
    rintro e w28 ⟨v157, rfl, ho0, hb⟩
    refine ⟨_, rfl, ?_⟩
    have HO158 := Aside0.mk (Kd.R_lower (Kd.R_newB ho0 (g := gb152) (o := .cells #[.int .i64 a1_0, .int .i64 a1_1] 34 (0, 0)) (bk BK152)) (below_size (bl HB)))
    replace BK151 := bkB BK151 hb
    replace BK152 := bkB BK152 hb
    replace BK153 := bkB BK153 hb
    replace HB := hbS HB hb
    (try clear hb)
    (try clear hb2)
    (try clear hk)
    (try clear hi)
    (try clear ho0)
    obtain ⟨Ao29, co29, eo29⟩ := Kd.R_slice HO158.out
    (first | subst eo29 | (injection eo29 with f1_ f2_ f3_; have f4_ := f1_.symm; have f5_ := f3_.symm; clear f1_ f2_ f3_; subst f4_; subst f5_))
    refine hK.out _ _ ⟨bcell BK151 0, bcell BK152 0, bcell BK152 1⟩ (fun hHeld => ?_)
    clear hK K
    refine nm_ ?_
    refine on_ 3 (some 18) #[true, true, true, true, false, false, false, false] (fun K hK => ?_)
    refine gR Tryz.func80 #[.agg #[.slice Ao29 t156.length co29], .agg #[.int .i64 a1_0, .int .i64 a1_1]] ?_
    with_reducible refine (spec_l3Put.calls kj2 (fun k_ => some k_ = (.slice Ao29 t156.length co29 : Value).ownBlock) (.slice Ao29 t156.length co29) t156 a1_0 a1_1 t159 t162 w _ ?side1 ?side2 A26.out).mono ?_
    (case side1 => exact m2_)
    (case side2 => exact Kd.R_tight rfl HO158.out)
    rintro e w30 ⟨v160, rfl, ho0, hb, hkp⟩
    refine ⟨_, rfl, ?_⟩
    replace BK151 := Aside0.mk (blk_kept (bk BK151) hkp (fun hs_ => (fun e_ => (Kd.R_ne HO158.out BK151.out (by decide)) e_) hs_))
    replace BK153 := Aside0.mk (blk_kept (bk BK153) hkp (fun hs_ => (fun e_ => (Kd.R_ne HO158.out BK153.out (by decide)) e_) hs_))
    have HO161 := Aside0.mk (Kd.R_mono (ok' := fun k_ => k_ ≠ gb152) ho0 (fun k_ hk_ => Or.elim hk_ (fun hs_ => fun e_ => (Kd.R_away HO158.out (fun _ hk => hk.2)) (by rw [← e_]; exact hs_)) (fun hn_ => (Kd.freshB (g := gb152) (o := .cells #[.int .i64 a1_0, .int .i64 a1_1] 34 (0, 0)) (bk BK152) k_ hn_))))
    replace BK152 := Aside0.mk (blk_kept (bk BK152) hkp (fun hs_ => (fun e_ => (Kd.R_away HO158.out (fun _ hk => hk.2)) e_) hs_))
    replace HB := Aside0.mk hb
    clear HO158
    (try clear hb)
    (try clear hkp)
    (try clear ho0)
    obtain ⟨Ao31, co31, eo31⟩ := Kd.R_slice HO161.out
    (first | subst eo31 | (injection eo31 with f1_ f2_ f3_; have f4_ := f1_.symm; have f5_ := f3_.symm; clear f1_ f2_ f3_; subst f4_; subst f5_))
    refine hK.out _ _ ⟨bcell BK151 0, bcell BK152 0, bcell BK152 1⟩ (fun hHeld => ?_)
    clear hK K
    refine nm_ ?_
    refine pu_ 4 (some 19) #[true, true, true, true, true, false, false, false] ?_
    refine pu_ 5 (some 20) #[true, true, true, true, true, true, false, false] ?_
    refine on_ 6 none #[true, true, true, true, true, true, true, false] (fun K hK => ?_)
    have hs32 : w30.cell? ⟨gb153, 0, none⟩ = some (.slice none 0 0) := bcell BK153 0
    have hfs32 := blk_frozen BK153.out 0
    have hns32_0 := NB151_153.out
    have hns32_1 := NB152_153.out
    have hms32_0 := NB153_151.out
    have hms32_1 := NB153_152.out
    refine skip_ (w1 := ?_) (by rfl) rfl ?_ ?_
    rotate_left
    ·go_simp
     rfl
    refine hK.out _ _ ⟨((cell_far (p := ⟨gb153, _, none⟩) NB151_153.out _).trans (hHeld.1)), ((cell_far (p := ⟨gb153, _, none⟩) NB152_153.out _).trans (hHeld.2.1)), ((cell_far (p := ⟨gb153, _, none⟩) NB152_153.out _).trans (hHeld.2.2))⟩ (fun hHeld => ?_)
    clear hK K
    refine pu_ 7 (some 5) #[true, true, true, true, true, true, true, true] ?_
    refine done_ (done_of HT_.out (by kernel_rfl)) ?_
    try go_wp2
    refine bodyPost_ret (results_ct rfl _ _ gb153 25 #[.slice Ao31 t159.length co31] (0, 0) _ rfl (by (with_reducible repeat refine bu ?_); refine blk_put (cs := #[.slice none 0 0]) ?_ 0 _ rfl; (with_reducible repeat refine bu ?_); exact BK153.out) Tryz.underlying25 rfl (by kernel_rfl)) rfl ?_
    exact ⟨_, fi_, by (with_reducible repeat apply ru); exact Kd.R_mono (Kd.R_far (p := ⟨gb153, 0, none⟩) (Kd.R_types HO161.out BK153.out (by decide)) (fun _ hk => hk.2) (.slice Ao31 t159.length co31)) (fun _ hk => trivial), m2_⟩
def spec_l20In.f (k : Nat) (s0_0 : List Int) (s0_1 : Int) : Option (Int × Int × Int) := (spec_l20Rd_pick.f k s0_0 s0_1 4).bind fun bt164 => ((spec_l20Rd_pick.f k s0_0 bt164.2 40).bind fun bt166 => ((some (([7, 20, 300, 999, wrap64 (1 + bt166.1)] : List Int) : List Int)).bind fun y168 => ((spec_l20Rd_pick.f k s0_0 bt166.2 5).bind fun bt171 => (if 0 ≤ bt171.1 then (if bt171.1 < (y168.length : Int) then (some (wrap64 (1 + bt164.1), rd y168 bt171.1, bt171.2)) else (none)) else (none)))))
theorem spec_l20In.mono : ∀ a0 a1 k, LeO (spec_l20In.f k a0 a1) (spec_l20In.f (k + 1) a0 a1) := by
 intro a0 a1 k
 unfold spec_l20In.f
 repeat' first | (with_reducible first | exact spec_l20Rd_pick.mono _ _ _ _ | exact LeO.refl _ | exact LeO.none _ | refine LeO.ite ?_ ?_ | refine LeO.bind ?_ (fun _ => ?_)) | exact spec_l20Rd_pick.mono _ _ _ _ | exact LeO.none _ | refine LeO.ite ?_ ?_ | refine LeO.bind ?_ (fun _ => ?_)
set_option maxHeartbeats 8000000 in
set_option maxRecDepth 100000 in
theorem spec_l20In.calls (k : Nat) (g : Nat) (s0_0 : List Int) (s0_1 : Int) (r1 : Int) (r2 : Int) (r3 : Int) (w0 w : World) (hI : IsS84 w0 w g s0_0 s0_1) (hB : Below w0.heap.size w0 w) (h : spec_l20In.f k s0_0 s0_1 = some (r1, r2, r3)) :
  Calls Tryz.prog 75 #[.pointer (some ⟨g, 0, none⟩)] w fun e w' => e = .returned (.agg #[.int .i64 r1, .int .i64 r2]) ∧ IsS84 w0 w' g s0_0 r3 ∧ Below w0.heap.size w0 w' ∧ KeepBut w w' g none := by
 have hu34 := Tryz.underlying34
 have HI0 := Aside0.mk hI
 have HK := Aside0.mk (KeepBut.refl w g none)
 have HL := Aside0.mk hB.size
 clear hI
 have HW0 := Aside0.mk hB.size
 have HB := Aside0.mk hB
 clear hB
 have H : ((spec_l20Rd_pick.f k s0_0 s0_1 4).bind fun bt164 => ((spec_l20Rd_pick.f k s0_0 bt164.2 40).bind fun bt166 => ((some (([7, 20, 300, 999, wrap64 (1 + bt166.1)] : List Int) : List Int)).bind fun y168 => ((spec_l20Rd_pick.f k s0_0 bt166.2 5).bind fun bt171 => (if 0 ≤ bt171.1 then (if bt171.1 < (y168.length : Int) then (some (wrap64 (1 + bt164.1), rd y168 bt171.1, bt171.2)) else (none)) else (none)))))) = some (r1, r2, r3) := h
 clear h
 replace H := Option.bind_eq_some_iff.mp H
 obtain ⟨⟨t164, t165⟩, A20, H⟩ := H
 try dsimp only at H
 have A2 := Aside0.mk A20
 clear A20
 replace H := Option.bind_eq_some_iff.mp H
 obtain ⟨⟨t166, t167⟩, A30, H⟩ := H
 try dsimp only at H
 have A3 := Aside0.mk A30
 clear A30
 obtain ⟨y168, hy168⟩ : ∃ y_ : List Int, y_ = (([7, 20, 300, 999, wrap64 (1 + t166)] : List Int)) := ⟨_, rfl⟩
 replace H : ((spec_l20Rd_pick.f k s0_0 t167 5).bind fun bt171 => (if 0 ≤ bt171.1 then (if bt171.1 < (y168.length : Int) then (some (wrap64 (1 + t164), rd y168 bt171.1, bt171.2)) else (none)) else (none))) = some (r1, r2, r3) := by first | (rw [hy168]; with_reducible exact H) | (have H2_ := (Option.bind_some _ _).symm.trans H; rw [hy168]; with_reducible exact H2_) | (have H2_ := (Option.bind_some _ _).symm.trans H; with_reducible exact H2_) | with_reducible exact H | (rw [hy168]; exact H) | exact H
 have Ny168 := Aside0.mk hy168
 clear hy168
 replace H := Option.bind_eq_some_iff.mp H
 obtain ⟨⟨t171, t172⟩, A40, H⟩ := H
 try dsimp only at H
 have A4 := Aside0.mk A40
 clear A40
 by_cases c5 : 0 ≤ t171
 ·rw [if_pos c5] at H
  have c5b0 : decide (0 ≤ t171) = true := decide_eq_true c5
  clear c5
  by_cases c6 : t171 < (y168.length : Int)
  ·rw [if_pos c6] at H
   have c6b0 : decide (t171 < (y168.length : Int)) = true := decide_eq_true c6
   clear c6
   simp only [Option.some.injEq, Prod.mk.injEq] at H
   obtain ⟨rfl, rfl, rfl⟩ := H
   go_enter Tryz.func75, Tryz.ntmps75
   go_wp2_with (first | ((with_reducible refine gate_dst (N := 2) rfl ?_); refine box_event rfl (N := 2) rfl (cs := #[.int .i64 0, .int .i64 0]) (t := 34) hr_ ?_; intro gb163 hg w7 hbox hb; replace HB := Aside0.mk (below_step m23_ hb); have BK163 := Aside0.mk hbox; have GW163 := Aside0.mk ((by rw [hg]; exact (keep_size (w := w) (g := g) (row := none) m24_) : w.heap.size ≤ gb163)); have GE163 := Aside0.mk ((Nat.le_trans HW0.out (by rw [hg]; exact (keep_size (w := w) (g := g) (row := none) m24_) : w.heap.size ≤ gb163) : w0.heap.size ≤ gb163)); replace HK := Aside0.mk (KeepBut.trans m24_ (KeepBut.of_below hb g none) (.inl rfl)); have NB0_163 := Aside0.mk ((by rw [hg]; exact Nat.ne_of_lt (IsS84.lt (show IsS84 w0 _ g s0_0 s0_1 from m25_)) : g ≠ gb163)); have NB163_0 := Aside0.mk ((by rw [hg]; exact Nat.ne_of_gt (IsS84.lt (show IsS84 w0 _ g s0_0 s0_1 from m25_)) : gb163 ≠ g)); replace HI0 := Aside0.mk (IsS84.below m25_ hb); clear hb hbox hg) | ((with_reducible refine gate_callee (f := 63) rfl ?_); refine gL (some 4) Tryz.func63 #[.pointer (some ⟨g, 0, none⟩), .int .i64 4] ?_; (with_reducible refine (spec_l20Rd_pick.calls k g s0_0 s0_1 4 t164 t165 w0 _ ?side1 ?side2 A2.out).mono ?_); (case side1 => exact m28_); (case side2 => exact m26_); rintro e w8 ⟨rfl, hi, hb, hk⟩; refine ⟨_, rfl, ?_⟩; replace BK163 := Aside0.mk (KeepBut.blk hk (g' := gb163) (o := .cells #[.int .i64 0, .int .i64 0] 34 (0, 0)) (bk BK163) NB163_0.out (by simp)); replace HK := Aside0.mk (KeepBut.trans m27_ hk (.inl rfl)); replace HB := Aside0.mk hb; replace HI0 := Aside0.mk hi; (try clear hb); (try clear hk); (try clear hi)) | ((with_reducible refine gate_callee (f := 63) rfl ?_); refine gL (some 7) Tryz.func63 #[.pointer (some ⟨g, 0, none⟩), .int .i64 40] ?_; (with_reducible refine (spec_l20Rd_pick.calls k g s0_0 t165 40 t166 t167 w0 _ ?side1 ?side2 A3.out).mono ?_); (case side1 => exact m28_); (case side2 => exact m26_); rintro e w9 ⟨rfl, hi, hb, hk⟩; refine ⟨_, rfl, ?_⟩; replace BK163 := Aside0.mk (KeepBut.blk hk (g' := gb163) (o := .cells #[.int .i64 0, .int .i64 0] 34 (0, 0)) (bk BK163) NB163_0.out (by simp)); replace HK := Aside0.mk (KeepBut.trans m27_ hk (.inl rfl)); replace HB := Aside0.mk hb; replace HI0 := Aside0.mk hi; (try clear hb); (try clear hk); (try clear hi)) | ((with_reducible refine gate_dst (N := 9) rfl ?_); refine Kd.R_lit (Kd.int .i64) _ 3 rfl (N := 9) rfl (xs := ([7, 20, 300, 999, wrap64 (1 + t166)] : List Int)) (inner := [.int .i64 7, .int .i64 20, .int .i64 300, .int .i64 999, .int .i64 (wrap64 (1 + t166))]) (ok := fun _ => True) (okp := fun _ => True) hr_ ?hp (fun _ hk => hk) trivial (Below.refl _ _) (Nat.le_refl _) (by simp) ?_; (case hp => exact (Reps.one (show Kd.M (Kd.int .i64) _ _ _ 7 [.int .i64 7] from rfl) (Reps.one (show Kd.M (Kd.int .i64) _ _ _ 20 [.int .i64 20] from rfl) (Reps.one (show Kd.M (Kd.int .i64) _ _ _ 300 [.int .i64 300] from rfl) (Reps.one (show Kd.M (Kd.int .i64) _ _ _ 999 [.int .i64 999] from rfl) (Reps.one (show Kd.M (Kd.int .i64) _ _ _ (wrap64 (1 + t166)) [.int .i64 (wrap64 (1 + t166))] from rfl) (Reps.none _ _))))))); intro v169 w10 ho11 hb hg_ hnew_; clear hg_ hnew_; (first | rw [← Ny168.out] at ho11 | (simp only [Int.reduceToNat] at ho11; rw [← Ny168.out] at ho11)); have HO170 := Aside0.mk (Kd.R_lower ho11 (keep_size (w := w) (g := g) (row := none) m27_)); replace BK163 := bkB BK163 hb; replace HK := Aside0.mk (KeepBut.trans m27_ (KeepBut.of_below hb g none) (.inl rfl)); replace HB := Aside0.mk (below_step m26_ hb); replace HI0 := Aside0.mk (IsS84.below m28_ hb); clear hb ho11) | ((with_reducible refine gate_callee (f := 63) rfl ?_); refine gL (some 11) Tryz.func63 #[.pointer (some ⟨g, 0, none⟩), .int .i64 5] ?_; (with_reducible refine (spec_l20Rd_pick.calls k g s0_0 t167 5 t171 t172 w0 _ ?side1 ?side2 A4.out).mono ?_); (case side1 => exact m28_); (case side2 => exact m26_); rintro e w12 ⟨rfl, hi, hb, hk⟩; refine ⟨_, rfl, ?_⟩; replace BK163 := Aside0.mk (KeepBut.blk hk (g' := gb163) (o := .cells #[.int .i64 0, .int .i64 0] 34 (0, 0)) (bk BK163) NB163_0.out (by simp)); replace HO170 := Aside0.mk (Kd.R_mono (Kd.R_keep (IsS84.apart (show IsS84 w0 _ g s0_0 t167 from m28_) (rs HO170) (by decide)) hk (fun _ h => h.2)) (fun _ h => h.1)); replace HK := Aside0.mk (KeepBut.trans m27_ hk (.inl rfl)); replace HB := Aside0.mk hb; replace HI0 := Aside0.mk hi; (try clear hb); (try clear hk); (try clear hi); obtain ⟨Ao13, co13, eo13⟩ := Kd.R_slice HO170.out; subst eo13; have p173 : 0 ≤ (t171 : Int) := of_decide_eq_true da_; have q173 : t171 < (y168.length : Int) := of_decide_eq_true da_; obtain ⟨ad173, e173, hx173_0⟩ := Kd.at_int (Kd.R_reads' HO170.out).2.2 t171 p173 q173; cases e173; replace p173 := eq_true p173; replace q173 := eq_true q173; have hnb14 := NB163_0.out; have hnc14 := NB0_163.out; have hcz15_0 := bcell BK163 0; have hcz15_1 := bcell BK163 1; have hfz15_0 := blk_frozen BK163.out 0; have hfz15_1 := blk_frozen BK163.out 1))
   refine bodyPost_ret (results_cell_row rfl _ _ gb163 34 #[.int .i64 (wrap64 (1 + t164)), .int .i64 (rd y168 t171)] (0, 0) _ rfl (by (with_reducible repeat refine bu ?_); refine blk_put (cs := #[.int .i64 (wrap64 (1 + t164)), .int .i64 0]) ?_ 1 _ rfl; (with_reducible repeat refine bu ?_); refine blk_put (cs := #[.int .i64 0, .int .i64 0]) ?_ 0 _ rfl; (with_reducible repeat refine bu ?_); exact BK163.out) Tryz.underlying34 rfl (by kernel_rfl)) rfl ?_
   exact ⟨fi_, m28_, m26_, m27_⟩
  ·rw [if_neg c6] at H
   exact absurd H (by simp)
 ·rw [if_neg c5] at H
  exact absurd H (by simp)
def spec_l20Out.f (k : Nat) (s0_0 : List Int) (s0_1 : Int) : Option (Int × Int × Int) := (spec_l20Rd_pick.f k s0_0 s0_1 3).bind fun bt175 => ((some (([21, 21, 80, 7] : List Int) : List Int)).bind fun y177 => ((spec_l20Rd_pick.f k s0_0 bt175.2 4).bind fun bt180 => (if 0 ≤ bt180.1 then (if bt180.1 < (y177.length : Int) then (some (wrap64 (100 + bt175.1), rd y177 bt180.1, bt180.2)) else (none)) else (none))))
theorem spec_l20Out.mono : ∀ a0 a1 k, LeO (spec_l20Out.f k a0 a1) (spec_l20Out.f (k + 1) a0 a1) := by
 intro a0 a1 k
 unfold spec_l20Out.f
 repeat' first | (with_reducible first | exact spec_l20Rd_pick.mono _ _ _ _ | exact LeO.refl _ | exact LeO.none _ | refine LeO.ite ?_ ?_ | refine LeO.bind ?_ (fun _ => ?_)) | exact spec_l20Rd_pick.mono _ _ _ _ | exact LeO.none _ | refine LeO.ite ?_ ?_ | refine LeO.bind ?_ (fun _ => ?_)
set_option maxHeartbeats 8000000 in
set_option maxRecDepth 100000 in
theorem spec_l20Out.calls (k : Nat) (g : Nat) (s0_0 : List Int) (s0_1 : Int) (r1 : Int) (r2 : Int) (r3 : Int) (w0 w : World) (hI : IsS84 w0 w g s0_0 s0_1) (hB : Below w0.heap.size w0 w) (h : spec_l20Out.f k s0_0 s0_1 = some (r1, r2, r3)) :
  Calls Tryz.prog 76 #[.pointer (some ⟨g, 0, none⟩)] w fun e w' => e = .returned (.agg #[.int .i64 r1, .int .i64 r2]) ∧ IsS84 w0 w' g s0_0 r3 ∧ Below w0.heap.size w0 w' ∧ KeepBut w w' g none := by
 have hu34 := Tryz.underlying34
 have HI0 := Aside0.mk hI
 have HK := Aside0.mk (KeepBut.refl w g none)
 have HL := Aside0.mk hB.size
 clear hI
 have HW0 := Aside0.mk hB.size
 have HB := Aside0.mk hB
 clear hB
 have H : ((spec_l20Rd_pick.f k s0_0 s0_1 3).bind fun bt175 => ((some (([21, 21, 80, 7] : List Int) : List Int)).bind fun y177 => ((spec_l20Rd_pick.f k s0_0 bt175.2 4).bind fun bt180 => (if 0 ≤ bt180.1 then (if bt180.1 < (y177.length : Int) then (some (wrap64 (100 + bt175.1), rd y177 bt180.1, bt180.2)) else (none)) else (none))))) = some (r1, r2, r3) := h
 clear h
 replace H := Option.bind_eq_some_iff.mp H
 obtain ⟨⟨t175, t176⟩, A20, H⟩ := H
 try dsimp only at H
 have A2 := Aside0.mk A20
 clear A20
 obtain ⟨y177, hy177⟩ : ∃ y_ : List Int, y_ = (([21, 21, 80, 7] : List Int)) := ⟨_, rfl⟩
 replace H : ((spec_l20Rd_pick.f k s0_0 t176 4).bind fun bt180 => (if 0 ≤ bt180.1 then (if bt180.1 < (y177.length : Int) then (some (wrap64 (100 + t175), rd y177 bt180.1, bt180.2)) else (none)) else (none))) = some (r1, r2, r3) := by first | (rw [hy177]; with_reducible exact H) | (have H2_ := (Option.bind_some _ _).symm.trans H; rw [hy177]; with_reducible exact H2_) | (have H2_ := (Option.bind_some _ _).symm.trans H; with_reducible exact H2_) | with_reducible exact H | (rw [hy177]; exact H) | exact H
 have Ny177 := Aside0.mk hy177
 clear hy177
 replace H := Option.bind_eq_some_iff.mp H
 obtain ⟨⟨t180, t181⟩, A30, H⟩ := H
 try dsimp only at H
 have A3 := Aside0.mk A30
 clear A30
 by_cases c4 : 0 ≤ t180
 ·rw [if_pos c4] at H
  have c4b0 : decide (0 ≤ t180) = true := decide_eq_true c4
  clear c4
  by_cases c5 : t180 < (y177.length : Int)
  ·rw [if_pos c5] at H
   have c5b0 : decide (t180 < (y177.length : Int)) = true := decide_eq_true c5
   clear c5
   simp only [Option.some.injEq, Prod.mk.injEq] at H
   obtain ⟨rfl, rfl, rfl⟩ := H
   go_enter Tryz.func76, Tryz.ntmps76
   go_wp2_with (first | ((with_reducible refine gate_dst (N := 2) rfl ?_); refine box_event rfl (N := 2) rfl (cs := #[.int .i64 0, .int .i64 0]) (t := 34) hr_ ?_; intro gb174 hg w6 hbox hb; replace HB := Aside0.mk (below_step m23_ hb); have BK174 := Aside0.mk hbox; have GW174 := Aside0.mk ((by rw [hg]; exact (keep_size (w := w) (g := g) (row := none) m24_) : w.heap.size ≤ gb174)); have GE174 := Aside0.mk ((Nat.le_trans HW0.out (by rw [hg]; exact (keep_size (w := w) (g := g) (row := none) m24_) : w.heap.size ≤ gb174) : w0.heap.size ≤ gb174)); replace HK := Aside0.mk (KeepBut.trans m24_ (KeepBut.of_below hb g none) (.inl rfl)); have NB0_174 := Aside0.mk ((by rw [hg]; exact Nat.ne_of_lt (IsS84.lt (show IsS84 w0 _ g s0_0 s0_1 from m25_)) : g ≠ gb174)); have NB174_0 := Aside0.mk ((by rw [hg]; exact Nat.ne_of_gt (IsS84.lt (show IsS84 w0 _ g s0_0 s0_1 from m25_)) : gb174 ≠ g)); replace HI0 := Aside0.mk (IsS84.below m25_ hb); clear hb hbox hg) | ((with_reducible refine gate_callee (f := 63) rfl ?_); refine gL (some 4) Tryz.func63 #[.pointer (some ⟨g, 0, none⟩), .int .i64 3] ?_; (with_reducible refine (spec_l20Rd_pick.calls k g s0_0 s0_1 3 t175 t176 w0 _ ?side1 ?side2 A2.out).mono ?_); (case side1 => exact m28_); (case side2 => exact m26_); rintro e w7 ⟨rfl, hi, hb, hk⟩; refine ⟨_, rfl, ?_⟩; replace BK174 := Aside0.mk (KeepBut.blk hk (g' := gb174) (o := .cells #[.int .i64 0, .int .i64 0] 34 (0, 0)) (bk BK174) NB174_0.out (by simp)); replace HK := Aside0.mk (KeepBut.trans m27_ hk (.inl rfl)); replace HB := Aside0.mk hb; replace HI0 := Aside0.mk hi; (try clear hb); (try clear hk); (try clear hi)) | ((with_reducible refine gate_dst (N := 6) rfl ?_); refine Kd.R_lit (Kd.int .i64) _ 3 rfl (N := 6) rfl (xs := ([21, 21, 80, 7] : List Int)) (inner := [.int .i64 21, .int .i64 21, .int .i64 80, .int .i64 7]) (ok := fun _ => True) (okp := fun _ => True) hr_ ?hp (fun _ hk => hk) trivial (Below.refl _ _) (Nat.le_refl _) (by simp) ?_; (case hp => exact (Reps.one (show Kd.M (Kd.int .i64) _ _ _ 21 [.int .i64 21] from rfl) (Reps.one (show Kd.M (Kd.int .i64) _ _ _ 21 [.int .i64 21] from rfl) (Reps.one (show Kd.M (Kd.int .i64) _ _ _ 80 [.int .i64 80] from rfl) (Reps.one (show Kd.M (Kd.int .i64) _ _ _ 7 [.int .i64 7] from rfl) (Reps.none _ _)))))); intro v178 w8 ho9 hb hg_ hnew_; clear hg_ hnew_; (first | rw [← Ny177.out] at ho9 | (simp only [Int.reduceToNat] at ho9; rw [← Ny177.out] at ho9)); have HO179 := Aside0.mk (Kd.R_lower ho9 (keep_size (w := w) (g := g) (row := none) m27_)); replace BK174 := bkB BK174 hb; replace HK := Aside0.mk (KeepBut.trans m27_ (KeepBut.of_below hb g none) (.inl rfl)); replace HB := Aside0.mk (below_step m26_ hb); replace HI0 := Aside0.mk (IsS84.below m28_ hb); clear hb ho9) | ((with_reducible refine gate_callee (f := 63) rfl ?_); refine gL (some 8) Tryz.func63 #[.pointer (some ⟨g, 0, none⟩), .int .i64 4] ?_; (with_reducible refine (spec_l20Rd_pick.calls k g s0_0 t176 4 t180 t181 w0 _ ?side1 ?side2 A3.out).mono ?_); (case side1 => exact m28_); (case side2 => exact m26_); rintro e w10 ⟨rfl, hi, hb, hk⟩; refine ⟨_, rfl, ?_⟩; replace BK174 := Aside0.mk (KeepBut.blk hk (g' := gb174) (o := .cells #[.int .i64 0, .int .i64 0] 34 (0, 0)) (bk BK174) NB174_0.out (by simp)); replace HO179 := Aside0.mk (Kd.R_mono (Kd.R_keep (IsS84.apart (show IsS84 w0 _ g s0_0 t176 from m28_) (rs HO179) (by decide)) hk (fun _ h => h.2)) (fun _ h => h.1)); replace HK := Aside0.mk (KeepBut.trans m27_ hk (.inl rfl)); replace HB := Aside0.mk hb; replace HI0 := Aside0.mk hi; (try clear hb); (try clear hk); (try clear hi); obtain ⟨Ao11, co11, eo11⟩ := Kd.R_slice HO179.out; subst eo11; have p182 : 0 ≤ (t180 : Int) := of_decide_eq_true da_; have q182 : t180 < (y177.length : Int) := of_decide_eq_true da_; obtain ⟨ad182, e182, hx182_0⟩ := Kd.at_int (Kd.R_reads' HO179.out).2.2 t180 p182 q182; cases e182; replace p182 := eq_true p182; replace q182 := eq_true q182; have hnb12 := NB174_0.out; have hnc12 := NB0_174.out; have hcz13_0 := bcell BK174 0; have hcz13_1 := bcell BK174 1; have hfz13_0 := blk_frozen BK174.out 0; have hfz13_1 := blk_frozen BK174.out 1))
   refine bodyPost_ret (results_cell_row rfl _ _ gb174 34 #[.int .i64 (wrap64 (100 + t175)), .int .i64 (rd y177 t180)] (0, 0) _ rfl (by (with_reducible repeat refine bu ?_); refine blk_put (cs := #[.int .i64 (wrap64 (100 + t175)), .int .i64 0]) ?_ 1 _ rfl; (with_reducible repeat refine bu ?_); refine blk_put (cs := #[.int .i64 0, .int .i64 0]) ?_ 0 _ rfl; (with_reducible repeat refine bu ?_); exact BK174.out) Tryz.underlying34 rfl (by kernel_rfl)) rfl ?_
   exact ⟨fi_, m28_, m26_, m27_⟩
  ·rw [if_neg c5] at H
   exact absurd H (by simp)
 ·rw [if_neg c4] at H
  exact absurd H (by simp)
mutual
def spec_l20Table.l0 : Nat → Int → Int → List Int → Int → List (S34) → Option ((List (S34)) × Int)
 | 0, _, _, _, _, _ => none
 | k + 1, x1, x6, x1000, x1001, x185000 => if x6 > 0 then ((spec_l20In.f k x1000 x1001).bind fun bt187 => ((spec_MapPut.f k x185000 bt187.1 bt187.2.1).bind fun bt190 => (spec_l20Table.l0 k x1 (wrap64 (x6 - 1)) x1000 bt187.2.2 bt190.1))) else ((spec_l20Rd_odd.f k x1000 x1001 x1).bind fun bt195 => (if bt195.1 = true then ((spec_l20Rd_pick.f k x1000 bt195.2 3).bind fun bt197 => (if bt197.1 = 0 then ((spec_l20Out.f k x1000 bt197.2).bind fun bt199 => (if x185000.length < 8796093022208 then (some ((x185000 ++ [(⟨bt199.1, bt199.2.1⟩ : S34)]), bt199.2.2)) else (none))) else (if bt197.1 = 1 then (if x185000.length < 8796093022208 then ((some (x185000 ++ [(⟨9, 9⟩ : S34)] : List (S34))).bind fun y205 => (if y205.length < 8796093022208 then (some ((y205 ++ [(⟨9, 9⟩ : S34)]), bt197.2)) else (none))) else (none)) else (spec_l20Table.l1 k x1000 bt197.2 x185000)))) else (some (x185000, bt195.2))))
def spec_l20Table.l1 : Nat → List Int → Int → List (S34) → Option ((List (S34)) × Int)
 | 0, _, _, _ => none
 | k + 1, x1000, x1001, x185000 => if (x185000.length : Int) ≤ 6 then (if x185000.length < 8796093022208 then (spec_l20Table.l1 k x1000 x1001 (x185000 ++ [(⟨8, wrap64 (1 + (x185000.length : Int))⟩ : S34)])) else (none)) else (some (x185000, x1001))
end
def spec_l20Table.f (k : Nat) (s0_0 : List Int) (s0_1 : Int) (a1 : Int) : Option ((List (S34)) × Int) := (spec_l20Rd_pick.f k s0_0 s0_1 8).bind fun bt185 => (spec_l20Table.l0 k a1 bt185.1 s0_0 bt185.2 ([] : List (S34)))
theorem spec_l20Table.mono_l : ∀ k, (∀ y0 y1 y2 y3 y4, LeO (spec_l20Table.l0 k y0 y1 y2 y3 y4) (spec_l20Table.l0 (k + 1) y0 y1 y2 y3 y4)) ∧ (∀ y0 y1 y2, LeO (spec_l20Table.l1 k y0 y1 y2) (spec_l20Table.l1 (k + 1) y0 y1 y2))
 | 0 => ⟨fun _ _ _ _ _ r h => by simp [spec_l20Table.l0] at h, fun _ _ _ r h => by simp [spec_l20Table.l1] at h⟩
 | k + 1 => by
  obtain ⟨ih0, ih1⟩ := spec_l20Table.mono_l k
  refine ⟨?_, ?_⟩
  ·intro y0 y1 y2 y3 y4
   unfold spec_l20Table.l0
   repeat' first | (with_reducible first | exact ih0 _ _ _ _ _ | exact ih1 _ _ _ | exact spec_MapPut.mono _ _ _ _ | exact spec_l20In.mono _ _ _ | exact spec_l20Out.mono _ _ _ | exact spec_l20Rd_odd.mono _ _ _ _ | exact spec_l20Rd_pick.mono _ _ _ _ | exact LeO.refl _ | exact LeO.none _ | refine LeO.ite ?_ ?_ | refine LeO.bind ?_ (fun _ => ?_)) | exact ih0 _ _ _ _ _ | exact ih1 _ _ _ | exact spec_MapPut.mono _ _ _ _ | exact spec_l20In.mono _ _ _ | exact spec_l20Out.mono _ _ _ | exact spec_l20Rd_odd.mono _ _ _ _ | exact spec_l20Rd_pick.mono _ _ _ _ | exact LeO.none _ | refine LeO.ite ?_ ?_ | refine LeO.bind ?_ (fun _ => ?_)
  ·intro y0 y1 y2
   unfold spec_l20Table.l1
   repeat' first | (with_reducible first | exact ih0 _ _ _ _ _ | exact ih1 _ _ _ | exact spec_MapPut.mono _ _ _ _ | exact spec_l20In.mono _ _ _ | exact spec_l20Out.mono _ _ _ | exact spec_l20Rd_odd.mono _ _ _ _ | exact spec_l20Rd_pick.mono _ _ _ _ | exact LeO.refl _ | exact LeO.none _ | refine LeO.ite ?_ ?_ | refine LeO.bind ?_ (fun _ => ?_)) | exact ih0 _ _ _ _ _ | exact ih1 _ _ _ | exact spec_MapPut.mono _ _ _ _ | exact spec_l20In.mono _ _ _ | exact spec_l20Out.mono _ _ _ | exact spec_l20Rd_odd.mono _ _ _ _ | exact spec_l20Rd_pick.mono _ _ _ _ | exact LeO.none _ | refine LeO.ite ?_ ?_ | refine LeO.bind ?_ (fun _ => ?_)
theorem spec_l20Table.mono : ∀ a0 a1 a2 k, LeO (spec_l20Table.f k a0 a1 a2) (spec_l20Table.f (k + 1) a0 a1 a2) := by
 intro a0 a1 a2 k
 obtain ⟨ih0, ih1⟩ := spec_l20Table.mono_l k
 unfold spec_l20Table.f
 repeat' first | (with_reducible first | exact ih0 _ _ _ _ _ | exact ih1 _ _ _ | exact spec_MapPut.mono _ _ _ _ | exact spec_l20In.mono _ _ _ | exact spec_l20Out.mono _ _ _ | exact spec_l20Rd_odd.mono _ _ _ _ | exact spec_l20Rd_pick.mono _ _ _ _ | exact LeO.refl _ | exact LeO.none _ | refine LeO.ite ?_ ?_ | refine LeO.bind ?_ (fun _ => ?_)) | exact ih0 _ _ _ _ _ | exact ih1 _ _ _ | exact spec_MapPut.mono _ _ _ _ | exact spec_l20In.mono _ _ _ | exact spec_l20Out.mono _ _ _ | exact spec_l20Rd_odd.mono _ _ _ _ | exact spec_l20Rd_pick.mono _ _ _ _ | exact LeO.none _ | refine LeO.ite ?_ ?_ | refine LeO.bind ?_ (fun _ => ?_)
def spec_l20Table.T5 : Bool × List (List Nat × List Nat) := (true, [([], []), ([], []), ([1], [1]), ([0, 2, 2], [0, 2]), ([3], [3]), ([4], [4]), ([4], [4]), ([], []), ([7, 5, 3, 0, 1, 2, 3, 4, 5, 7], [5, 7]), ([6, 8, 0, 1, 2, 3, 4, 5, 6, 7, 8], [6])])
def spec_l20Table.B5 : List Nat := [0, 0, 2, 7, 15, 31, 31, 0, 191, 511]
theorem spec_l20Table.tab5 : rtab .any (opsOf Tryz.f41 5) = spec_l20Table.T5 := by kernel_rfl
theorem spec_l20Table.bits5 : waitsOk spec_l20Table.T5.2 spec_l20Table.B5 = true := by kernel_rfl
def spec_l20Table.T12 : Bool × List (List Nat × List Nat) := (true, [([], []), ([0], [0]), ([], []), ([2], [2]), ([3], [3]), ([1, 4, 3], [1, 4]), ([0, 1, 2, 3, 4, 5], []), ([6, 5, 5, 0, 1, 2, 3, 4, 5], [5, 6])])
def spec_l20Table.B12 : List Nat := [0, 1, 0, 4, 12, 31, 63, 127]
theorem spec_l20Table.tab12 : rtab .any (opsOf Tryz.f41 12) = spec_l20Table.T12 := by kernel_rfl
theorem spec_l20Table.bits12 : waitsOk spec_l20Table.T12.2 spec_l20Table.B12 = true := by kernel_rfl
set_option maxHeartbeats 8000000 in
set_option maxRecDepth 100000 in
theorem spec_l20Table.calls (k : Nat) (g : Nat) (s0_0 : List Int) (s0_1 : Int) (a1 : Int) (r1 : List (S34)) (r2 : Int) (w0 w : World) (hI : IsS84 w0 w g s0_0 s0_1) (hB : Below w0.heap.size w0 w) (h : spec_l20Table.f k s0_0 s0_1 a1 = some (r1, r2)) :
  Calls Tryz.prog 41 #[.pointer (some ⟨g, 0, none⟩), .int .i64 a1] w fun e w' => ∃ v0_ : Value, e = .returned (.agg #[v0_]) ∧ Kd.R k34 34 w' w.heap.size (fun _ => True) v0_ r1 ∧ IsS84 w0 w' g s0_0 r2 ∧ Below w0.heap.size w0 w' ∧ KeepBut w w' g none := by
 have hu25 := Tryz.underlying25
 have hu34 := Tryz.underlying34
 have HI0 := Aside0.mk hI
 have HK := Aside0.mk (KeepBut.refl w g none)
 have HL := Aside0.mk hB.size
 clear hI
 have HW0 := Aside0.mk hB.size
 have HB := Aside0.mk hB
 clear hB
 have H : ((spec_l20Rd_pick.f k s0_0 s0_1 8).bind fun bt185 => (spec_l20Table.l0 k a1 bt185.1 s0_0 bt185.2 ([] : List (S34)))) = some (r1, r2) := h
 clear h
 replace H := Option.bind_eq_some_iff.mp H
 obtain ⟨⟨t185, t186⟩, A30, H⟩ := H
 try dsimp only at H
 have A3 := Aside0.mk A30
 clear A30
 have H' := Aside0.mk H
 clear H
 go_enter Tryz.func41, Tryz.ntmps41
 go_wp2_with (first | ((with_reducible refine gate_dst (N := 4) rfl ?_); refine box_event rfl (N := 4) rfl (cs := #[.slice none 0 0]) (t := 25) hr_ ?_; intro gb183 hg w4 hbox hb; replace HB := Aside0.mk (below_step m23_ hb); have BK183 := Aside0.mk hbox; have GW183 := Aside0.mk ((by rw [hg]; exact (keep_size (w := w) (g := g) (row := none) m24_) : w.heap.size ≤ gb183)); have GE183 := Aside0.mk ((Nat.le_trans HW0.out (by rw [hg]; exact (keep_size (w := w) (g := g) (row := none) m24_) : w.heap.size ≤ gb183) : w0.heap.size ≤ gb183)); replace HK := Aside0.mk (KeepBut.trans m24_ (KeepBut.of_below hb g none) (.inl rfl)); have NB0_183 := Aside0.mk ((by rw [hg]; exact Nat.ne_of_lt (IsS84.lt (show IsS84 w0 _ g s0_0 s0_1 from m25_)) : g ≠ gb183)); have NB183_0 := Aside0.mk ((by rw [hg]; exact Nat.ne_of_gt (IsS84.lt (show IsS84 w0 _ g s0_0 s0_1 from m25_)) : gb183 ≠ g)); replace HI0 := Aside0.mk (IsS84.below m25_ hb); clear hb hbox hg) | ((with_reducible refine gate_dst (N := 5) rfl ?_); refine box_event rfl (N := 5) rfl (cs := #[.slice none 0 0]) (t := 25) hr_ ?_; intro gb184 hg w5 hbox hb; replace HB := Aside0.mk (below_step m26_ hb); have BK184 := Aside0.mk hbox; have GW184 := Aside0.mk ((by rw [hg]; exact (keep_size (w := w) (g := g) (row := none) m27_) : w.heap.size ≤ gb184)); have GE184 := Aside0.mk ((Nat.le_trans HW0.out (by rw [hg]; exact (keep_size (w := w) (g := g) (row := none) m27_) : w.heap.size ≤ gb184) : w0.heap.size ≤ gb184)); replace HK := Aside0.mk (KeepBut.trans m27_ (KeepBut.of_below hb g none) (.inl rfl)); have NB183_184 := neL BK183 hg; have NB184_183 := neG BK183 hg; replace BK183 := bkB BK183 hb; have NB0_184 := Aside0.mk ((by rw [hg]; exact Nat.ne_of_lt (IsS84.lt (show IsS84 w0 _ g s0_0 s0_1 from m28_)) : g ≠ gb184)); have NB184_0 := Aside0.mk ((by rw [hg]; exact Nat.ne_of_gt (IsS84.lt (show IsS84 w0 _ g s0_0 s0_1 from m28_)) : gb184 ≠ g)); replace HI0 := Aside0.mk (IsS84.below m28_ hb); clear hb hbox hg; have hnb6 := NB184_183.out; have hnc6 := NB183_184.out; have hnb7 := NB184_0.out; have hnc7 := NB0_184.out; have hcz8_0 := bcell BK184 0; have hfz8_0 := blk_frozen BK184.out 0) | ((with_reducible refine gate_callee (f := 63) rfl ?_); refine gL (some 11) Tryz.func63 #[.pointer (some ⟨g, 0, none⟩), .int .i64 8] ?_; (with_reducible refine (spec_l20Rd_pick.calls k g s0_0 s0_1 8 t185 t186 w0 _ ?side1 ?side2 A3.out).mono ?_); (case side1 => exact m28_); (case side2 => exact m26_); rintro e w9 ⟨rfl, hi, hb, hk⟩; refine ⟨_, rfl, ?_⟩; replace BK183 := Aside0.mk (KeepBut.blk hk (g' := gb183) (o := .cells #[.slice none 0 0] 25 (0, 0)) (by (with_reducible repeat refine bu ?_); refine blk_far ?_ NB183_184.out _; (with_reducible repeat refine bu ?_); exact BK183.out) NB183_0.out (by simp)); replace BK184 := Aside0.mk (KeepBut.blk hk (g' := gb184) (o := .cells #[.slice none 0 0] 25 (0, 0)) (by (with_reducible repeat refine bu ?_); refine blk_put (cs := #[.slice none 0 0]) ?_ 0 _ rfl; (with_reducible repeat refine bu ?_); exact BK184.out) NB184_0.out (by simp)); replace HK := Aside0.mk (KeepBut.trans m27_ hk (.inl rfl)); replace HB := Aside0.mk hb; replace HI0 := Aside0.mk hi; (try clear hb); (try clear hk); (try clear hi)))
 go_loopg [6] k (fun kq v6 w' => ∃ (x6_1 : Int) (x1001_1 : Int) (x185000_1 : List (S34)) (u185000 : Value), v6 = .int .i64 x6_1 ∧ Aside0 (spec_l20Table.l0 kq a1 x6_1 s0_0 x1001_1 x185000_1 = some (r1, r2)) ∧ Aside0 (kq ≤ k) ∧ Aside0 (Kd.R k34 34 w' w.heap.size (fun _ => True) u185000 x185000_1) ∧ Aside0 (w'.heap[gb183]? = some (.cells #[(.slice none 0 0)] 25 (0, 0))) ∧ Aside0 (w'.heap[gb184]? = some (.cells #[u185000] 25 (0, 0))) ∧ Aside0 (IsS84 w0 w' g s0_0 x1001_1) ∧ Aside0 (KeepBut w w' g none) ∧ Aside0 (Below w0.heap.size w0 w'))
 case atStart => exact ⟨(t185), (t186), (([] : List (S34))), (.slice none 0 0), rs_, H', ⟨Nat.le_refl _⟩, ⟨by first | exact Kd.R_nil _ _ _ _ _ | exact Kd.N_nil _ _ _ _ _ | exact Kd.V_nil _ _ _ _ _ | exact Kd.Q_nil _ _ _ _ _ | exact Kd.S_nil _ _ _ _ _⟩, ⟨bk BK183⟩, ⟨bk BK184⟩, ⟨m28_⟩, ⟨m27_⟩, ⟨m26_⟩⟩
 case round =>
  clear H'
  try clear p2
  try clear c4
  try clear c6
  try clear c7
  try clear hcz8_0
  try clear hfz8_0
  obtain ⟨x6_1, x1001_1, x185000_1, u185000, rfl, HA, HK1, HO_185000, BK183, BK184, HI0, HK, HB⟩ := hrel
  cases gk with
  | zero => exact absurd HA.out (by simp [spec_l20Table.l0])
  | succ k1 =>
   have H := HA.out
   clear HA
   simp only [spec_l20Table.l0] at H
   by_cases c10 : x6_1 > 0
   ·rw [if_pos c10] at H
    have c10b0 : decide (0 < x6_1) = true := decide_eq_true c10
    clear c10
    replace H := Option.bind_eq_some_iff.mp H
    obtain ⟨⟨t187, t188, t189⟩, A110, H⟩ := H
    try dsimp only at H
    have A11 := Aside0.mk A110
    clear A110
    replace H := Option.bind_eq_some_iff.mp H
    obtain ⟨⟨t190, t193⟩, A120, H⟩ := H
    try dsimp only at H
    have A12 := Aside0.mk A120
    clear A120
    have H' := Aside0.mk H
    clear H
    obtain ⟨Ao13, co13, eo13⟩ := Kd.R_slice HO_185000.out
    subst eo13
    try go_wp2
    replace HO_185000 := Aside0.mk (Kd.R_drew HO_185000.out)
    replace BK183 := Aside0.mk (blk_drew BK183.out)
    replace BK184 := Aside0.mk (blk_drew BK184.out)
    replace HI0 := Aside0.mk (IsS84.drew HI0.out)
    replace HK := Aside0.mk (keep_drew HK.out)
    replace HB := Aside0.mk (below_drew1 HB.out)
    refine start_ (n := 10) (S := fun w' => w'.cell? ⟨gb184, 0, none⟩ = some (.slice Ao13 x185000_1.length co13)) (ds := []) #[false, false, false, false, false, false, false, false, false, false] (by kernel_rfl) rfl rfl (bcell BK184 0) (fun hHeld => ?_); refine with_tabW spec_l20Table.tab5 spec_l20Table.bits5 (fun HT_ HW_ => ?_)
    generalize wr.drew = w14 at HO_185000 BK183 BK184 HI0 HK HB hHeld ⊢
    refine pu_ 1 (some 18) #[false, true, false, false, false, false, false, false, false, false] ?_
    refine take_ (i := 0) (N := some 17) (v := ?_) (a' := ?_) #[true, true, false, false, false, false, false, false, false, false] rfl rfl (take_ofW HT_.out HW_.out (by kernel_rfl)) (fun _ _ _ h => h) (Or.inl ⟨by rfl, ?_⟩) hHeld ?_ ?_
    rotate_left
    ·intro w' s0
     go_simp
     with_reducible rfl
    rotate_left
    ·simp only [Act.put, List.setIfInBounds_toArray, List.set_cons_zero, List.set_cons_succ, i64_w, i32_w]
     rfl
    refine join_ (σ := Value × Nat) 2 #[true, true, true, true, true, true, true, true, false, false] (fun s_ => [(19, .agg #[.int .i64 t187, .int .i64 t188]), (20, .tuple #[.agg #[s_.1], .int .i64 t193]), (7, .pointer (some ⟨s_.2, 0, none⟩)), (16, .tuple #[.agg #[s_.1], .int .i64 t193]), (21, .agg #[s_.1]), (22, .int .i64 t193)]) (fun s_ w' => (w'.cell? ⟨gb184, 0, none⟩ = some (.slice Ao13 x185000_1.length co13)) ∧ (Kd.R k34 34 w' w.heap.size (fun k_ => some k_ ≠ (.slice Ao13 x185000_1.length co13 : Value).ownBlock) s_.1 t190) ∧ (Kd.R k34 34 w' w.heap.size (fun k_ => some k_ ≠ (s_.1 : Value).ownBlock) (.slice Ao13 x185000_1.length co13) x185000_1) ∧ (w'.heap[gb183]? = some (.cells #[.slice none 0 0] 25 (0, 0))) ∧ (w'.heap[gb184]? = some (.cells #[.slice Ao13 x185000_1.length co13] 25 (0, 0))) ∧ (w'.heap[s_.2]? = some (.cells #[.slice none 0 0] 25 (0, 0))) ∧ (w.heap.size ≤ s_.2) ∧ (w0.heap.size ≤ s_.2) ∧ (g ≠ s_.2) ∧ (s_.2 ≠ g) ∧ (gb183 ≠ s_.2) ∧ (s_.2 ≠ gb183) ∧ (gb184 ≠ s_.2) ∧ (s_.2 ≠ gb184) ∧ (IsS84 w0 w' g s0_0 t189) ∧ (KeepBut w w' g none) ∧ (Below w0.heap.size w0 w')) ?_ ?_
    rotate_left
    ·intro hCont
     refine two_ (i := 2) (j := 7) (Ni := some 19) (Nj := some 7) #[true, true, true, false, false, false, false, false, false, false] #[true, true, false, false, false, false, false, true, false, false] rfl rfl rfl rfl (two_of HT_.out (by kernel_rfl)) (by decide) (by decide) (fun K hK => ?_) (fun K hK => ?_)
     ·skip
      refine gR Tryz.func75 #[.pointer (some ⟨g, 0, none⟩)] ?_
      with_reducible refine (spec_l20In.calls k1 g s0_0 x1001_1 t187 t188 t189 w0 _ ?side1 ?side2 A11.out).mono ?_
      (case side1 => exact m28_)
      (case side2 => exact m26_)
      rintro e w15 ⟨rfl, hi, hb, hk⟩
      refine ⟨_, rfl, ?_⟩
      replace HO_185000 := Aside0.mk (Kd.R_mono (Kd.R_keep (IsS84.apart (show IsS84 w0 _ g s0_0 x1001_1 from m28_) (rs HO_185000) (by decide)) hk (fun _ h => h.2)) (fun _ h => h.1))
      replace BK183 := Aside0.mk (KeepBut.blk hk (g' := gb183) (o := .cells #[.slice none 0 0] 25 (0, 0)) (bk BK183) NB183_0.out (by simp))
      replace BK184 := Aside0.mk (KeepBut.blk hk (g' := gb184) (o := .cells #[.slice Ao13 x185000_1.length co13] 25 (0, 0)) (bk BK184) NB184_0.out (by simp))
      replace HK := Aside0.mk (KeepBut.trans m27_ hk (.inl rfl))
      replace HB := Aside0.mk hb
      replace HI0 := Aside0.mk hi
      (try clear hb)
      (try clear hb2)
      (try clear hk)
      (try clear hi)
      refine hK.out _ _ (bcell BK184 0) (fun hHeld => ?_)
      clear hK K
      refine nm_ ?_
      refine two_ (i := 3) (j := 7) (Ni := some 20) (Nj := some 7) #[true, true, true, true, false, false, false, false, false, false] #[true, true, true, false, false, false, false, true, false, false] rfl rfl rfl rfl (two_of HT_.out (by kernel_rfl)) (by decide) (by decide) (fun K hK => ?_) (fun K hK => ?_)
      ·skip
       refine gR Tryz.func74 #[.agg #[.slice Ao13 x185000_1.length co13], .agg #[.int .i64 t187, .int .i64 t188]] ?_
       with_reducible refine (spec_MapPut.calls k1 _ _ x185000_1 t187 t188 t190 t193 _ ?side1 ?side2 A12.out).mono ?_
       (case side1 => repeat (first | exact (Kd.R_reads' HO_185000.out).2.2 | (with_reducible refine Kd.C_alloc ?_ _) | (with_reducible refine Kd.C_drewN ?_ _) | (with_reducible refine Kd.C_drew ?_)))
       (case side2 => exact (Kd.R_reads' HO_185000.out).2.1)
       rintro e w16 ⟨v191, rfl, ho0, hb⟩
       refine ⟨_, rfl, ?_⟩
       have HO192 := Aside0.mk (Kd.R_lower (Kd.R_new' ho0 (Kd.R_lt (rs HO_185000))) (keep_size (w := w) (g := g) (row := none) m27_))
       replace HO_185000 := Aside0.mk (Kd.R_elder' (rs HO_185000) (Kd.R_base ho0) hb)
       replace BK183 := bkB BK183 hb
       replace BK184 := bkB BK184 hb
       replace HK := Aside0.mk (KeepBut.trans m27_ (KeepBut.of_below hb g none) (.inl rfl))
       replace HB := Aside0.mk (below_step m26_ hb)
       replace HI0 := Aside0.mk (IsS84.below m28_ hb)
       (try clear hb)
       (try clear hb2)
       (try clear hk)
       (try clear hi)
       (try clear ho0)
       refine hK.out _ _ (bcell BK184 0) (fun hHeld => ?_)
       clear hK K
       refine nm_ ?_
       refine pu_ 4 (some 16) #[true, true, true, true, true, false, false, false, false, false] ?_
       refine pu_ 5 (some 21) #[true, true, true, true, true, true, false, false, false, false] ?_
       refine pu_ 6 (some 22) #[true, true, true, true, true, true, true, false, false, false] ?_
       refine on_ 7 (some 7) #[true, true, true, true, true, true, true, true, false, false] (fun K hK => ?_)
       refine box_step rfl (N := 7) rfl (cs := #[.slice none 0 0]) (t := 25) hr_ ?_
       intro gb194 hg w17 hbox hb
       replace HO_185000 := Aside0.mk (Kd.R_below (rs HO_185000) hb)
       replace HO192 := Aside0.mk (Kd.R_below (rs HO192) hb)
       replace HB := Aside0.mk (below_step m26_ hb)
       have BK194 := Aside0.mk hbox
       have GW194 := Aside0.mk ((by rw [hg]; exact (keep_size (w := w) (g := g) (row := none) m27_) : w.heap.size ≤ gb194))
       have GE194 := Aside0.mk ((Nat.le_trans HW0.out (by rw [hg]; exact (keep_size (w := w) (g := g) (row := none) m27_) : w.heap.size ≤ gb194) : w0.heap.size ≤ gb194))
       replace HK := Aside0.mk (KeepBut.trans m27_ (KeepBut.of_below hb g none) (.inl rfl))
       have NB183_194 := neL BK183 hg
       have NB194_183 := neG BK183 hg
       replace BK183 := bkB BK183 hb
       have NB184_194 := neL BK184 hg
       have NB194_184 := neG BK184 hg
       replace BK184 := bkB BK184 hb
       have NB0_194 := Aside0.mk ((by rw [hg]; exact Nat.ne_of_lt (IsS84.lt (show IsS84 w0 _ g s0_0 t189 from m28_)) : g ≠ gb194))
       have NB194_0 := Aside0.mk ((by rw [hg]; exact Nat.ne_of_gt (IsS84.lt (show IsS84 w0 _ g s0_0 t189 from m28_)) : gb194 ≠ g))
       replace HI0 := Aside0.mk (IsS84.below m28_ hb)
       clear hb hbox hg
       refine hK.out _ _ (bcell BK184 0) (fun hHeld => ?_)
       clear hK K
       refine nm_ ?_
       exact norm_ (by simp only [putAll, Act.put, List.setIfInBounds_toArray, List.set_cons_zero, List.set_cons_succ]) (hCont (v191, gb194) _ ⟨hHeld, (by (with_reducible repeat apply ru); exact Kd.R_mono HO192.out (fun _ hk => hk.2)), (by (with_reducible repeat apply ru); exact Kd.R_mono HO_185000.out (fun _ hk => hk.2)), (bk BK183), (bk BK184), (bk BK194), GW194.out, GE194.out, NB0_194.out, NB194_0.out, NB183_194.out, NB194_183.out, NB184_194.out, NB194_184.out, m28_, m27_, m26_⟩)
      ·skip
       refine box_step rfl (N := 7) rfl (cs := #[.slice none 0 0]) (t := 25) hr_ ?_
       intro gb194 hg w16 hbox hb
       replace HO_185000 := Aside0.mk (Kd.R_below (rs HO_185000) hb)
       replace HB := Aside0.mk (below_step m26_ hb)
       have BK194 := Aside0.mk hbox
       have GW194 := Aside0.mk ((by rw [hg]; exact (keep_size (w := w) (g := g) (row := none) m27_) : w.heap.size ≤ gb194))
       have GE194 := Aside0.mk ((Nat.le_trans HW0.out (by rw [hg]; exact (keep_size (w := w) (g := g) (row := none) m27_) : w.heap.size ≤ gb194) : w0.heap.size ≤ gb194))
       replace HK := Aside0.mk (KeepBut.trans m27_ (KeepBut.of_below hb g none) (.inl rfl))
       have NB183_194 := neL BK183 hg
       have NB194_183 := neG BK183 hg
       replace BK183 := bkB BK183 hb
       have NB184_194 := neL BK184 hg
       have NB194_184 := neG BK184 hg
       replace BK184 := bkB BK184 hb
       have NB0_194 := Aside0.mk ((by rw [hg]; exact Nat.ne_of_lt (IsS84.lt (show IsS84 w0 _ g s0_0 t189 from m28_)) : g ≠ gb194))
       have NB194_0 := Aside0.mk ((by rw [hg]; exact Nat.ne_of_gt (IsS84.lt (show IsS84 w0 _ g s0_0 t189 from m28_)) : gb194 ≠ g))
       replace HI0 := Aside0.mk (IsS84.below m28_ hb)
       clear hb hbox hg
       refine hK.out _ _ (bcell BK184 0) (fun hHeld => ?_)
       clear hK K
       refine nm_ ?_
       refine on_ 3 (some 20) #[true, true, true, true, false, false, false, true, false, false] (fun K hK => ?_)
       refine gR Tryz.func74 #[.agg #[.slice Ao13 x185000_1.length co13], .agg #[.int .i64 t187, .int .i64 t188]] ?_
       with_reducible refine (spec_MapPut.calls k1 _ _ x185000_1 t187 t188 t190 t193 _ ?side1 ?side2 A12.out).mono ?_
       (case side1 => repeat (first | exact (Kd.R_reads' HO_185000.out).2.2 | (with_reducible refine Kd.C_alloc ?_ _) | (with_reducible refine Kd.C_drewN ?_ _) | (with_reducible refine Kd.C_drew ?_)))
       (case side2 => exact (Kd.R_reads' HO_185000.out).2.1)
       rintro e w17 ⟨v191, rfl, ho0, hb⟩
       refine ⟨_, rfl, ?_⟩
       have HO192 := Aside0.mk (Kd.R_lower (Kd.R_new' ho0 (Kd.R_lt (rs HO_185000))) (keep_size (w := w) (g := g) (row := none) m27_))
       replace HO_185000 := Aside0.mk (Kd.R_elder' (rs HO_185000) (Kd.R_base ho0) hb)
       replace BK183 := bkB BK183 hb
       replace BK184 := bkB BK184 hb
       replace BK194 := bkB BK194 hb
       replace HK := Aside0.mk (KeepBut.trans m27_ (KeepBut.of_below hb g none) (.inl rfl))
       replace HB := Aside0.mk (below_step m26_ hb)
       replace HI0 := Aside0.mk (IsS84.below m28_ hb)
       (try clear hb)
       (try clear hb2)
       (try clear hk)
       (try clear hi)
       (try clear ho0)
       refine hK.out _ _ (bcell BK184 0) (fun hHeld => ?_)
       clear hK K
       refine nm_ ?_
       refine pu_ 4 (some 16) #[true, true, true, true, true, false, false, true, false, false] ?_
       refine pu_ 5 (some 21) #[true, true, true, true, true, true, false, true, false, false] ?_
       refine pu_ 6 (some 22) #[true, true, true, true, true, true, true, true, false, false] ?_
       exact norm_ (by simp only [putAll, Act.put, List.setIfInBounds_toArray, List.set_cons_zero, List.set_cons_succ]) (hCont (v191, gb194) _ ⟨hHeld, (by (with_reducible repeat apply ru); exact Kd.R_mono HO192.out (fun _ hk => hk.2)), (by (with_reducible repeat apply ru); exact Kd.R_mono HO_185000.out (fun _ hk => hk.2)), (bk BK183), (bk BK184), (bk BK194), GW194.out, GE194.out, NB0_194.out, NB194_0.out, NB183_194.out, NB194_183.out, NB184_194.out, NB194_184.out, m28_, m27_, m26_⟩)
     ·skip
      refine box_step rfl (N := 7) rfl (cs := #[.slice none 0 0]) (t := 25) hr_ ?_
      intro gb194 hg w15 hbox hb
      replace HO_185000 := Aside0.mk (Kd.R_below (rs HO_185000) hb)
      replace HB := Aside0.mk (below_step m26_ hb)
      have BK194 := Aside0.mk hbox
      have GW194 := Aside0.mk ((by rw [hg]; exact (keep_size (w := w) (g := g) (row := none) m27_) : w.heap.size ≤ gb194))
      have GE194 := Aside0.mk ((Nat.le_trans HW0.out (by rw [hg]; exact (keep_size (w := w) (g := g) (row := none) m27_) : w.heap.size ≤ gb194) : w0.heap.size ≤ gb194))
      replace HK := Aside0.mk (KeepBut.trans m27_ (KeepBut.of_below hb g none) (.inl rfl))
      have NB183_194 := neL BK183 hg
      have NB194_183 := neG BK183 hg
      replace BK183 := bkB BK183 hb
      have NB184_194 := neL BK184 hg
      have NB194_184 := neG BK184 hg
      replace BK184 := bkB BK184 hb
      have NB0_194 := Aside0.mk ((by rw [hg]; exact Nat.ne_of_lt (IsS84.lt (show IsS84 w0 _ g s0_0 x1001_1 from m28_)) : g ≠ gb194))
      have NB194_0 := Aside0.mk ((by rw [hg]; exact Nat.ne_of_gt (IsS84.lt (show IsS84 w0 _ g s0_0 x1001_1 from m28_)) : gb194 ≠ g))
      replace HI0 := Aside0.mk (IsS84.below m28_ hb)
      clear hb hbox hg
      refine hK.out _ _ (bcell BK184 0) (fun hHeld => ?_)
      clear hK K
      refine nm_ ?_
      refine on_ 2 (some 19) #[true, true, true, false, false, false, false, true, false, false] (fun K hK => ?_)
      refine gR Tryz.func75 #[.pointer (some ⟨g, 0, none⟩)] ?_
      with_reducible refine (spec_l20In.calls k1 g s0_0 x1001_1 t187 t188 t189 w0 _ ?side1 ?side2 A11.out).mono ?_
      (case side1 => exact m28_)
      (case side2 => exact m26_)
      rintro e w16 ⟨rfl, hi, hb, hk⟩
      refine ⟨_, rfl, ?_⟩
      replace HO_185000 := Aside0.mk (Kd.R_mono (Kd.R_keep (IsS84.apart (show IsS84 w0 _ g s0_0 x1001_1 from m28_) (rs HO_185000) (by decide)) hk (fun _ h => h.2)) (fun _ h => h.1))
      replace BK183 := Aside0.mk (KeepBut.blk hk (g' := gb183) (o := .cells #[.slice none 0 0] 25 (0, 0)) (bk BK183) NB183_0.out (by simp))
      replace BK184 := Aside0.mk (KeepBut.blk hk (g' := gb184) (o := .cells #[.slice Ao13 x185000_1.length co13] 25 (0, 0)) (bk BK184) NB184_0.out (by simp))
      replace BK194 := Aside0.mk (KeepBut.blk hk (g' := gb194) (o := .cells #[.slice none 0 0] 25 (0, 0)) (bk BK194) NB194_0.out (by simp))
      replace HK := Aside0.mk (KeepBut.trans m27_ hk (.inl rfl))
      replace HB := Aside0.mk hb
      replace HI0 := Aside0.mk hi
      (try clear hb)
      (try clear hb2)
      (try clear hk)
      (try clear hi)
      refine hK.out _ _ (bcell BK184 0) (fun hHeld => ?_)
      clear hK K
      refine nm_ ?_
      refine on_ 3 (some 20) #[true, true, true, true, false, false, false, true, false, false] (fun K hK => ?_)
      refine gR Tryz.func74 #[.agg #[.slice Ao13 x185000_1.length co13], .agg #[.int .i64 t187, .int .i64 t188]] ?_
      with_reducible refine (spec_MapPut.calls k1 _ _ x185000_1 t187 t188 t190 t193 _ ?side1 ?side2 A12.out).mono ?_
      (case side1 => repeat (first | exact (Kd.R_reads' HO_185000.out).2.2 | (with_reducible refine Kd.C_alloc ?_ _) | (with_reducible refine Kd.C_drewN ?_ _) | (with_reducible refine Kd.C_drew ?_)))
      (case side2 => exact (Kd.R_reads' HO_185000.out).2.1)
      rintro e w17 ⟨v191, rfl, ho0, hb⟩
      refine ⟨_, rfl, ?_⟩
      have HO192 := Aside0.mk (Kd.R_lower (Kd.R_new' ho0 (Kd.R_lt (rs HO_185000))) (keep_size (w := w) (g := g) (row := none) m27_))
      replace HO_185000 := Aside0.mk (Kd.R_elder' (rs HO_185000) (Kd.R_base ho0) hb)
      replace BK183 := bkB BK183 hb
      replace BK184 := bkB BK184 hb
      replace BK194 := bkB BK194 hb
      replace HK := Aside0.mk (KeepBut.trans m27_ (KeepBut.of_below hb g none) (.inl rfl))
      replace HB := Aside0.mk (below_step m26_ hb)
      replace HI0 := Aside0.mk (IsS84.below m28_ hb)
      (try clear hb)
      (try clear hb2)
      (try clear hk)
      (try clear hi)
      (try clear ho0)
      refine hK.out _ _ (bcell BK184 0) (fun hHeld => ?_)
      clear hK K
      refine nm_ ?_
      refine pu_ 4 (some 16) #[true, true, true, true, true, false, false, true, false, false] ?_
      refine pu_ 5 (some 21) #[true, true, true, true, true, true, false, true, false, false] ?_
      refine pu_ 6 (some 22) #[true, true, true, true, true, true, true, true, false, false] ?_
      exact norm_ (by simp only [putAll, Act.put, List.setIfInBounds_toArray, List.set_cons_zero, List.set_cons_succ]) (hCont (v191, gb194) _ ⟨hHeld, (by (with_reducible repeat apply ru); exact Kd.R_mono HO192.out (fun _ hk => hk.2)), (by (with_reducible repeat apply ru); exact Kd.R_mono HO_185000.out (fun _ hk => hk.2)), (bk BK183), (bk BK184), (bk BK194), GW194.out, GE194.out, NB0_194.out, NB194_0.out, NB183_194.out, NB194_183.out, NB184_194.out, NB194_184.out, m28_, m27_, m26_⟩)
    rintro ⟨v191, gb194⟩ w18 ⟨hS_, h0_, h1_, h2_, h3_, h4_, h5_, h6_, h7_, h8_, h9_, h10_, h11_, h12_, h13_, h14_, h15_⟩
    have n0_ : Aside0 (Kd.R k34 34 w18 w.heap.size (fun k_ => some k_ ≠ (.slice Ao13 x185000_1.length co13 : Value).ownBlock) v191 t190) := ⟨h0_⟩
    have n1_ : Aside0 (Kd.R k34 34 w18 w.heap.size (fun k_ => some k_ ≠ (v191 : Value).ownBlock) (.slice Ao13 x185000_1.length co13) x185000_1) := ⟨h1_⟩
    have n2_ : Aside0 (w18.heap[gb183]? = some (.cells #[.slice none 0 0] 25 (0, 0))) := ⟨h2_⟩
    have n3_ : Aside0 (w18.heap[gb184]? = some (.cells #[.slice Ao13 x185000_1.length co13] 25 (0, 0))) := ⟨h3_⟩
    have n4_ : Aside0 (w18.heap[gb194]? = some (.cells #[.slice none 0 0] 25 (0, 0))) := ⟨h4_⟩
    have n5_ : Aside0 (w.heap.size ≤ gb194) := ⟨h5_⟩
    have n6_ : Aside0 (w0.heap.size ≤ gb194) := ⟨h6_⟩
    have n7_ : Aside0 (g ≠ gb194) := ⟨h7_⟩
    have n8_ : Aside0 (gb194 ≠ g) := ⟨h8_⟩
    have n9_ : Aside0 (gb183 ≠ gb194) := ⟨h9_⟩
    have n10_ : Aside0 (gb194 ≠ gb183) := ⟨h10_⟩
    have n11_ : Aside0 (gb184 ≠ gb194) := ⟨h11_⟩
    have n12_ : Aside0 (gb194 ≠ gb184) := ⟨h12_⟩
    have n13_ : Aside0 (IsS84 w0 w18 g s0_0 t189) := ⟨h13_⟩
    have n14_ : Aside0 (KeepBut w w18 g none) := ⟨h14_⟩
    have n15_ : Aside0 (Below w0.heap.size w0 w18) := ⟨h15_⟩
    clear HO_185000
    clear BK183
    clear BK184
    clear HI0
    clear HK
    clear HB
    clear h0_ h1_ h2_ h3_ h4_ h5_ h6_ h7_ h8_ h9_ h10_ h11_ h12_ h13_ h14_ h15_
    have HO192 := n0_
    have HO_185000 := n1_
    have BK183 := n2_
    have BK184 := n3_
    have BK194 := n4_
    have GW194 := n5_
    have GE194 := n6_
    have NB0_194 := n7_
    have NB194_0 := n8_
    have NB183_194 := n9_
    have NB194_183 := n10_
    have NB184_194 := n11_
    have NB194_184 := n12_
    have HI0 := n13_
    have HK := n14_
    have HB := n15_
    clear n0_ n1_ n2_ n3_ n4_ n5_ n6_ n7_ n8_ n9_ n10_ n11_ n12_ n13_ n14_ n15_
    have hHeld : w18.cell? ⟨gb184, 0, none⟩ = some (.slice Ao13 x185000_1.length co13) := hS_
    obtain ⟨Ao19, co19, eo19⟩ := Kd.R_slice HO192.out
    (first | subst eo19 | (injection eo19 with f1_ f2_ f3_; have f4_ := f1_.symm; have f5_ := f3_.symm; clear f1_ f2_ f3_; subst f4_; subst f5_))
    refine norm_ (a' := ?_) ?_ ?_
    rotate_left
    ·simp only [putAll, Act.put, List.setIfInBounds_toArray, List.set_cons_zero, List.set_cons_succ]
     rfl
    refine on_ 8 none #[true, true, true, true, true, true, true, true, true, false] (fun K hK => ?_)
    have hs20 : w18.cell? ⟨gb194, 0, none⟩ = some (.slice none 0 0) := bcell BK194 0
    have hfs20 := blk_frozen BK194.out 0
    have hns20_0 := NB183_194.out
    have hns20_1 := NB184_194.out
    have hms20_0 := NB194_183.out
    have hms20_1 := NB194_184.out
    refine skip_ (w1 := ?_) (by rfl) rfl ?_ ?_
    rotate_left
    ·go_simp
     rfl
    refine hK.out _ _ (((cell_far (p := ⟨gb194, _, none⟩) NB184_194.out _).trans (hHeld))) (fun hHeld => ?_)
    clear hK K
    refine pu_ 9 (some 8) #[true, true, true, true, true, true, true, true, true, true] ?_
    refine done_ (done_of HT_.out (by kernel_rfl)) ?_
    have hnb21 := NB194_183.out
    have hnc21 := NB183_194.out
    have hnb22 := NB194_184.out
    have hnc22 := NB184_194.out
    have hnb23 := NB194_0.out
    have hnc23 := NB0_194.out
    have hcz24_0 := bcell BK194 0
    have hfz24_0 := blk_frozen BK194.out 0
    have hnb25 := NB184_183.out
    have hnc25 := NB183_184.out
    have hnb26 := NB184_0.out
    have hnc26 := NB0_184.out
    have hcz27_0 := bcell BK184 0
    have hfz27_0 := blk_frozen BK184.out 0
    try go_wp2
    go_roundg k1
    case measure => have := HK1.out; omega
    case rel => exact ⟨(wrap64 (x6_1 - 1)), (t189), (t190), (.slice Ao19 t190.length co19), rs_, H', ⟨by have := HK1.out; omega⟩, ⟨by (with_reducible repeat apply ru); exact Kd.R_mono (Kd.R_far (p := ⟨gb184, 0, none⟩) (Kd.R_far (p := ⟨gb194, 0, none⟩) (Kd.R_types (Kd.R_types HO192.out BK194.out (by decide)) BK184.out (by decide)) (fun _ hk => hk.1.2) (.slice Ao19 t190.length co19)) (fun _ hk => hk.2) (.slice Ao19 t190.length co19)) (fun _ hk => trivial)⟩, ⟨by (with_reducible repeat refine bu ?_); refine blk_far ?_ NB183_184.out _; (with_reducible repeat refine bu ?_); refine blk_far ?_ NB183_194.out _; (with_reducible repeat refine bu ?_); exact BK183.out⟩, ⟨by (with_reducible repeat refine bu ?_); refine blk_put (cs := #[.slice Ao13 x185000_1.length co13]) ?_ 0 _ rfl; (with_reducible repeat refine bu ?_); refine blk_far ?_ NB184_194.out _; (with_reducible repeat refine bu ?_); exact BK184.out⟩, ⟨m28_⟩, ⟨m27_⟩, ⟨m26_⟩⟩
   ·rw [if_neg c10] at H
    have c10b0 : decide (0 < x6_1) = false := decide_eq_false c10
    clear c10
    replace H := Option.bind_eq_some_iff.mp H
    obtain ⟨⟨t195, t196⟩, A280, H⟩ := H
    try dsimp only at H
    have A28 := Aside0.mk A280
    clear A280
    by_cases c29 : t195 = true
    ·subst c29
     have H1 : ((spec_l20Rd_pick.f k1 s0_0 t196 3).bind fun bt197 => (if bt197.1 = 0 then ((spec_l20Out.f k1 s0_0 bt197.2).bind fun bt199 => (if x185000_1.length < 8796093022208 then (some ((x185000_1 ++ [(⟨bt199.1, bt199.2.1⟩ : S34)]), bt199.2.2)) else (none))) else (if bt197.1 = 1 then (if x185000_1.length < 8796093022208 then ((some (x185000_1 ++ [(⟨9, 9⟩ : S34)] : List (S34))).bind fun y205 => (if y205.length < 8796093022208 then (some ((y205 ++ [(⟨9, 9⟩ : S34)]), bt197.2)) else (none))) else (none)) else (spec_l20Table.l1 k1 s0_0 bt197.2 x185000_1)))) = some (r1, r2) := by rw [if_pos rfl] at H; exact H
     clear H
     have H := H1
     clear H1
     replace H := Option.bind_eq_some_iff.mp H
     obtain ⟨⟨t197, t198⟩, A300, H⟩ := H
     try dsimp only at H
     have A30 := Aside0.mk A300
     clear A300
     by_cases c31 : t197 = 0
     ·rw [if_pos c31] at H
      have c31b0 : (t197 == 0) = true := beq_iff_eq.mpr c31
      have c31b1 : (t197 != 0) = false := bne_eq_false_iff_eq.mpr c31
      clear c31
      replace H := Option.bind_eq_some_iff.mp H
      obtain ⟨⟨t199, t200, t201⟩, A320, H⟩ := H
      try dsimp only at H
      have A32 := Aside0.mk A320
      clear A320
      by_cases c33 : x185000_1.length < 8796093022208
      ·rw [if_pos c33] at H
       have LMc33 := Aside0.mk c33
       clear c33
       obtain ⟨y202, hy202⟩ : ∃ y_ : List (S34), y_ = (x185000_1 ++ [(⟨t199, t200⟩ : S34)]) := ⟨_, rfl⟩
       replace H : (some (y202, t201)) = some (r1, r2) := by first | (rw [hy202]; with_reducible exact H) | (have H2_ := (Option.bind_some _ _).symm.trans H; rw [hy202]; with_reducible exact H2_) | (have H2_ := (Option.bind_some _ _).symm.trans H; with_reducible exact H2_) | with_reducible exact H | (rw [hy202]; exact H) | exact H
       have Ny202 := Aside0.mk hy202
       clear hy202
       simp only [Option.some.injEq, Prod.mk.injEq] at H
       obtain ⟨rfl, rfl⟩ := H
       try go_wp2_with (first | ((with_reducible refine gate_callee (f := 43) rfl ?_); refine gL (some 26) Tryz.func43 #[.pointer (some ⟨g, 0, none⟩), .int .i64 a1] ?_; (with_reducible refine (spec_l20Rd_odd.calls k1 g s0_0 x1001_1 a1 true t196 w0 _ ?side1 ?side2 A28.out).mono ?_); (case side1 => exact m28_); (case side2 => exact m26_); rintro e w34 ⟨rfl, hi, hb, hk⟩; refine ⟨_, rfl, ?_⟩; replace HO_185000 := Aside0.mk (Kd.R_mono (Kd.R_keep (IsS84.apart (show IsS84 w0 _ g s0_0 x1001_1 from m28_) (rs HO_185000) (by decide)) hk (fun _ h => h.2)) (fun _ h => h.1)); replace BK183 := Aside0.mk (KeepBut.blk hk (g' := gb183) (o := .cells #[.slice none 0 0] 25 (0, 0)) (bk BK183) NB183_0.out (by simp)); replace BK184 := Aside0.mk (KeepBut.blk hk (g' := gb184) (o := .cells #[u185000] 25 (0, 0)) (bk BK184) NB184_0.out (by simp)); replace HK := Aside0.mk (KeepBut.trans m27_ hk (.inl rfl)); replace HB := Aside0.mk hb; replace HI0 := Aside0.mk hi; (try clear hb); (try clear hk); (try clear hi)) | ((with_reducible refine gate_callee (f := 63) rfl ?_); refine gL (some 28) Tryz.func63 #[.pointer (some ⟨g, 0, none⟩), .int .i64 3] ?_; (with_reducible refine (spec_l20Rd_pick.calls k1 g s0_0 t196 3 t197 t198 w0 _ ?side1 ?side2 A30.out).mono ?_); (case side1 => exact m28_); (case side2 => exact m26_); rintro e w35 ⟨rfl, hi, hb, hk⟩; refine ⟨_, rfl, ?_⟩; replace HO_185000 := Aside0.mk (Kd.R_mono (Kd.R_keep (IsS84.apart (show IsS84 w0 _ g s0_0 t196 from m28_) (rs HO_185000) (by decide)) hk (fun _ h => h.2)) (fun _ h => h.1)); replace BK183 := Aside0.mk (KeepBut.blk hk (g' := gb183) (o := .cells #[.slice none 0 0] 25 (0, 0)) (bk BK183) NB183_0.out (by simp)); replace BK184 := Aside0.mk (KeepBut.blk hk (g' := gb184) (o := .cells #[u185000] 25 (0, 0)) (bk BK184) NB184_0.out (by simp)); replace HK := Aside0.mk (KeepBut.trans m27_ hk (.inl rfl)); replace HB := Aside0.mk hb; replace HI0 := Aside0.mk hi; (try clear hb); (try clear hk); (try clear hi)))
       replace HO_185000 := Aside0.mk (Kd.R_drew HO_185000.out)
       replace BK183 := Aside0.mk (blk_drew BK183.out)
       replace BK184 := Aside0.mk (blk_drew BK184.out)
       replace HI0 := Aside0.mk (IsS84.drew HI0.out)
       replace HK := Aside0.mk (keep_drew HK.out)
       replace HB := Aside0.mk (below_drew1 HB.out)
       refine start_ (n := 8) (S := fun w' => w'.cell? ⟨gb184, 0, none⟩ = some (u185000)) (ds := [7]) #[false, false, false, false, false, false, false, false] (by kernel_rfl) rfl rfl (bcell BK184 0) (fun hHeld => ?_); refine with_tabW spec_l20Table.tab12 spec_l20Table.bits12 (fun HT_ HW_ => ?_)
       generalize w35.drew = w36 at HO_185000 BK183 BK184 HI0 HK HB hHeld ⊢
       refine pu_ 0 (some 45) #[true, false, false, false, false, false, false, false] ?_
       refine pu_ 2 (some 47) #[true, false, true, false, false, false, false, false] ?_
       refine take_ (i := 1) (N := some 46) (v := ?_) (a' := ?_) #[true, true, true, false, false, false, false, false] rfl rfl (take_ofW HT_.out HW_.out (by kernel_rfl)) (fun _ _ _ h => h) (Or.inl ⟨by rfl, ?_⟩) hHeld ?_ ?_
       rotate_left
       ·intro w' s0
        go_simp
        with_reducible rfl
       rotate_left
       ·simp only [Act.put, List.setIfInBounds_toArray, List.set_cons_zero, List.set_cons_succ, i64_w, i32_w]
        rfl
       refine on_ 3 (some 48) #[true, true, true, true, false, false, false, false] (fun K hK => ?_)
       refine gR Tryz.func76 #[.pointer (some ⟨g, 0, none⟩)] ?_
       with_reducible refine (spec_l20Out.calls k1 g s0_0 t198 t199 t200 t201 w0 _ ?side1 ?side2 A32.out).mono ?_
       (case side1 => exact m28_)
       (case side2 => exact m26_)
       rintro e w37 ⟨rfl, hi, hb, hk⟩
       refine ⟨_, rfl, ?_⟩
       replace HO_185000 := Aside0.mk (Kd.R_mono (Kd.R_keep (IsS84.apart (show IsS84 w0 _ g s0_0 t198 from m28_) (rs HO_185000) (by decide)) hk (fun _ h => h.2)) (fun _ h => h.1))
       replace BK183 := Aside0.mk (KeepBut.blk hk (g' := gb183) (o := .cells #[.slice none 0 0] 25 (0, 0)) (bk BK183) NB183_0.out (by simp))
       replace BK184 := Aside0.mk (KeepBut.blk hk (g' := gb184) (o := .cells #[u185000] 25 (0, 0)) (bk BK184) NB184_0.out (by simp))
       replace HK := Aside0.mk (KeepBut.trans m27_ hk (.inl rfl))
       replace HB := Aside0.mk hb
       replace HI0 := Aside0.mk hi
       (try clear hb)
       (try clear hb2)
       (try clear hk)
       (try clear hi)
       refine hK.out _ _ (bcell BK184 0) (fun hHeld => ?_)
       clear hK K
       refine nm_ ?_
       refine on_ 4 (some 49) #[true, true, true, true, true, false, false, false] (fun K hK => ?_)
       refine value_ (w1 := ?_) (v := ?_) (by rfl) rfl ?_ ?_
       rotate_left 2
       ·go_simp
        constructor
        ·rfl
        ·rfl
       refine hK.out _ _ ((blk_cell (blk_alloc BK184.out _) 0).trans rfl) (fun hHeld => ?_)
       clear hK K
       refine nm_ ?_
       refine on_ 5 (some 50) #[true, true, true, true, true, true, false, false] (fun K hK => ?_)
       refine Kd.R_append_step k34 w.heap.size (by rfl) (.tmp 46) (.tmp 49) 23 34 (.agg #[(.int .i64 0), (.int .i64 0)]) 16 rfl Tryz.underlying23 info34 rfl (by decide) (by omega) u185000 x185000_1 (⟨t199, t200⟩ : S34) [.int .i64 t199, .int .i64 t200] (fun _ => True) (fun _ => False) rfl rfl ?aP (fun _ hk => hk.elim) ?aF ?aO (Below.refl _ _) ?aS ?aL ?_
       (case aP => exact k34_mkM _ _ _ (⟨t199, t200⟩ : S34))
       (case aF => exact (fun _ _ => trivial))
       (case aO => exact (rs HO_185000))
       (case aS => exact (keep_size (w := w) (g := g) (row := none) m27_))
       (case aL => have := LMc33.out; omega)
       intro v203 w38 ho hb hg hat
       rw [← Ny202.out] at ho
       replace BK183 := Aside0.mk (blk_grown (g := gb183) (o := .cells #[.slice none 0 0] 25 (0, 0)) (bk BK183) hg (Kd.R_ne HO_185000.out BK183.out (by decide)))
       replace BK184 := Aside0.mk (blk_grown (g := gb184) (o := .cells #[u185000] 25 (0, 0)) (bk BK184) hg (Kd.R_ne HO_185000.out BK184.out (by decide)))
       replace HB := Aside0.mk (below_weaken m26_ HL.out hb)
       replace HI0 := Aside0.mk (IsS84.grown m28_ hg (IsS84.own_ne HI0.out HO_185000.out (by decide)))
       replace HK := Aside0.mk (KeepBut.trans m27_ (KeepBut.of_grown hg g) (Kd.R_base2 HO_185000.out))
       have HO204 := Aside0.mk (ho)
       clear HO_185000
       clear ho hb hg hat
       obtain ⟨Ao39, co39, eo39⟩ := Kd.R_slice HO204.out
       (first | subst eo39 | (injection eo39 with f1_ f2_ f3_; have f4_ := f1_.symm; have f5_ := f3_.symm; clear f1_ f2_ f3_; subst f4_; subst f5_))
       refine hK.out _ _ (bcell BK184 0) (fun hHeld => ?_)
       clear hK K
       refine nm_ ?_
       refine pu_ 6 (some 51) #[true, true, true, true, true, true, true, false] ?_
       refine last_ (i := 7) (N := none) #[true, true, true, true, true, true, true, true] rfl rfl (one_of HT_.out (by kernel_rfl)) (by decide) (fun K hK => ?_)
       have hs40 : w38.cell? ⟨gb184, 0, none⟩ = some (u185000) := bcell BK184 0
       have hfs40 := blk_frozen BK184.out 0
       have hns40_0 := NB183_184.out
       have hms40_0 := NB184_183.out
       refine skip_ (w1 := ?_) (by rfl) rfl ?_ ?_
       rotate_left
       ·go_simp
        rfl
       refine hK.out _ _ ?_
       clear hK K
       refine done_ (done_of HT_.out (by kernel_rfl)) ?_
       have hnb41 := NB184_183.out
       have hnc41 := NB183_184.out
       have hnb42 := NB184_0.out
       have hnc42 := NB0_184.out
       have hcz43_0 := bcell BK184 0
       have hfz43_0 := blk_frozen BK184.out 0
       have hnb44 := NB183_0.out
       have hnc44 := NB0_183.out
       have hcz45_0 := bcell BK183 0
       have hfz45_0 := blk_frozen BK183.out 0
       try go_wp2
       refine bodyPost_ret (results_cell_row rfl _ _ gb183 25 #[.slice Ao39 y202.length co39] (0, 0) _ rfl (by (with_reducible repeat refine bu ?_); refine blk_put (cs := #[.slice none 0 0]) ?_ 0 _ rfl; (with_reducible repeat refine bu ?_); refine blk_far ?_ NB183_184.out _; (with_reducible repeat refine bu ?_); exact BK183.out) Tryz.underlying25 rfl (by kernel_rfl)) rfl ?_
       exact ⟨_, fi_, by (with_reducible repeat apply ru); exact Kd.R_mono (Kd.R_far (p := ⟨gb183, 0, none⟩) (Kd.R_far (p := ⟨gb184, 0, none⟩) (Kd.R_types (Kd.R_types HO204.out BK184.out (by decide)) BK183.out (by decide)) (fun _ hk => hk.1.2) (.slice Ao39 y202.length co39)) (fun _ hk => hk.2) (.slice Ao39 y202.length co39)) (fun _ hk => trivial), m28_, m26_, m27_⟩
      ·rw [if_neg c33] at H
       exact absurd H (by simp)
     ·rw [if_neg c31] at H
      have c31b0 : (t197 == 0) = false := beq_eq_false_iff_ne.mpr c31
      have c31b1 : (t197 != 0) = true := bne_iff_ne.mpr c31
      by_cases c46 : t197 = 1
      ·rw [if_pos c46] at H
       have c46b0 : (t197 == 1) = true := beq_iff_eq.mpr c46
       have c46b1 : (t197 != 1) = false := bne_eq_false_iff_eq.mpr c46
       clear c46
       by_cases c47 : x185000_1.length < 8796093022208
       ·rw [if_pos c47] at H
        have LMc47 := Aside0.mk c47
        clear c47
        obtain ⟨y205, hy205⟩ : ∃ y_ : List (S34), y_ = (x185000_1 ++ [(⟨9, 9⟩ : S34)]) := ⟨_, rfl⟩
        replace H : (if y205.length < 8796093022208 then (some ((y205 ++ [(⟨9, 9⟩ : S34)]), t198)) else (none)) = some (r1, r2) := by first | (rw [hy205]; with_reducible exact H) | (have H2_ := (Option.bind_some _ _).symm.trans H; rw [hy205]; with_reducible exact H2_) | (have H2_ := (Option.bind_some _ _).symm.trans H; with_reducible exact H2_) | with_reducible exact H | (rw [hy205]; exact H) | exact H
        have Ny205 := Aside0.mk hy205
        clear hy205
        by_cases c48 : y205.length < 8796093022208
        ·rw [if_pos c48] at H
         have LMc48 := Aside0.mk c48
         clear c48
         obtain ⟨y208, hy208⟩ : ∃ y_ : List (S34), y_ = (y205 ++ [(⟨9, 9⟩ : S34)]) := ⟨_, rfl⟩
         replace H : (some (y208, t198)) = some (r1, r2) := by first | (rw [hy208]; with_reducible exact H) | (have H2_ := (Option.bind_some _ _).symm.trans H; rw [hy208]; with_reducible exact H2_) | (have H2_ := (Option.bind_some _ _).symm.trans H; with_reducible exact H2_) | with_reducible exact H | (rw [hy208]; exact H) | exact H
         have Ny208 := Aside0.mk hy208
         clear hy208
         simp only [Option.some.injEq, Prod.mk.injEq] at H
         obtain ⟨rfl, rfl⟩ := H
         go_wp2_with (first | ((with_reducible refine gate_callee (f := 43) rfl ?_); refine gL (some 26) Tryz.func43 #[.pointer (some ⟨g, 0, none⟩), .int .i64 a1] ?_; (with_reducible refine (spec_l20Rd_odd.calls k1 g s0_0 x1001_1 a1 true t196 w0 _ ?side1 ?side2 A28.out).mono ?_); (case side1 => exact m28_); (case side2 => exact m26_); rintro e w49 ⟨rfl, hi, hb, hk⟩; refine ⟨_, rfl, ?_⟩; replace HO_185000 := Aside0.mk (Kd.R_mono (Kd.R_keep (IsS84.apart (show IsS84 w0 _ g s0_0 x1001_1 from m28_) (rs HO_185000) (by decide)) hk (fun _ h => h.2)) (fun _ h => h.1)); replace BK183 := Aside0.mk (KeepBut.blk hk (g' := gb183) (o := .cells #[.slice none 0 0] 25 (0, 0)) (bk BK183) NB183_0.out (by simp)); replace BK184 := Aside0.mk (KeepBut.blk hk (g' := gb184) (o := .cells #[u185000] 25 (0, 0)) (bk BK184) NB184_0.out (by simp)); replace HK := Aside0.mk (KeepBut.trans m27_ hk (.inl rfl)); replace HB := Aside0.mk hb; replace HI0 := Aside0.mk hi; (try clear hb); (try clear hk); (try clear hi)) | ((with_reducible refine gate_callee (f := 63) rfl ?_); refine gL (some 28) Tryz.func63 #[.pointer (some ⟨g, 0, none⟩), .int .i64 3] ?_; (with_reducible refine (spec_l20Rd_pick.calls k1 g s0_0 t196 3 t197 t198 w0 _ ?side1 ?side2 A30.out).mono ?_); (case side1 => exact m28_); (case side2 => exact m26_); rintro e w50 ⟨rfl, hi, hb, hk⟩; refine ⟨_, rfl, ?_⟩; replace HO_185000 := Aside0.mk (Kd.R_mono (Kd.R_keep (IsS84.apart (show IsS84 w0 _ g s0_0 t196 from m28_) (rs HO_185000) (by decide)) hk (fun _ h => h.2)) (fun _ h => h.1)); replace BK183 := Aside0.mk (KeepBut.blk hk (g' := gb183) (o := .cells #[.slice none 0 0] 25 (0, 0)) (bk BK183) NB183_0.out (by simp)); replace BK184 := Aside0.mk (KeepBut.blk hk (g' := gb184) (o := .cells #[u185000] 25 (0, 0)) (bk BK184) NB184_0.out (by simp)); replace HK := Aside0.mk (KeepBut.trans m27_ hk (.inl rfl)); replace HB := Aside0.mk hb; replace HI0 := Aside0.mk hi; (try clear hb); (try clear hk); (try clear hi); have hnb51 := NB184_183.out; have hnc51 := NB183_184.out; have hnb52 := NB184_0.out; have hnc52 := NB0_184.out; have hcz53_0 := bcell BK184 0; have hfz53_0 := blk_frozen BK184.out 0) | ((with_reducible refine gate_builtin (b := .append) (xs := #[.tmp 55, .tmp 57]) rfl ?_); at_builtin; refine Kd.R_append k34 w.heap.size rfl (.tmp 55) (.tmp 57) 23 34 (.agg #[(.int .i64 0), (.int .i64 0)]) 16 rfl Tryz.underlying23 info34 rfl (by decide) (by omega) u185000 x185000_1 (⟨9, 9⟩ : S34) [.int .i64 9, .int .i64 9] (fun _ => True) (fun _ => False) rfl rfl ?aP (fun _ hk => hk.elim) ?aF ?aO (Below.refl _ _) ?aS ?aL ?_; (case aP => exact k34_mkM _ _ _ (⟨9, 9⟩ : S34)); (case aF => exact (fun _ _ => trivial)); (case aO => exact (rs HO_185000)); (case aS => exact (keep_size (w := w) (g := g) (row := none) m27_)); (case aL => have := LMc47.out; omega); intro v206 w54 ho hb hg hat; rw [← Ny205.out] at ho; replace BK183 := Aside0.mk (blk_grown (g := gb183) (o := .cells #[.slice none 0 0] 25 (0, 0)) (bk BK183) hg (Kd.R_ne HO_185000.out BK183.out (by decide))); replace BK184 := Aside0.mk (blk_grown (g := gb184) (o := .cells #[u185000] 25 (0, 0)) (bk BK184) hg (Kd.R_ne HO_185000.out BK184.out (by decide))); replace HB := Aside0.mk (below_weaken m26_ HL.out hb); replace HI0 := Aside0.mk (IsS84.grown m28_ hg (IsS84.own_ne HI0.out HO_185000.out (by decide))); replace HK := Aside0.mk (KeepBut.trans m27_ (KeepBut.of_grown hg g) (Kd.R_base2 HO_185000.out)); have HO207 := Aside0.mk (ho); clear HO_185000; clear ho hb hg hat) | ((with_reducible refine gate_builtin (b := .append) (xs := #[.tmp 58, .tmp 60]) rfl ?_); at_builtin; refine Kd.R_append k34 w.heap.size rfl (.tmp 58) (.tmp 60) 23 34 (.agg #[(.int .i64 0), (.int .i64 0)]) 16 rfl Tryz.underlying23 info34 rfl (by decide) (by omega) v206 y205 (⟨9, 9⟩ : S34) [.int .i64 9, .int .i64 9] (fun _ => True) (fun _ => False) rfl rfl ?aP (fun _ hk => hk.elim) ?aF ?aO (Below.refl _ _) ?aS ?aL ?_; (case aP => exact k34_mkM _ _ _ (⟨9, 9⟩ : S34)); (case aF => exact (fun _ _ => trivial)); (case aO => exact (rs HO207)); (case aS => exact (keep_size (w := w) (g := g) (row := none) m27_)); (case aL => have := LMc48.out; omega); intro v209 w55 ho hb hg hat; rw [← Ny208.out] at ho; replace BK183 := Aside0.mk (blk_grown (g := gb183) (o := .cells #[.slice none 0 0] 25 (0, 0)) (bk BK183) hg (Kd.R_ne HO207.out BK183.out (by decide))); replace BK184 := Aside0.mk (blk_grown (g := gb184) (o := .cells #[u185000] 25 (0, 0)) (bk BK184) hg (Kd.R_ne HO207.out BK184.out (by decide))); replace HB := Aside0.mk (below_weaken m26_ HL.out hb); replace HI0 := Aside0.mk (IsS84.grown m28_ hg (IsS84.own_ne HI0.out HO207.out (by decide))); replace HK := Aside0.mk (KeepBut.trans m27_ (KeepBut.of_grown hg g) (Kd.R_base2 HO207.out)); have HO210 := Aside0.mk (ho); clear HO207; clear ho hb hg hat; obtain ⟨Ao56, co56, eo56⟩ := Kd.R_slice HO210.out; subst eo56; have hcz57_0 := bcell BK184 0; have hfz57_0 := blk_frozen BK184.out 0; have hnb58 := NB183_0.out; have hnc58 := NB0_183.out; have hcz59_0 := bcell BK183 0; have hfz59_0 := blk_frozen BK183.out 0))
         refine bodyPost_ret (results_cell_row rfl _ _ gb183 25 #[.slice Ao56 y208.length co56] (0, 0) _ rfl (by (with_reducible repeat refine bu ?_); refine blk_put (cs := #[.slice none 0 0]) ?_ 0 _ rfl; (with_reducible repeat refine bu ?_); refine blk_far ?_ NB183_184.out _; (with_reducible repeat refine bu ?_); exact BK183.out) Tryz.underlying25 rfl (by kernel_rfl)) rfl ?_
         exact ⟨_, fi_, by (with_reducible repeat apply ru); exact Kd.R_mono (Kd.R_far (p := ⟨gb183, 0, none⟩) (Kd.R_far (p := ⟨gb184, 0, none⟩) (Kd.R_types (Kd.R_types HO210.out BK184.out (by decide)) BK183.out (by decide)) (fun _ hk => hk.1.2) (.slice Ao56 y208.length co56)) (fun _ hk => hk.2) (.slice Ao56 y208.length co56)) (fun _ hk => trivial), m28_, m26_, m27_⟩
        ·rw [if_neg c48] at H
         exact absurd H (by simp)
       ·rw [if_neg c47] at H
        exact absurd H (by simp)
      ·rw [if_neg c46] at H
       have c46b0 : (t197 == 1) = false := beq_eq_false_iff_ne.mpr c46
       have c46b1 : (t197 != 1) = true := bne_iff_ne.mpr c46
       have H' := Aside0.mk H
       clear H
       go_wp2_with (first | ((with_reducible refine gate_callee (f := 43) rfl ?_); refine gL (some 26) Tryz.func43 #[.pointer (some ⟨g, 0, none⟩), .int .i64 a1] ?_; (with_reducible refine (spec_l20Rd_odd.calls k1 g s0_0 x1001_1 a1 true t196 w0 _ ?side1 ?side2 A28.out).mono ?_); (case side1 => exact m28_); (case side2 => exact m26_); rintro e w60 ⟨rfl, hi, hb, hk⟩; refine ⟨_, rfl, ?_⟩; replace HO_185000 := Aside0.mk (Kd.R_mono (Kd.R_keep (IsS84.apart (show IsS84 w0 _ g s0_0 x1001_1 from m28_) (rs HO_185000) (by decide)) hk (fun _ h => h.2)) (fun _ h => h.1)); replace BK183 := Aside0.mk (KeepBut.blk hk (g' := gb183) (o := .cells #[.slice none 0 0] 25 (0, 0)) (bk BK183) NB183_0.out (by simp)); replace BK184 := Aside0.mk (KeepBut.blk hk (g' := gb184) (o := .cells #[u185000] 25 (0, 0)) (bk BK184) NB184_0.out (by simp)); replace HK := Aside0.mk (KeepBut.trans m27_ hk (.inl rfl)); replace HB := Aside0.mk hb; replace HI0 := Aside0.mk hi; (try clear hb); (try clear hk); (try clear hi)) | ((with_reducible refine gate_callee (f := 63) rfl ?_); refine gL (some 28) Tryz.func63 #[.pointer (some ⟨g, 0, none⟩), .int .i64 3] ?_; (with_reducible refine (spec_l20Rd_pick.calls k1 g s0_0 t196 3 t197 t198 w0 _ ?side1 ?side2 A30.out).mono ?_); (case side1 => exact m28_); (case side2 => exact m26_); rintro e w61 ⟨rfl, hi, hb, hk⟩; refine ⟨_, rfl, ?_⟩; replace HO_185000 := Aside0.mk (Kd.R_mono (Kd.R_keep (IsS84.apart (show IsS84 w0 _ g s0_0 t196 from m28_) (rs HO_185000) (by decide)) hk (fun _ h => h.2)) (fun _ h => h.1)); replace BK183 := Aside0.mk (KeepBut.blk hk (g' := gb183) (o := .cells #[.slice none 0 0] 25 (0, 0)) (bk BK183) NB183_0.out (by simp)); replace BK184 := Aside0.mk (KeepBut.blk hk (g' := gb184) (o := .cells #[u185000] 25 (0, 0)) (bk BK184) NB184_0.out (by simp)); replace HK := Aside0.mk (KeepBut.trans m27_ hk (.inl rfl)); replace HB := Aside0.mk hb; replace HI0 := Aside0.mk hi; (try clear hb); (try clear hk); (try clear hi)))
       go_loopg [] k1 (fun kq w' => ∃ (x185000_2 : List (S34)) (u185000 : Value), Aside0 (spec_l20Table.l1 kq s0_0 t198 x185000_2 = some (r1, r2)) ∧ Aside0 (kq ≤ k1) ∧ Aside0 (Kd.R k34 34 w' w.heap.size (fun _ => True) u185000 x185000_2) ∧ Aside0 (w'.heap[gb183]? = some (.cells #[(.slice none 0 0)] 25 (0, 0))) ∧ Aside0 (w'.heap[gb184]? = some (.cells #[u185000] 25 (0, 0))) ∧ Aside0 (IsS84 w0 w' g s0_0 t198) ∧ Aside0 (KeepBut w w' g none) ∧ Aside0 (Below w0.heap.size w0 w'))
       case atStart => exact ⟨(x185000_1), (u185000), H', ⟨Nat.le_refl _⟩, ⟨by (with_reducible repeat apply ru); exact HO_185000.out⟩, ⟨bk BK183⟩, ⟨bk BK184⟩, ⟨m28_⟩, ⟨m27_⟩, ⟨m26_⟩⟩
       case round =>
        clear H'
        try clear c1
        try clear c2
        try clear p2
        try clear c3
        try clear c4
        try clear c5
        try clear c6
        try clear p6
        try clear c7
        try clear c10
        try clear c10b0
        try clear c21
        try clear c22
        try clear c23
        try clear c25
        try clear c26
        try clear c29
        try clear c31
        try clear c31b0
        try clear c31b1
        try clear c33
        try clear c41
        try clear c42
        try clear c43
        try clear c44
        try clear c46
        try clear c46b0
        try clear c46b1
        try clear c47
        try clear c48
        try clear c51
        try clear c52
        try clear c58
        try clear hcz24_0
        try clear hcz27_0
        try clear hcz43_0
        try clear hcz45_0
        try clear hcz53_0
        try clear hcz57_0
        try clear hcz59_0
        try clear hfz24_0
        try clear hfz27_0
        try clear hfz43_0
        try clear hfz45_0
        try clear hfz53_0
        try clear hfz57_0
        try clear hfz59_0
        obtain ⟨x185000_2, u185000, HA, HK2, HO_185000, BK183, BK184, HI0, HK, HB⟩ := hrel
        cases gk with
        | zero => exact absurd HA.out (by simp [spec_l20Table.l1])
        | succ k2 =>
         have H := HA.out
         clear HA
         simp only [spec_l20Table.l1] at H
         by_cases c62 : (x185000_2.length : Int) ≤ 6
         ·rw [if_pos c62] at H
          have c62b0 : decide ((x185000_2.length : Int) ≤ 6) = true := decide_eq_true c62
          have c62b1 : decide (x185000_2.length ≤ 6) = true := decide_eq_true (by omega)
          clear c62
          by_cases c63 : x185000_2.length < 8796093022208
          ·rw [if_pos c63] at H
           have LMc63 := Aside0.mk c63
           clear c63
           obtain ⟨y211, hy211⟩ : ∃ y_ : List (S34), y_ = (x185000_2 ++ [(⟨8, wrap64 (1 + (x185000_2.length : Int))⟩ : S34)]) := ⟨_, rfl⟩
           replace H : (spec_l20Table.l1 k2 s0_0 t198 y211) = some (r1, r2) := by first | (rw [hy211]; with_reducible exact H) | (have H2_ := (Option.bind_some _ _).symm.trans H; rw [hy211]; with_reducible exact H2_) | (have H2_ := (Option.bind_some _ _).symm.trans H; with_reducible exact H2_) | with_reducible exact H | (rw [hy211]; exact H) | exact H
           have Ny211 := Aside0.mk hy211
           clear hy211
           have H' := Aside0.mk H
           clear H
           have hnb64 := NB184_183.out
           have hnc64 := NB183_184.out
           have hnb65 := NB184_0.out
           have hnc65 := NB0_184.out
           have hcz66_0 := bcell BK184 0
           have hfz66_0 := blk_frozen BK184.out 0
           obtain ⟨Ao67, co67, eo67⟩ := Kd.R_slice HO_185000.out
           subst eo67
           go_wp2_with (first | ((with_reducible refine gate_builtin (b := .append) (xs := #[.tmp 34, .tmp 40]) rfl ?_); at_builtin; refine Kd.R_append k34 w.heap.size rfl (.tmp 34) (.tmp 40) 23 34 (.agg #[(.int .i64 0), (.int .i64 0)]) 16 rfl Tryz.underlying23 info34 rfl (by decide) (by omega) (.slice Ao67 x185000_2.length co67) x185000_2 (⟨8, wrap64 (1 + (x185000_2.length : Int))⟩ : S34) [.int .i64 8, .int .i64 (wrap64 (1 + (x185000_2.length : Int)))] (fun _ => True) (fun _ => False) rfl rfl ?aP (fun _ hk => hk.elim) ?aF ?aO (Below.refl _ _) ?aS ?aL ?_; (case aP => exact k34_mkM _ _ _ (⟨8, wrap64 (1 + (x185000_2.length : Int))⟩ : S34)); (case aF => exact (fun _ _ => trivial)); (case aO => exact (rs HO_185000)); (case aS => exact (keep_size (w := w) (g := g) (row := none) m27_)); (case aL => have := LMc63.out; omega); intro v212 w68 ho hb hg hat; rw [← Ny211.out] at ho; replace BK183 := Aside0.mk (blk_grown (g := gb183) (o := .cells #[.slice none 0 0] 25 (0, 0)) (bk BK183) hg (Kd.R_ne HO_185000.out BK183.out (by decide))); replace BK184 := Aside0.mk (blk_grown (g := gb184) (o := .cells #[.slice Ao67 x185000_2.length co67] 25 (0, 0)) (bk BK184) hg (Kd.R_ne HO_185000.out BK184.out (by decide))); replace HB := Aside0.mk (below_weaken m26_ HL.out hb); replace HI0 := Aside0.mk (IsS84.grown m28_ hg (IsS84.own_ne HI0.out HO_185000.out (by decide))); replace HK := Aside0.mk (KeepBut.trans m27_ (KeepBut.of_grown hg g) (Kd.R_base2 HO_185000.out)); have HO213 := Aside0.mk (ho); clear HO_185000; clear ho hb hg hat; obtain ⟨Ao69, co69, eo69⟩ := Kd.R_slice HO213.out; subst eo69; have hcz70_0 := bcell BK184 0; have hfz70_0 := blk_frozen BK184.out 0))
           go_roundg k2
           case measure => have := HK1.out; have := HK2.out; omega
           case rel => exact ⟨(y211), (.slice Ao69 y211.length co69), H', ⟨by have := HK1.out; have := HK2.out; omega⟩, ⟨by (with_reducible repeat apply ru); exact Kd.R_mono (Kd.R_far (p := ⟨gb184, 0, none⟩) (Kd.R_types HO213.out BK184.out (by decide)) (fun _ hk => hk.2) (.slice Ao69 y211.length co69)) (fun _ hk => trivial)⟩, ⟨by (with_reducible repeat refine bu ?_); refine blk_far ?_ NB183_184.out _; (with_reducible repeat refine bu ?_); exact BK183.out⟩, ⟨by (with_reducible repeat refine bu ?_); refine blk_put (cs := #[.slice Ao67 x185000_2.length co67]) ?_ 0 _ rfl; (with_reducible repeat refine bu ?_); exact BK184.out⟩, ⟨m28_⟩, ⟨m27_⟩, ⟨m26_⟩⟩
          ·rw [if_neg c63] at H
           exact absurd H (by simp)
         ·rw [if_neg c62] at H
          have c62b0 : decide ((x185000_2.length : Int) ≤ 6) = false := decide_eq_false c62
          have c62b1 : decide (x185000_2.length ≤ 6) = false := decide_eq_false (by omega)
          clear c62
          simp only [Option.some.injEq, Prod.mk.injEq] at H
          obtain ⟨rfl, rfl⟩ := H
          have hnb71 := NB184_183.out
          have hnc71 := NB183_184.out
          have hnb72 := NB184_0.out
          have hnc72 := NB0_184.out
          have hcz73_0 := bcell BK184 0
          have hfz73_0 := blk_frozen BK184.out 0
          obtain ⟨Ao74, co74, eo74⟩ := Kd.R_slice HO_185000.out
          subst eo74
          have hnb75 := NB183_0.out
          have hnc75 := NB0_183.out
          have hcz76_0 := bcell BK183 0
          have hfz76_0 := blk_frozen BK183.out 0
          go_wp2
          refine bodyPost_ret (results_cell_row rfl _ _ gb183 25 #[.slice Ao74 x185000_2.length co74] (0, 0) _ rfl (by (with_reducible repeat refine bu ?_); refine blk_put (cs := #[.slice none 0 0]) ?_ 0 _ rfl; (with_reducible repeat refine bu ?_); exact BK183.out) Tryz.underlying25 rfl (by kernel_rfl)) rfl ?_
          exact ⟨_, fi_, by (with_reducible repeat apply ru); exact Kd.R_mono (Kd.R_far (p := ⟨gb183, 0, none⟩) (Kd.R_types HO_185000.out BK183.out (by decide)) (fun _ hk => hk.2) (.slice Ao74 x185000_2.length co74)) (fun _ hk => trivial), m28_, m26_, m27_⟩
    ·replace c29 := Bool.eq_false_iff.mpr c29
     subst c29
     have H1 : (some (x185000_1, t196)) = some (r1, r2) := by rw [if_neg (show ¬ (false = true) by decide)] at H; exact H
     clear H
     have H := H1
     clear H1
     simp only [Option.some.injEq, Prod.mk.injEq] at H
     obtain ⟨rfl, rfl⟩ := H
     go_wp2_with (first | ((with_reducible refine gate_callee (f := 43) rfl ?_); refine gL (some 26) Tryz.func43 #[.pointer (some ⟨g, 0, none⟩), .int .i64 a1] ?_; (with_reducible refine (spec_l20Rd_odd.calls k1 g s0_0 x1001_1 a1 false t196 w0 _ ?side1 ?side2 A28.out).mono ?_); (case side1 => exact m28_); (case side2 => exact m26_); rintro e w77 ⟨rfl, hi, hb, hk⟩; refine ⟨_, rfl, ?_⟩; replace HO_185000 := Aside0.mk (Kd.R_mono (Kd.R_keep (IsS84.apart (show IsS84 w0 _ g s0_0 x1001_1 from m28_) (rs HO_185000) (by decide)) hk (fun _ h => h.2)) (fun _ h => h.1)); replace BK183 := Aside0.mk (KeepBut.blk hk (g' := gb183) (o := .cells #[.slice none 0 0] 25 (0, 0)) (bk BK183) NB183_0.out (by simp)); replace BK184 := Aside0.mk (KeepBut.blk hk (g' := gb184) (o := .cells #[u185000] 25 (0, 0)) (bk BK184) NB184_0.out (by simp)); replace HK := Aside0.mk (KeepBut.trans m27_ hk (.inl rfl)); replace HB := Aside0.mk hb; replace HI0 := Aside0.mk hi; (try clear hb); (try clear hk); (try clear hi); have hnb78 := NB184_183.out; have hnc78 := NB183_184.out; have hnb79 := NB184_0.out; have hnc79 := NB0_184.out; have hcz80_0 := bcell BK184 0; have hfz80_0 := blk_frozen BK184.out 0; obtain ⟨Ao81, co81, eo81⟩ := Kd.R_slice HO_185000.out; subst eo81; have hnb82 := NB183_0.out; have hnc82 := NB0_183.out; have hcz83_0 := bcell BK183 0; have hfz83_0 := blk_frozen BK183.out 0))
     refine bodyPost_ret (results_cell_row rfl _ _ gb183 25 #[.slice Ao81 x185000_1.length co81] (0, 0) _ rfl (by (with_reducible repeat refine bu ?_); refine blk_put (cs := #[.slice none 0 0]) ?_ 0 _ rfl; (with_reducible repeat refine bu ?_); exact BK183.out) Tryz.underlying25 rfl (by kernel_rfl)) rfl ?_
     exact ⟨_, fi_, by (with_reducible repeat apply ru); exact Kd.R_mono (Kd.R_far (p := ⟨gb183, 0, none⟩) (Kd.R_types HO_185000.out BK183.out (by decide)) (fun _ hk => hk.2) (.slice Ao81 x185000_1.length co81)) (fun _ hk => trivial), m28_, m26_, m27_⟩
def spec_EndOutside.f (a0_0 : Int) (a0_1 : Int) : Option (Bool) := (spec_l1In.f a0_0 100 109).bind fun t215 => (if t215 = true then ((spec_l1In.f a0_1 1 999).bind fun t216 => (some t216)) else (some false))
set_option maxHeartbeats 8000000 in
set_option maxRecDepth 100000 in
theorem spec_EndOutside.calls (a0_0 : Int) (a0_1 : Int) (r : Bool) (w : World) (h : spec_EndOutside.f a0_0 a0_1 = some r) :
  Calls Tryz.prog 113 #[.agg #[.int .i64 a0_0, .int .i64 a0_1]] w fun e w' => e = .returned (.bool r) ∧ Below w.heap.size w w' := by
 have hu34 := Tryz.underlying34
 have HB := Aside0.mk (Below.refl w.heap.size w)
 have H : ((spec_l1In.f a0_0 100 109).bind fun t215 => (if t215 = true then ((spec_l1In.f a0_1 1 999).bind fun t216 => (some t216)) else (some false))) = some r := h
 clear h
 replace H := Option.bind_eq_some_iff.mp H
 obtain ⟨t215, A20, H⟩ := H
 try dsimp only at H
 have A2 := Aside0.mk A20
 clear A20
 by_cases c3 : t215 = true
 ·subst c3
  have H1 : ((spec_l1In.f a0_1 1 999).bind fun t216 => (some t216)) = some r := by rw [if_pos rfl] at H; exact H
  clear H
  have H := H1
  clear H1
  replace H := Option.bind_eq_some_iff.mp H
  obtain ⟨t216, A40, H⟩ := H
  try dsimp only at H
  have A4 := Aside0.mk A40
  clear A40
  obtain rfl := Option.some.inj H
  go_enter Tryz.func113, Tryz.ntmps113
  go_wp2_with (first | ((with_reducible refine gate_dst (N := 1) rfl ?_); refine box_event rfl (N := 1) rfl (cs := #[.int .i64 a0_0, .int .i64 a0_1]) (t := 34) hr_ ?_; intro gb214 hg w5 hbox hb; have BK214 := Aside0.mk hbox; have GW214 := gwE HB hg; have GE214 := gwE HB hg; replace HB := hbS HB hb; clear hb hbox hg; have hcz6_0 := bcell BK214 0; have hcz6_1 := bcell BK214 1; have hfz6_0 := blk_frozen BK214.out 0; have hfz6_1 := blk_frozen BK214.out 1) | ((with_reducible refine gate_callee (f := 81) rfl ?_); refine gL (some 5) Tryz.func81 #[.int .i64 a0_0, .int .i64 100, .int .i64 109] ?_; (with_reducible refine (spec_l1In.calls a0_0 100 109 true _ A2.out).mono ?_); rintro e w' ⟨rfl, ⟨nd, rfl⟩⟩; refine ⟨_, rfl, ?_⟩) | (go_at_call 81; (with_reducible refine (spec_l1In.calls a0_1 1 999 t216 _ A4.out).mono ?_); rintro e w' ⟨rfl, ⟨nd, rfl⟩⟩))
  go_ret
  exact ⟨fi_, m2_⟩
 ·replace c3 := Bool.eq_false_iff.mpr c3
  subst c3
  have H1 : (some false) = some r := by rw [if_neg (show ¬ (false = true) by decide)] at H; exact H
  clear H
  have H := H1
  clear H1
  obtain rfl := Option.some.inj H
  go_enter Tryz.func113, Tryz.ntmps113
  go_wp2_with (first | ((with_reducible refine gate_dst (N := 1) rfl ?_); refine box_event rfl (N := 1) rfl (cs := #[.int .i64 a0_0, .int .i64 a0_1]) (t := 34) hr_ ?_; intro gb214 hg w7 hbox hb; have BK214 := Aside0.mk hbox; have GW214 := gwE HB hg; have GE214 := gwE HB hg; replace HB := hbS HB hb; clear hb hbox hg; have hcz8_0 := bcell BK214 0; have hcz8_1 := bcell BK214 1; have hfz8_0 := blk_frozen BK214.out 0; have hfz8_1 := blk_frozen BK214.out 1) | ((with_reducible refine gate_callee (f := 81) rfl ?_); refine gL (some 5) Tryz.func81 #[.int .i64 a0_0, .int .i64 100, .int .i64 109] ?_; (with_reducible refine (spec_l1In.calls a0_0 100 109 false _ A2.out).mono ?_); rintro e w' ⟨rfl, ⟨nd, rfl⟩⟩; refine ⟨_, rfl, ?_⟩))
  go_ret
  exact ⟨fi_, m2_⟩
def spec_EndOk.f (a0_0 : Int) (a0_1 : Int) : Option (Bool) := (spec_EndInside.f a0_0 a0_1).bind fun t218 => (if t218 = true then (some true) else ((spec_EndOutside.f a0_0 a0_1).bind fun t219 => (if t219 = true then (some true) else (if a0_0 = 50 then ((spec_l1In.f a0_1 1 999).bind fun t220 => (some t220)) else (some false)))))
set_option maxHeartbeats 8000000 in
set_option maxRecDepth 100000 in
theorem spec_EndOk.calls (a0_0 : Int) (a0_1 : Int) (r : Bool) (w : World) (h : spec_EndOk.f a0_0 a0_1 = some r) :
  Calls Tryz.prog 92 #[.agg #[.int .i64 a0_0, .int .i64 a0_1]] w fun e w' => e = .returned (.bool r) ∧ Below w.heap.size w w' := by
 have hu34 := Tryz.underlying34
 have HB := Aside0.mk (Below.refl w.heap.size w)
 have H : ((spec_EndInside.f a0_0 a0_1).bind fun t218 => (if t218 = true then (some true) else ((spec_EndOutside.f a0_0 a0_1).bind fun t219 => (if t219 = true then (some true) else (if a0_0 = 50 then ((spec_l1In.f a0_1 1 999).bind fun t220 => (some t220)) else (some false)))))) = some r := h
 clear h
 replace H := Option.bind_eq_some_iff.mp H
 obtain ⟨t218, A20, H⟩ := H
 try dsimp only at H
 have A2 := Aside0.mk A20
 clear A20
 by_cases c3 : t218 = true
 ·subst c3
  have H1 : (some true) = some r := by rw [if_pos rfl] at H; exact H
  clear H
  have H := H1
  clear H1
  obtain rfl := Option.some.inj H
  go_enter Tryz.func92, Tryz.ntmps92
  go_wp2_with (first | ((with_reducible refine gate_dst (N := 1) rfl ?_); refine box_event rfl (N := 1) rfl (cs := #[.int .i64 a0_0, .int .i64 a0_1]) (t := 34) hr_ ?_; intro gb217 hg w4 hbox hb; have BK217 := Aside0.mk hbox; have GW217 := gwE HB hg; have GE217 := gwE HB hg; replace HB := hbS HB hb; clear hb hbox hg; have hcz5_0 := bcell BK217 0; have hcz5_1 := bcell BK217 1; have hfz5_0 := blk_frozen BK217.out 0; have hfz5_1 := blk_frozen BK217.out 1) | ((with_reducible refine gate_callee (f := 48) rfl ?_); refine gL (some 4) Tryz.func48 #[.agg #[.int .i64 a0_0, .int .i64 a0_1]] ?_; (with_reducible refine (spec_EndInside.calls a0_0 a0_1 true _ A2.out).mono ?_); rintro e w6 ⟨rfl, hb⟩; refine ⟨_, rfl, ?_⟩; replace BK217 := bkB BK217 hb; replace HB := hbS HB hb; (try clear hb)))
  go_ret
  exact ⟨fi_, m2_⟩
 ·replace c3 := Bool.eq_false_iff.mpr c3
  subst c3
  have H1 : ((spec_EndOutside.f a0_0 a0_1).bind fun t219 => (if t219 = true then (some true) else (if a0_0 = 50 then ((spec_l1In.f a0_1 1 999).bind fun t220 => (some t220)) else (some false)))) = some r := by rw [if_neg (show ¬ (false = true) by decide)] at H; exact H
  clear H
  have H := H1
  clear H1
  replace H := Option.bind_eq_some_iff.mp H
  obtain ⟨t219, A70, H⟩ := H
  try dsimp only at H
  have A7 := Aside0.mk A70
  clear A70
  by_cases c8 : t219 = true
  ·subst c8
   have H1 : (some true) = some r := by rw [if_pos rfl] at H; exact H
   clear H
   have H := H1
   clear H1
   obtain rfl := Option.some.inj H
   go_enter Tryz.func92, Tryz.ntmps92
   go_wp2_with (first | ((with_reducible refine gate_dst (N := 1) rfl ?_); refine box_event rfl (N := 1) rfl (cs := #[.int .i64 a0_0, .int .i64 a0_1]) (t := 34) hr_ ?_; intro gb217 hg w9 hbox hb; have BK217 := Aside0.mk hbox; have GW217 := gwE HB hg; have GE217 := gwE HB hg; replace HB := hbS HB hb; clear hb hbox hg; have hcz10_0 := bcell BK217 0; have hcz10_1 := bcell BK217 1; have hfz10_0 := blk_frozen BK217.out 0; have hfz10_1 := blk_frozen BK217.out 1) | ((with_reducible refine gate_callee (f := 48) rfl ?_); refine gL (some 4) Tryz.func48 #[.agg #[.int .i64 a0_0, .int .i64 a0_1]] ?_; (with_reducible refine (spec_EndInside.calls a0_0 a0_1 false _ A2.out).mono ?_); rintro e w11 ⟨rfl, hb⟩; refine ⟨_, rfl, ?_⟩; replace BK217 := bkB BK217 hb; replace HB := hbS HB hb; (try clear hb); have hcz12_0 := bcell BK217 0; have hcz12_1 := bcell BK217 1; have hfz12_0 := blk_frozen BK217.out 0; have hfz12_1 := blk_frozen BK217.out 1) | (go_at_call 113; (with_reducible refine (spec_EndOutside.calls a0_0 a0_1 true _ A7.out).mono ?_); rintro e w13 ⟨rfl, hb⟩; replace BK217 := bkB BK217 hb; replace HB := hbS HB hb; (try clear hb)))
   go_ret
   exact ⟨fi_, m2_⟩
  ·replace c8 := Bool.eq_false_iff.mpr c8
   subst c8
   have H1 : (if a0_0 = 50 then ((spec_l1In.f a0_1 1 999).bind fun t220 => (some t220)) else (some false)) = some r := by rw [if_neg (show ¬ (false = true) by decide)] at H; exact H
   clear H
   have H := H1
   clear H1
   by_cases c14 : a0_0 = 50
   ·rw [if_pos c14] at H
    have c14b0 : (a0_0 == 50) = true := beq_iff_eq.mpr c14
    have c14b1 : (a0_0 != 50) = false := bne_eq_false_iff_eq.mpr c14
    clear c14
    replace H := Option.bind_eq_some_iff.mp H
    obtain ⟨t220, A150, H⟩ := H
    try dsimp only at H
    have A15 := Aside0.mk A150
    clear A150
    obtain rfl := Option.some.inj H
    go_enter Tryz.func92, Tryz.ntmps92
    go_wp2_with (first | ((with_reducible refine gate_dst (N := 1) rfl ?_); refine box_event rfl (N := 1) rfl (cs := #[.int .i64 a0_0, .int .i64 a0_1]) (t := 34) hr_ ?_; intro gb217 hg w16 hbox hb; have BK217 := Aside0.mk hbox; have GW217 := gwE HB hg; have GE217 := gwE HB hg; replace HB := hbS HB hb; clear hb hbox hg; have hcz17_0 := bcell BK217 0; have hcz17_1 := bcell BK217 1; have hfz17_0 := blk_frozen BK217.out 0; have hfz17_1 := blk_frozen BK217.out 1) | ((with_reducible refine gate_callee (f := 48) rfl ?_); refine gL (some 4) Tryz.func48 #[.agg #[.int .i64 a0_0, .int .i64 a0_1]] ?_; (with_reducible refine (spec_EndInside.calls a0_0 a0_1 false _ A2.out).mono ?_); rintro e w18 ⟨rfl, hb⟩; refine ⟨_, rfl, ?_⟩; replace BK217 := bkB BK217 hb; replace HB := hbS HB hb; (try clear hb); have hcz19_0 := bcell BK217 0; have hcz19_1 := bcell BK217 1; have hfz19_0 := blk_frozen BK217.out 0; have hfz19_1 := blk_frozen BK217.out 1) | (go_at_call 113; (with_reducible refine (spec_EndOutside.calls a0_0 a0_1 false _ A7.out).mono ?_); rintro e w20 ⟨rfl, hb⟩; replace BK217 := bkB BK217 hb; replace HB := hbS HB hb; (try clear hb); have hcz21_0 := bcell BK217 0; have hcz21_1 := bcell BK217 1; have hfz21_0 := blk_frozen BK217.out 0; have hfz21_1 := blk_frozen BK217.out 1) | (go_at_call 81; (with_reducible refine (spec_l1In.calls a0_1 1 999 t220 _ A15.out).mono ?_); rintro e w' ⟨rfl, ⟨nd, rfl⟩⟩))
    go_ret
    exact ⟨fi_, m2_⟩
   ·rw [if_neg c14] at H
    have c14b0 : (a0_0 == 50) = false := beq_eq_false_iff_ne.mpr c14
    have c14b1 : (a0_0 != 50) = true := bne_iff_ne.mpr c14
    obtain rfl := Option.some.inj H
    go_enter Tryz.func92, Tryz.ntmps92
    go_wp2_with (first | ((with_reducible refine gate_dst (N := 1) rfl ?_); refine box_event rfl (N := 1) rfl (cs := #[.int .i64 a0_0, .int .i64 a0_1]) (t := 34) hr_ ?_; intro gb217 hg w22 hbox hb; have BK217 := Aside0.mk hbox; have GW217 := gwE HB hg; have GE217 := gwE HB hg; replace HB := hbS HB hb; clear hb hbox hg; have hcz23_0 := bcell BK217 0; have hcz23_1 := bcell BK217 1; have hfz23_0 := blk_frozen BK217.out 0; have hfz23_1 := blk_frozen BK217.out 1) | ((with_reducible refine gate_callee (f := 48) rfl ?_); refine gL (some 4) Tryz.func48 #[.agg #[.int .i64 a0_0, .int .i64 a0_1]] ?_; (with_reducible refine (spec_EndInside.calls a0_0 a0_1 false _ A2.out).mono ?_); rintro e w24 ⟨rfl, hb⟩; refine ⟨_, rfl, ?_⟩; replace BK217 := bkB BK217 hb; replace HB := hbS HB hb; (try clear hb); have hcz25_0 := bcell BK217 0; have hcz25_1 := bcell BK217 1; have hfz25_0 := blk_frozen BK217.out 0; have hfz25_1 := blk_frozen BK217.out 1) | (go_at_call 113; (with_reducible refine (spec_EndOutside.calls a0_0 a0_1 false _ A7.out).mono ?_); rintro e w26 ⟨rfl, hb⟩; replace BK217 := bkB BK217 hb; replace HB := hbS HB hb; (try clear hb); have hcz27_0 := bcell BK217 0; have hcz27_1 := bcell BK217 1; have hfz27_0 := blk_frozen BK217.out 0; have hfz27_1 := blk_frozen BK217.out 1))
    go_ret
    exact ⟨fi_, m2_⟩
def spec_l1Plain.l0 : Nat → Int → ByteArray → Option (ByteArray)
 | 0, _, _ => none
 | k + 1, x0, x3 => if x0 > 9 then ((some (([(wrap64 (48 + (Int.tmod x0 10))) % 256] : List Int) : List Int)).bind fun y221 => (if (strOfNums y221).size + x3.size ≤ 9223372036854775807 then (spec_l1Plain.l0 k (wrap64 (Int.tdiv x0 10)) ((strOfNums y221) ++ x3)) else (none))) else ((some (([(wrap64 (48 + x0)) % 256] : List Int) : List Int)).bind fun y224 => (if (strOfNums y224).size + x3.size ≤ 9223372036854775807 then (some ((strOfNums y224) ++ x3)) else (none)))
def spec_l1Plain.f (k : Nat) (a0 : Int) : Option (ByteArray) := spec_l1Plain.l0 k a0 (⟨#[]⟩ : ByteArray)
theorem spec_l1Plain.mono_l : ∀ k, (∀ y0 y1, LeO (spec_l1Plain.l0 k y0 y1) (spec_l1Plain.l0 (k + 1) y0 y1))
 | 0 => fun _ _ r h => by simp [spec_l1Plain.l0] at h
 | k + 1 => by
  have ih0 := spec_l1Plain.mono_l k
  ·intro y0 y1
   unfold spec_l1Plain.l0
   repeat' first | (with_reducible first | exact ih0 _ _ | exact LeO.refl _ | exact LeO.none _ | refine LeO.ite ?_ ?_ | refine LeO.bind ?_ (fun _ => ?_)) | exact ih0 _ _ | exact LeO.none _ | refine LeO.ite ?_ ?_ | refine LeO.bind ?_ (fun _ => ?_)
theorem spec_l1Plain.mono : ∀ a0 k, LeO (spec_l1Plain.f k a0) (spec_l1Plain.f (k + 1) a0) := by
 intro a0 k
 have ih0 := spec_l1Plain.mono_l k
 unfold spec_l1Plain.f
 repeat' first | (with_reducible first | exact ih0 _ _ | exact LeO.refl _ | exact LeO.none _ | refine LeO.ite ?_ ?_ | refine LeO.bind ?_ (fun _ => ?_)) | exact ih0 _ _ | exact LeO.none _ | refine LeO.ite ?_ ?_ | refine LeO.bind ?_ (fun _ => ?_)
set_option maxHeartbeats 8000000 in
set_option maxRecDepth 100000 in
theorem spec_l1Plain.calls (k : Nat) (a0 : Int) (r : ByteArray) (w : World) (h : spec_l1Plain.f k a0 = some r) :
  Calls Tryz.prog 114 #[.int .i64 a0] w fun e w' => e = .returned (.string r) ∧ Below w.heap.size w w' := by
 have HB := Aside0.mk (Below.refl w.heap.size w)
 have H : (spec_l1Plain.l0 k a0 (⟨#[]⟩ : ByteArray)) = some r := h
 clear h
 have H' := Aside0.mk H
 clear H
 go_enter Tryz.func114, Tryz.ntmps114
 go_wp2
 go_loopg [0, 3] k (fun kq v0 v3 w' => ∃ (x0_1 : Int) (x3_1 : ByteArray), v0 = .int .i64 x0_1 ∧ v3 = .string x3_1 ∧ Aside0 (spec_l1Plain.l0 kq x0_1 x3_1 = some r) ∧ Aside0 (kq ≤ k) ∧ Aside0 (Below w.heap.size w w'))
 case atStart => exact ⟨(a0), ((⟨#[]⟩ : ByteArray)), rs_, rs_, H', ⟨Nat.le_refl _⟩, ⟨m0_⟩⟩
 case round =>
  clear H'
  try clear c1
  obtain ⟨x0_1, x3_1, rfl, rfl, HA, HK1, HB⟩ := hrel
  cases gk with
  | zero => exact absurd HA.out (by simp [spec_l1Plain.l0])
  | succ k1 =>
   have H := HA.out
   clear HA
   simp only [spec_l1Plain.l0] at H
   by_cases c2 : x0_1 > 9
   ·rw [if_pos c2] at H
    have c2b0 : decide (9 < x0_1) = true := decide_eq_true c2
    clear c2
    obtain ⟨y221, hy221⟩ : ∃ y_ : List Int, y_ = (([(wrap64 (48 + (Int.tmod x0_1 10))) % 256] : List Int)) := ⟨_, rfl⟩
    replace H : (if (strOfNums y221).size + x3_1.size ≤ 9223372036854775807 then (spec_l1Plain.l0 k1 (wrap64 (Int.tdiv x0_1 10)) ((strOfNums y221) ++ x3_1)) else (none)) = some r := by first | (rw [hy221]; with_reducible exact H) | (have H2_ := (Option.bind_some _ _).symm.trans H; rw [hy221]; with_reducible exact H2_) | (have H2_ := (Option.bind_some _ _).symm.trans H; with_reducible exact H2_) | with_reducible exact H | (rw [hy221]; exact H) | exact H
    have Ny221 := Aside0.mk hy221
    clear hy221
    by_cases c3 : (strOfNums y221).size + x3_1.size ≤ 9223372036854775807
    ·rw [if_pos c3] at H
     have c3b0 := eq_true c3
     have c3b1 : decide ((strOfNums y221).size + x3_1.size ≤ 9223372036854775807) = true := decide_eq_true c3
     try have c3b2 : (9223372036854775807 < (strOfNums y221).size + x3_1.size) = False := eq_false (Nat.not_lt.2 c3)
     have H' := Aside0.mk H
     clear H
     go_wp2_with (first | ((with_reducible refine gate_dst (N := 10) rfl ?_); refine Kd.R_lit (Kd.int .u8) _ 5 rfl (N := 10) rfl (xs := ([(wrap64 (48 + (Int.tmod x0_1 10))) % 256] : List Int)) (inner := [.int .u8 ((wrap64 (48 + (Int.tmod x0_1 10))) % 256)]) (ok := fun _ => True) (okp := fun _ => True) hr_ ?hp (fun _ hk => hk) trivial (Below.refl _ _) (Nat.le_refl _) (by simp) ?_; (case hp => exact (Reps.one (show Kd.M (Kd.int .u8) _ _ _ ((wrap64 (48 + (Int.tmod x0_1 10))) % 256) [.int .u8 ((wrap64 (48 + (Int.tmod x0_1 10))) % 256)] from rfl) (Reps.none _ _))); intro v222 w4 ho5 hb hg_ hnew_; clear hg_ hnew_; (first | rw [← Ny221.out] at ho5 | (simp only [Int.reduceToNat] at ho5; rw [← Ny221.out] at ho5)); have HO223 := Aside0.mk (Kd.R_lower ho5 (below_size (bl HB))); replace HB := hbS HB hb; clear hb ho5; have hcv6 := own_string (P := Tryz.prog) Tryz.underlying22 Tryz.underlying5 Tryz.underlying9 (Kd.own_of_R HO223.out)))
     go_roundg k1
     case measure => have := HK1.out; omega
     case rel => exact ⟨(wrap64 (Int.tdiv x0_1 10)), ((strOfNums y221) ++ x3_1), rs_, rs_, H', ⟨by have := HK1.out; omega⟩, ⟨m0_⟩⟩
    ·rw [if_neg c3] at H
     exact absurd H (by simp)
   ·rw [if_neg c2] at H
    have c2b0 : decide (9 < x0_1) = false := decide_eq_false c2
    clear c2
    obtain ⟨y224, hy224⟩ : ∃ y_ : List Int, y_ = (([(wrap64 (48 + x0_1)) % 256] : List Int)) := ⟨_, rfl⟩
    replace H : (if (strOfNums y224).size + x3_1.size ≤ 9223372036854775807 then (some ((strOfNums y224) ++ x3_1)) else (none)) = some r := by first | (rw [hy224]; with_reducible exact H) | (have H2_ := (Option.bind_some _ _).symm.trans H; rw [hy224]; with_reducible exact H2_) | (have H2_ := (Option.bind_some _ _).symm.trans H; with_reducible exact H2_) | with_reducible exact H | (rw [hy224]; exact H) | exact H
    have Ny224 := Aside0.mk hy224
    clear hy224
    by_cases c7 : (strOfNums y224).size + x3_1.size ≤ 9223372036854775807
    ·rw [if_pos c7] at H
     have c7b0 := eq_true c7
     have c7b1 : decide ((strOfNums y224).size + x3_1.size ≤ 9223372036854775807) = true := decide_eq_true c7
     try have c7b2 : (9223372036854775807 < (strOfNums y224).size + x3_1.size) = False := eq_false (Nat.not_lt.2 c7)
     obtain rfl := Option.some.inj H
     go_wp2_with (first | ((with_reducible refine gate_dst (N := 19) rfl ?_); refine Kd.R_lit (Kd.int .u8) _ 5 rfl (N := 19) rfl (xs := ([(wrap64 (48 + x0_1)) % 256] : List Int)) (inner := [.int .u8 ((wrap64 (48 + x0_1)) % 256)]) (ok := fun _ => True) (okp := fun _ => True) hr_ ?hp (fun _ hk => hk) trivial (Below.refl _ _) (Nat.le_refl _) (by simp) ?_; (case hp => exact (Reps.one (show Kd.M (Kd.int .u8) _ _ _ ((wrap64 (48 + x0_1)) % 256) [.int .u8 ((wrap64 (48 + x0_1)) % 256)] from rfl) (Reps.none _ _))); intro v225 w8 ho9 hb hg_ hnew_; clear hg_ hnew_; (first | rw [← Ny224.out] at ho9 | (simp only [Int.reduceToNat] at ho9; rw [← Ny224.out] at ho9)); have HO226 := Aside0.mk (Kd.R_lower ho9 (below_size (bl HB))); replace HB := hbS HB hb; clear hb ho9; have hcv10 := own_string (P := Tryz.prog) Tryz.underlying22 Tryz.underlying5 Tryz.underlying9 (Kd.own_of_R HO226.out)))
     go_ret
     exact ⟨fi_, m0_⟩
    ·rw [if_neg c7] at H
     exact absurd H (by simp)
def spec_EndText.f (k : Nat) (a0_0 : Int) (a0_1 : Int) : Option (ByteArray) := (spec_EndOk.f a0_0 a0_1).bind fun t228 => (if t228 = true then ((spec_l1Plain.f k a0_0).bind fun t229 => (if t229.size + 1 ≤ 9223372036854775807 then ((spec_l1Plain.f k a0_1).bind fun t230 => (if (t229 ++ (⟨#[32]⟩ : ByteArray)).size + t230.size ≤ 9223372036854775807 then (some ((t229 ++ (⟨#[32]⟩ : ByteArray)) ++ t230)) else (none))) else (none))) else (some (⟨#[]⟩ : ByteArray)))
theorem spec_EndText.mono : ∀ a0 a1 k, LeO (spec_EndText.f k a0 a1) (spec_EndText.f (k + 1) a0 a1) := by
 intro a0 a1 k
 unfold spec_EndText.f
 repeat' first | (with_reducible first | exact spec_l1Plain.mono _ _ | exact LeO.refl _ | exact LeO.none _ | refine LeO.ite ?_ ?_ | refine LeO.bind ?_ (fun _ => ?_)) | exact spec_l1Plain.mono _ _ | exact LeO.none _ | refine LeO.ite ?_ ?_ | refine LeO.bind ?_ (fun _ => ?_)
def spec_EndText.T3 : Bool × List (List Nat × List Nat) := (true, [([], []), ([0], [0]), ([1], [1]), ([2], [2]), ([], []), ([4], [4]), ([5, 2], [5]), ([3, 6], [3, 6]), ([7, 6, 0, 1, 2, 3, 4, 5, 6, 7], [7])])
def spec_EndText.B3 : List Nat := [0, 1, 3, 7, 0, 16, 55, 127, 255]
theorem spec_EndText.tab3 : rtab .any (opsOf Tryz.f93 3) = spec_EndText.T3 := by kernel_rfl
theorem spec_EndText.bits3 : waitsOk spec_EndText.T3.2 spec_EndText.B3 = true := by kernel_rfl
set_option maxHeartbeats 8000000 in
set_option maxRecDepth 100000 in
theorem spec_EndText.calls (k : Nat) (a0_0 : Int) (a0_1 : Int) (r : ByteArray) (w : World) (h : spec_EndText.f k a0_0 a0_1 = some r) :
  Calls Tryz.prog 93 #[.agg #[.int .i64 a0_0, .int .i64 a0_1]] w fun e w' => e = .returned (.string r) ∧ Below w.heap.size w w' := by
 have hu34 := Tryz.underlying34
 have HB := Aside0.mk (Below.refl w.heap.size w)
 have H : ((spec_EndOk.f a0_0 a0_1).bind fun t228 => (if t228 = true then ((spec_l1Plain.f k a0_0).bind fun t229 => (if t229.size + 1 ≤ 9223372036854775807 then ((spec_l1Plain.f k a0_1).bind fun t230 => (if (t229 ++ (⟨#[32]⟩ : ByteArray)).size + t230.size ≤ 9223372036854775807 then (some ((t229 ++ (⟨#[32]⟩ : ByteArray)) ++ t230)) else (none))) else (none))) else (some (⟨#[]⟩ : ByteArray)))) = some r := h
 clear h
 replace H := Option.bind_eq_some_iff.mp H
 obtain ⟨t228, A20, H⟩ := H
 try dsimp only at H
 have A2 := Aside0.mk A20
 clear A20
 by_cases c3 : t228 = true
 ·subst c3
  have H1 : ((spec_l1Plain.f k a0_0).bind fun t229 => (if t229.size + 1 ≤ 9223372036854775807 then ((spec_l1Plain.f k a0_1).bind fun t230 => (if (t229 ++ (⟨#[32]⟩ : ByteArray)).size + t230.size ≤ 9223372036854775807 then (some ((t229 ++ (⟨#[32]⟩ : ByteArray)) ++ t230)) else (none))) else (none))) = some r := by rw [if_pos rfl] at H; exact H
  clear H
  have H := H1
  clear H1
  replace H := Option.bind_eq_some_iff.mp H
  obtain ⟨t229, A40, H⟩ := H
  try dsimp only at H
  have A4 := Aside0.mk A40
  clear A40
  by_cases c5 : t229.size + 1 ≤ 9223372036854775807
  ·rw [if_pos c5] at H
   have c5b0 := eq_true c5
   have c5b1 : decide (t229.size + 1 ≤ 9223372036854775807) = true := decide_eq_true c5
   try have c5b2 : (9223372036854775807 < t229.size + 1) = False := eq_false (Nat.not_lt.2 c5)
   replace H := Option.bind_eq_some_iff.mp H
   obtain ⟨t230, A60, H⟩ := H
   try dsimp only at H
   have A6 := Aside0.mk A60
   clear A60
   by_cases c7 : (t229 ++ (⟨#[32]⟩ : ByteArray)).size + t230.size ≤ 9223372036854775807
   ·rw [if_pos c7] at H
    have c7b0 := eq_true c7
    have c7b1 : decide ((t229 ++ (⟨#[32]⟩ : ByteArray)).size + t230.size ≤ 9223372036854775807) = true := decide_eq_true c7
    try have c7b2 : (9223372036854775807 < (t229 ++ (⟨#[32]⟩ : ByteArray)).size + t230.size) = False := eq_false (Nat.not_lt.2 c7)
    try have c7b3 : (9223372036854775807 < t229.size + 1 + t230.size) = False := (by have z_ := c7b2; simp only [ByteArray.size_append] at z_; exact z_)
    obtain rfl := Option.some.inj H
    go_enter Tryz.func93, Tryz.ntmps93
    try go_wp2_with (first | ((with_reducible refine gate_dst (N := 1) rfl ?_); refine box_event rfl (N := 1) rfl (cs := #[.int .i64 a0_0, .int .i64 a0_1]) (t := 34) hr_ ?_; intro gb227 hg w8 hbox hb; have BK227 := Aside0.mk hbox; have GW227 := gwE HB hg; have GE227 := gwE HB hg; replace HB := hbS HB hb; clear hb hbox hg; have hcz9_0 := bcell BK227 0; have hcz9_1 := bcell BK227 1; have hfz9_0 := blk_frozen BK227.out 0; have hfz9_1 := blk_frozen BK227.out 1) | ((with_reducible refine gate_callee (f := 92) rfl ?_); refine gL (some 4) Tryz.func92 #[.agg #[.int .i64 a0_0, .int .i64 a0_1]] ?_; (with_reducible refine (spec_EndOk.calls a0_0 a0_1 true _ A2.out).mono ?_); rintro e w10 ⟨rfl, hb⟩; refine ⟨_, rfl, ?_⟩; replace BK227 := bkB BK227 hb; replace HB := hbS HB hb; (try clear hb)))
    replace BK227 := Aside0.mk (blk_drew BK227.out)
    replace HB := Aside0.mk (below_drew1 HB.out)
    refine start_ (n := 9) (S := fun w' => w'.cell? ⟨gb227, 0, none⟩ = some (.int .i64 a0_0) ∧ w'.cell? ⟨gb227, 1, none⟩ = some (.int .i64 a0_1)) (ds := []) #[false, false, false, false, false, false, false, false, false] (by kernel_rfl) rfl rfl ⟨bcell BK227 0, bcell BK227 1⟩ (fun hHeld => ?_); refine with_tabW spec_EndText.tab3 spec_EndText.bits3 (fun HT_ HW_ => ?_)
    generalize w10.drew = w11 at BK227 HB hHeld ⊢
    refine pu_ 0 (some 6) #[true, false, false, false, false, false, false, false, false] ?_
    refine pu_ 4 (some 10) #[true, false, false, false, true, false, false, false, false] ?_
    refine tk_ 1 (some 7) #[true, true, false, false, true, false, false, false, false] rfl (.inl ⟨rfl, m3_⟩) ?_
    refine tk_ 5 (some 11) #[true, true, false, false, true, true, false, false, false] rfl (.inl ⟨rfl, m3_⟩) ?_
    refine on_ 2 (some 8) #[true, true, true, false, true, true, false, false, false] (fun K hK => ?_)
    refine gR Tryz.func114 #[.int .i64 a0_0] ?_
    with_reducible refine (spec_l1Plain.calls k a0_0 t229 _ A4.out).mono ?_
    rintro e w12 ⟨rfl, hb⟩
    refine ⟨_, rfl, ?_⟩
    replace BK227 := bkB BK227 hb
    replace HB := hbS HB hb
    (try clear hb)
    (try clear hb2)
    (try clear hk)
    (try clear hi)
    refine hK.out _ _ ⟨bcell BK227 0, bcell BK227 1⟩ (fun hHeld => ?_)
    clear hK K
    refine nm_ ?_
    refine pu_ 3 (some 9) #[true, true, true, true, true, true, false, false, false] ?_
    refine on_ 6 (some 12) #[true, true, true, true, true, true, true, false, false] (fun K hK => ?_)
    refine gR Tryz.func114 #[.int .i64 a0_1] ?_
    with_reducible refine (spec_l1Plain.calls k a0_1 t230 _ A6.out).mono ?_
    rintro e w13 ⟨rfl, hb⟩
    refine ⟨_, rfl, ?_⟩
    replace BK227 := bkB BK227 hb
    replace HB := hbS HB hb
    (try clear hb)
    (try clear hb2)
    (try clear hk)
    (try clear hi)
    refine hK.out _ _ ⟨bcell BK227 0, bcell BK227 1⟩ (fun hHeld => ?_)
    clear hK K
    refine nm_ ?_
    refine pu_ 7 (some 13) #[true, true, true, true, true, true, true, true, false] ?_
    refine pu_ 8 (some 2) #[true, true, true, true, true, true, true, true, true] ?_
    refine done_ (done_of HT_.out (by kernel_rfl)) ?_
    try go_wp2
    go_ret
    exact ⟨fi_, m2_⟩
   ·rw [if_neg c7] at H
    exact absurd H (by simp)
  ·rw [if_neg c5] at H
   exact absurd H (by simp)
 ·replace c3 := Bool.eq_false_iff.mpr c3
  subst c3
  have H1 : (some (⟨#[]⟩ : ByteArray)) = some r := by rw [if_neg (show ¬ (false = true) by decide)] at H; exact H
  clear H
  have H := H1
  clear H1
  obtain rfl := Option.some.inj H
  go_enter Tryz.func93, Tryz.ntmps93
  go_wp2_with (first | ((with_reducible refine gate_dst (N := 1) rfl ?_); refine box_event rfl (N := 1) rfl (cs := #[.int .i64 a0_0, .int .i64 a0_1]) (t := 34) hr_ ?_; intro gb227 hg w14 hbox hb; have BK227 := Aside0.mk hbox; have GW227 := gwE HB hg; have GE227 := gwE HB hg; replace HB := hbS HB hb; clear hb hbox hg; have hcz15_0 := bcell BK227 0; have hcz15_1 := bcell BK227 1; have hfz15_0 := blk_frozen BK227.out 0; have hfz15_1 := blk_frozen BK227.out 1) | ((with_reducible refine gate_callee (f := 92) rfl ?_); refine gL (some 4) Tryz.func92 #[.agg #[.int .i64 a0_0, .int .i64 a0_1]] ?_; (with_reducible refine (spec_EndOk.calls a0_0 a0_1 false _ A2.out).mono ?_); rintro e w16 ⟨rfl, hb⟩; refine ⟨_, rfl, ?_⟩; replace BK227 := bkB BK227 hb; replace HB := hbS HB hb; (try clear hb)))
  go_ret
  exact ⟨fi_, m2_⟩
def spec_LinPort.f (k : Nat) (a0_0 : Int) (a0_1 : Int) : Option (ByteArray) := (spec_EndOk.f a0_0 a0_1).bind fun t232 => (if t232 = true then ((spec_EndText.f k a0_0 a0_1).bind fun t233 => (if 5 + t233.size ≤ 9223372036854775807 then (some ((⟨#[112, 111, 114, 116, 32]⟩ : ByteArray) ++ t233)) else (none))) else (some (⟨#[]⟩ : ByteArray)))
theorem spec_LinPort.mono : ∀ a0 a1 k, LeO (spec_LinPort.f k a0 a1) (spec_LinPort.f (k + 1) a0 a1) := by
 intro a0 a1 k
 unfold spec_LinPort.f
 repeat' first | (with_reducible first | exact spec_EndText.mono _ _ _ | exact LeO.refl _ | exact LeO.none _ | refine LeO.ite ?_ ?_ | refine LeO.bind ?_ (fun _ => ?_)) | exact spec_EndText.mono _ _ _ | exact LeO.none _ | refine LeO.ite ?_ ?_ | refine LeO.bind ?_ (fun _ => ?_)
set_option maxHeartbeats 8000000 in
set_option maxRecDepth 100000 in
theorem spec_LinPort.calls (k : Nat) (a0_0 : Int) (a0_1 : Int) (r : ByteArray) (w : World) (h : spec_LinPort.f k a0_0 a0_1 = some r) :
  Calls Tryz.prog 64 #[.agg #[.int .i64 a0_0, .int .i64 a0_1]] w fun e w' => e = .returned (.string r) ∧ Below w.heap.size w w' := by
 have hu34 := Tryz.underlying34
 have HB := Aside0.mk (Below.refl w.heap.size w)
 have H : ((spec_EndOk.f a0_0 a0_1).bind fun t232 => (if t232 = true then ((spec_EndText.f k a0_0 a0_1).bind fun t233 => (if 5 + t233.size ≤ 9223372036854775807 then (some ((⟨#[112, 111, 114, 116, 32]⟩ : ByteArray) ++ t233)) else (none))) else (some (⟨#[]⟩ : ByteArray)))) = some r := h
 clear h
 replace H := Option.bind_eq_some_iff.mp H
 obtain ⟨t232, A20, H⟩ := H
 try dsimp only at H
 have A2 := Aside0.mk A20
 clear A20
 by_cases c3 : t232 = true
 ·subst c3
  have H1 : ((spec_EndText.f k a0_0 a0_1).bind fun t233 => (if 5 + t233.size ≤ 9223372036854775807 then (some ((⟨#[112, 111, 114, 116, 32]⟩ : ByteArray) ++ t233)) else (none))) = some r := by rw [if_pos rfl] at H; exact H
  clear H
  have H := H1
  clear H1
  replace H := Option.bind_eq_some_iff.mp H
  obtain ⟨t233, A40, H⟩ := H
  try dsimp only at H
  have A4 := Aside0.mk A40
  clear A40
  by_cases c5 : 5 + t233.size ≤ 9223372036854775807
  ·rw [if_pos c5] at H
   have c5b0 := eq_true c5
   have c5b1 : decide (5 + t233.size ≤ 9223372036854775807) = true := decide_eq_true c5
   try have c5b2 : (9223372036854775807 < 5 + t233.size) = False := eq_false (Nat.not_lt.2 c5)
   obtain rfl := Option.some.inj H
   go_enter Tryz.func64, Tryz.ntmps64
   go_wp2_with (first | ((with_reducible refine gate_dst (N := 1) rfl ?_); refine box_event rfl (N := 1) rfl (cs := #[.int .i64 a0_0, .int .i64 a0_1]) (t := 34) hr_ ?_; intro gb231 hg w6 hbox hb; have BK231 := Aside0.mk hbox; have GW231 := gwE HB hg; have GE231 := gwE HB hg; replace HB := hbS HB hb; clear hb hbox hg; have hcz7_0 := bcell BK231 0; have hcz7_1 := bcell BK231 1; have hfz7_0 := blk_frozen BK231.out 0; have hfz7_1 := blk_frozen BK231.out 1) | ((with_reducible refine gate_callee (f := 92) rfl ?_); refine gL (some 4) Tryz.func92 #[.agg #[.int .i64 a0_0, .int .i64 a0_1]] ?_; (with_reducible refine (spec_EndOk.calls a0_0 a0_1 true _ A2.out).mono ?_); rintro e w8 ⟨rfl, hb⟩; refine ⟨_, rfl, ?_⟩; replace BK231 := bkB BK231 hb; replace HB := hbS HB hb; (try clear hb); have hcz9_0 := bcell BK231 0; have hcz9_1 := bcell BK231 1; have hfz9_0 := blk_frozen BK231.out 0; have hfz9_1 := blk_frozen BK231.out 1) | ((with_reducible refine gate_callee (f := 93) rfl ?_); refine gL (some 7) Tryz.func93 #[.agg #[.int .i64 a0_0, .int .i64 a0_1]] ?_; (with_reducible refine (spec_EndText.calls k a0_0 a0_1 t233 _ A4.out).mono ?_); rintro e w10 ⟨rfl, hb⟩; refine ⟨_, rfl, ?_⟩; replace BK231 := bkB BK231 hb; replace HB := hbS HB hb; (try clear hb)))
   go_ret
   exact ⟨fi_, m2_⟩
  ·rw [if_neg c5] at H
   exact absurd H (by simp)
 ·replace c3 := Bool.eq_false_iff.mpr c3
  subst c3
  have H1 : (some (⟨#[]⟩ : ByteArray)) = some r := by rw [if_neg (show ¬ (false = true) by decide)] at H; exact H
  clear H
  have H := H1
  clear H1
  obtain rfl := Option.some.inj H
  go_enter Tryz.func64, Tryz.ntmps64
  go_wp2_with (first | ((with_reducible refine gate_dst (N := 1) rfl ?_); refine box_event rfl (N := 1) rfl (cs := #[.int .i64 a0_0, .int .i64 a0_1]) (t := 34) hr_ ?_; intro gb231 hg w11 hbox hb; have BK231 := Aside0.mk hbox; have GW231 := gwE HB hg; have GE231 := gwE HB hg; replace HB := hbS HB hb; clear hb hbox hg; have hcz12_0 := bcell BK231 0; have hcz12_1 := bcell BK231 1; have hfz12_0 := blk_frozen BK231.out 0; have hfz12_1 := blk_frozen BK231.out 1) | ((with_reducible refine gate_callee (f := 92) rfl ?_); refine gL (some 4) Tryz.func92 #[.agg #[.int .i64 a0_0, .int .i64 a0_1]] ?_; (with_reducible refine (spec_EndOk.calls a0_0 a0_1 false _ A2.out).mono ?_); rintro e w13 ⟨rfl, hb⟩; refine ⟨_, rfl, ?_⟩; replace BK231 := bkB BK231 hb; replace HB := hbS HB hb; (try clear hb)))
  go_ret
  exact ⟨fi_, m2_⟩
def spec_l20Line.f (k : Nat) (s0_0 : List Int) (s0_1 : Int) : Option (ByteArray × Int) := (spec_l20Rd_pick.f k s0_0 s0_1 3).bind fun bt234 => (if bt234.1 = 0 then ((spec_l20In.f k s0_0 bt234.2).bind fun bt236 => ((spec_LinPort.f k bt236.1 bt236.2.1).bind fun t239 => (some (t239, bt236.2.2)))) else (if bt234.1 = 1 then ((some (([(⟨#[]⟩ : ByteArray), (⟨#[108, 105, 115, 116]⟩ : ByteArray), (⟨#[117, 115, 101, 114, 32, 97]⟩ : ByteArray), (⟨#[112, 111, 114, 116, 32, 53, 48, 32, 53, 48, 48]⟩ : ByteArray), (⟨#[112, 111, 114, 116, 32, 49, 48, 48, 32, 57]⟩ : ByteArray), (⟨#[112, 111, 114, 116, 32, 48, 49, 32, 50]⟩ : ByteArray), (⟨#[112, 111, 114, 116, 32, 49]⟩ : ByteArray), (⟨#[97, 98, 99, 100, 101, 102, 103, 104, 105, 106, 32, 107, 108, 109, 110, 111]⟩ : ByteArray), (⟨#[112, 111, 114, 116]⟩ : ByteArray), (⟨#[112, 111, 114, 116, 32, 49, 32, 50, 32, 51]⟩ : ByteArray)] : List ByteArray) : List ByteArray)).bind fun y240 => ((spec_l20Rd_pick.f k s0_0 bt234.2 10).bind fun bt243 => (if 0 ≤ bt243.1 then (if bt243.1 < (y240.length : Int) then (some (rdOf ByteArray.empty y240 bt243.1, bt243.2)) else (none)) else (none)))) else ((some (([(⟨#[97]⟩ : ByteArray), (⟨#[98, 98]⟩ : ByteArray), (⟨#[103, 101, 116, 32, 102, 105, 108, 101, 49]⟩ : ByteArray), (⟨#[113, 117, 105, 116]⟩ : ByteArray)] : List ByteArray) : List ByteArray)).bind fun y246 => ((spec_l20Rd_pick.f k s0_0 bt234.2 4).bind fun bt249 => (if 0 ≤ bt249.1 then (if bt249.1 < (y246.length : Int) then (some (rdOf ByteArray.empty y246 bt249.1, bt249.2)) else (none)) else (none))))))
theorem spec_l20Line.mono : ∀ a0 a1 k, LeO (spec_l20Line.f k a0 a1) (spec_l20Line.f (k + 1) a0 a1) := by
 intro a0 a1 k
 unfold spec_l20Line.f
 repeat' first | (with_reducible first | exact spec_LinPort.mono _ _ _ | exact spec_l20In.mono _ _ _ | exact spec_l20Rd_pick.mono _ _ _ _ | exact LeO.refl _ | exact LeO.none _ | refine LeO.ite ?_ ?_ | refine LeO.bind ?_ (fun _ => ?_)) | exact spec_LinPort.mono _ _ _ | exact spec_l20In.mono _ _ _ | exact spec_l20Rd_pick.mono _ _ _ _ | exact LeO.none _ | refine LeO.ite ?_ ?_ | refine LeO.bind ?_ (fun _ => ?_)
set_option maxHeartbeats 8000000 in
set_option maxRecDepth 100000 in
theorem spec_l20Line.calls (k : Nat) (g : Nat) (s0_0 : List Int) (s0_1 : Int) (r1 : ByteArray) (r2 : Int) (w0 w : World) (hI : IsS84 w0 w g s0_0 s0_1) (hB : Below w0.heap.size w0 w) (h : spec_l20Line.f k s0_0 s0_1 = some (r1, r2)) :
  Calls Tryz.prog 42 #[.pointer (some ⟨g, 0, none⟩)] w fun e w' => e = .returned (.string r1) ∧ IsS84 w0 w' g s0_0 r2 ∧ Below w0.heap.size w0 w' ∧ KeepBut w w' g none := by
 have HI0 := Aside0.mk hI
 have HK := Aside0.mk (KeepBut.refl w g none)
 have HL := Aside0.mk hB.size
 clear hI
 have HW0 := Aside0.mk hB.size
 have HB := Aside0.mk hB
 clear hB
 have H : ((spec_l20Rd_pick.f k s0_0 s0_1 3).bind fun bt234 => (if bt234.1 = 0 then ((spec_l20In.f k s0_0 bt234.2).bind fun bt236 => ((spec_LinPort.f k bt236.1 bt236.2.1).bind fun t239 => (some (t239, bt236.2.2)))) else (if bt234.1 = 1 then ((some (([(⟨#[]⟩ : ByteArray), (⟨#[108, 105, 115, 116]⟩ : ByteArray), (⟨#[117, 115, 101, 114, 32, 97]⟩ : ByteArray), (⟨#[112, 111, 114, 116, 32, 53, 48, 32, 53, 48, 48]⟩ : ByteArray), (⟨#[112, 111, 114, 116, 32, 49, 48, 48, 32, 57]⟩ : ByteArray), (⟨#[112, 111, 114, 116, 32, 48, 49, 32, 50]⟩ : ByteArray), (⟨#[112, 111, 114, 116, 32, 49]⟩ : ByteArray), (⟨#[97, 98, 99, 100, 101, 102, 103, 104, 105, 106, 32, 107, 108, 109, 110, 111]⟩ : ByteArray), (⟨#[112, 111, 114, 116]⟩ : ByteArray), (⟨#[112, 111, 114, 116, 32, 49, 32, 50, 32, 51]⟩ : ByteArray)] : List ByteArray) : List ByteArray)).bind fun y240 => ((spec_l20Rd_pick.f k s0_0 bt234.2 10).bind fun bt243 => (if 0 ≤ bt243.1 then (if bt243.1 < (y240.length : Int) then (some (rdOf ByteArray.empty y240 bt243.1, bt243.2)) else (none)) else (none)))) else ((some (([(⟨#[97]⟩ : ByteArray), (⟨#[98, 98]⟩ : ByteArray), (⟨#[103, 101, 116, 32, 102, 105, 108, 101, 49]⟩ : ByteArray), (⟨#[113, 117, 105, 116]⟩ : ByteArray)] : List ByteArray) : List ByteArray)).bind fun y246 => ((spec_l20Rd_pick.f k s0_0 bt234.2 4).bind fun bt249 => (if 0 ≤ bt249.1 then (if bt249.1 < (y246.length : Int) then (some (rdOf ByteArray.empty y246 bt249.1, bt249.2)) else (none)) else (none))))))) = some (r1, r2) := h
 clear h
 replace H := Option.bind_eq_some_iff.mp H
 obtain ⟨⟨t234, t235⟩, A20, H⟩ := H
 try dsimp only at H
 have A2 := Aside0.mk A20
 clear A20
 by_cases c3 : t234 = 0
 ·rw [if_pos c3] at H
  have c3b0 : (t234 == 0) = true := beq_iff_eq.mpr c3
  have c3b1 : (t234 != 0) = false := bne_eq_false_iff_eq.mpr c3
  clear c3
  replace H := Option.bind_eq_some_iff.mp H
  obtain ⟨⟨t236, t237, t238⟩, A40, H⟩ := H
  try dsimp only at H
  have A4 := Aside0.mk A40
  clear A40
  replace H := Option.bind_eq_some_iff.mp H
  obtain ⟨t239, A50, H⟩ := H
  try dsimp only at H
  have A5 := Aside0.mk A50
  clear A50
  simp only [Option.some.injEq, Prod.mk.injEq] at H
  obtain ⟨rfl, rfl⟩ := H
  go_enter Tryz.func42, Tryz.ntmps42
  go_wp2_with (first | ((with_reducible refine gate_callee (f := 63) rfl ?_); refine gL (some 4) Tryz.func63 #[.pointer (some ⟨g, 0, none⟩), .int .i64 3] ?_; (with_reducible refine (spec_l20Rd_pick.calls k g s0_0 s0_1 3 t234 t235 w0 _ ?side1 ?side2 A2.out).mono ?_); (case side1 => exact m25_); (case side2 => exact m23_); rintro e w6 ⟨rfl, hi, hb, hk⟩; refine ⟨_, rfl, ?_⟩; replace HK := Aside0.mk (KeepBut.trans m24_ hk (.inl rfl)); replace HB := Aside0.mk hb; replace HI0 := Aside0.mk hi; (try clear hb); (try clear hk); (try clear hi)) | ((with_reducible refine gate_callee (f := 75) rfl ?_); refine gL (some 8) Tryz.func75 #[.pointer (some ⟨g, 0, none⟩)] ?_; (with_reducible refine (spec_l20In.calls k g s0_0 t235 t236 t237 t238 w0 _ ?side1 ?side2 A4.out).mono ?_); (case side1 => exact m25_); (case side2 => exact m23_); rintro e w7 ⟨rfl, hi, hb, hk⟩; refine ⟨_, rfl, ?_⟩; replace HK := Aside0.mk (KeepBut.trans m24_ hk (.inl rfl)); replace HB := Aside0.mk hb; replace HI0 := Aside0.mk hi; (try clear hb); (try clear hk); (try clear hi)) | ((with_reducible refine gate_callee (f := 64) rfl ?_); refine gL (some 9) Tryz.func64 #[.agg #[.int .i64 t236, .int .i64 t237]] ?_; (with_reducible refine (spec_LinPort.calls k t236 t237 t239 _ A5.out).mono ?_); rintro e w8 ⟨rfl, hb⟩; refine ⟨_, rfl, ?_⟩; replace HK := Aside0.mk (KeepBut.trans m24_ (KeepBut.of_below hb g none) (.inl rfl)); replace HB := Aside0.mk (below_step m23_ hb); replace HI0 := Aside0.mk (IsS84.below m25_ hb); (try clear hb)))
  go_ret
  exact ⟨fi_, m25_, m23_, m24_⟩
 ·rw [if_neg c3] at H
  have c3b0 : (t234 == 0) = false := beq_eq_false_iff_ne.mpr c3
  have c3b1 : (t234 != 0) = true := bne_iff_ne.mpr c3
  by_cases c9 : t234 = 1
  ·rw [if_pos c9] at H
   have c9b0 : (t234 == 1) = true := beq_iff_eq.mpr c9
   have c9b1 : (t234 != 1) = false := bne_eq_false_iff_eq.mpr c9
   clear c9
   obtain ⟨y240, hy240⟩ : ∃ y_ : List ByteArray, y_ = (([(⟨#[]⟩ : ByteArray), (⟨#[108, 105, 115, 116]⟩ : ByteArray), (⟨#[117, 115, 101, 114, 32, 97]⟩ : ByteArray), (⟨#[112, 111, 114, 116, 32, 53, 48, 32, 53, 48, 48]⟩ : ByteArray), (⟨#[112, 111, 114, 116, 32, 49, 48, 48, 32, 57]⟩ : ByteArray), (⟨#[112, 111, 114, 116, 32, 48, 49, 32, 50]⟩ : ByteArray), (⟨#[112, 111, 114, 116, 32, 49]⟩ : ByteArray), (⟨#[97, 98, 99, 100, 101, 102, 103, 104, 105, 106, 32, 107, 108, 109, 110, 111]⟩ : ByteArray), (⟨#[112, 111, 114, 116]⟩ : ByteArray), (⟨#[112, 111, 114, 116, 32, 49, 32, 50, 32, 51]⟩ : ByteArray)] : List ByteArray)) := ⟨_, rfl⟩
   replace H : ((spec_l20Rd_pick.f k s0_0 t235 10).bind fun bt243 => (if 0 ≤ bt243.1 then (if bt243.1 < (y240.length : Int) then (some (rdOf ByteArray.empty y240 bt243.1, bt243.2)) else (none)) else (none))) = some (r1, r2) := by first | (rw [hy240]; with_reducible exact H) | (have H2_ := (Option.bind_some _ _).symm.trans H; rw [hy240]; with_reducible exact H2_) | (have H2_ := (Option.bind_some _ _).symm.trans H; with_reducible exact H2_) | with_reducible exact H | (rw [hy240]; exact H) | exact H
   have Ny240 := Aside0.mk hy240
   clear hy240
   replace H := Option.bind_eq_some_iff.mp H
   obtain ⟨⟨t243, t244⟩, A100, H⟩ := H
   try dsimp only at H
   have A10 := Aside0.mk A100
   clear A100
   by_cases c11 : 0 ≤ t243
   ·rw [if_pos c11] at H
    have c11b0 : decide (0 ≤ t243) = true := decide_eq_true c11
    clear c11
    by_cases c12 : t243 < (y240.length : Int)
    ·rw [if_pos c12] at H
     have c12b0 : decide (t243 < (y240.length : Int)) = true := decide_eq_true c12
     clear c12
     simp only [Option.some.injEq, Prod.mk.injEq] at H
     obtain ⟨rfl, rfl⟩ := H
     go_enter Tryz.func42, Tryz.ntmps42
     go_wp2_with (first | ((with_reducible refine gate_callee (f := 63) rfl ?_); refine gL (some 4) Tryz.func63 #[.pointer (some ⟨g, 0, none⟩), .int .i64 3] ?_; (with_reducible refine (spec_l20Rd_pick.calls k g s0_0 s0_1 3 t234 t235 w0 _ ?side1 ?side2 A2.out).mono ?_); (case side1 => exact m25_); (case side2 => exact m23_); rintro e w13 ⟨rfl, hi, hb, hk⟩; refine ⟨_, rfl, ?_⟩; replace HK := Aside0.mk (KeepBut.trans m24_ hk (.inl rfl)); replace HB := Aside0.mk hb; replace HI0 := Aside0.mk hi; (try clear hb); (try clear hk); (try clear hi)) | ((with_reducible refine gate_dst (N := 12) rfl ?_); refine Kd.R_lit Kd.string _ 9 rfl (N := 12) rfl (xs := ([(⟨#[]⟩ : ByteArray), (⟨#[108, 105, 115, 116]⟩ : ByteArray), (⟨#[117, 115, 101, 114, 32, 97]⟩ : ByteArray), (⟨#[112, 111, 114, 116, 32, 53, 48, 32, 53, 48, 48]⟩ : ByteArray), (⟨#[112, 111, 114, 116, 32, 49, 48, 48, 32, 57]⟩ : ByteArray), (⟨#[112, 111, 114, 116, 32, 48, 49, 32, 50]⟩ : ByteArray), (⟨#[112, 111, 114, 116, 32, 49]⟩ : ByteArray), (⟨#[97, 98, 99, 100, 101, 102, 103, 104, 105, 106, 32, 107, 108, 109, 110, 111]⟩ : ByteArray), (⟨#[112, 111, 114, 116]⟩ : ByteArray), (⟨#[112, 111, 114, 116, 32, 49, 32, 50, 32, 51]⟩ : ByteArray)] : List ByteArray)) (inner := [.string (⟨#[]⟩ : ByteArray), .string (⟨#[108, 105, 115, 116]⟩ : ByteArray), .string (⟨#[117, 115, 101, 114, 32, 97]⟩ : ByteArray), .string (⟨#[112, 111, 114, 116, 32, 53, 48, 32, 53, 48, 48]⟩ : ByteArray), .string (⟨#[112, 111, 114, 116, 32, 49, 48, 48, 32, 57]⟩ : ByteArray), .string (⟨#[112, 111, 114, 116, 32, 48, 49, 32, 50]⟩ : ByteArray), .string (⟨#[112, 111, 114, 116, 32, 49]⟩ : ByteArray), .string (⟨#[97, 98, 99, 100, 101, 102, 103, 104, 105, 106, 32, 107, 108, 109, 110, 111]⟩ : ByteArray), .string (⟨#[112, 111, 114, 116]⟩ : ByteArray), .string (⟨#[112, 111, 114, 116, 32, 49, 32, 50, 32, 51]⟩ : ByteArray)]) (ok := fun _ => True) (okp := fun _ => True) hr_ ?hp (fun _ hk => hk) trivial (Below.refl _ _) (Nat.le_refl _) (by simp) ?_; (case hp => exact (Reps.one (show Kd.M Kd.string _ _ _ (⟨#[]⟩ : ByteArray) [.string (⟨#[]⟩ : ByteArray)] from rfl) (Reps.one (show Kd.M Kd.string _ _ _ (⟨#[108, 105, 115, 116]⟩ : ByteArray) [.string (⟨#[108, 105, 115, 116]⟩ : ByteArray)] from rfl) (Reps.one (show Kd.M Kd.string _ _ _ (⟨#[117, 115, 101, 114, 32, 97]⟩ : ByteArray) [.string (⟨#[117, 115, 101, 114, 32, 97]⟩ : ByteArray)] from rfl) (Reps.one (show Kd.M Kd.string _ _ _ (⟨#[112, 111, 114, 116, 32, 53, 48, 32, 53, 48, 48]⟩ : ByteArray) [.string (⟨#[112, 111, 114, 116, 32, 53, 48, 32, 53, 48, 48]⟩ : ByteArray)] from rfl) (Reps.one (show Kd.M Kd.string _ _ _ (⟨#[112, 111, 114, 116, 32, 49, 48, 48, 32, 57]⟩ : ByteArray) [.string (⟨#[112, 111, 114, 116, 32, 49, 48, 48, 32, 57]⟩ : ByteArray)] from rfl) (Reps.one (show Kd.M Kd.string _ _ _ (⟨#[112, 111, 114, 116, 32, 48, 49, 32, 50]⟩ : ByteArray) [.string (⟨#[112, 111, 114, 116, 32, 48, 49, 32, 50]⟩ : ByteArray)] from rfl) (Reps.one (show Kd.M Kd.string _ _ _ (⟨#[112, 111, 114, 116, 32, 49]⟩ : ByteArray) [.string (⟨#[112, 111, 114, 116, 32, 49]⟩ : ByteArray)] from rfl) (Reps.one (show Kd.M Kd.string _ _ _ (⟨#[97, 98, 99, 100, 101, 102, 103, 104, 105, 106, 32, 107, 108, 109, 110, 111]⟩ : ByteArray) [.string (⟨#[97, 98, 99, 100, 101, 102, 103, 104, 105, 106, 32, 107, 108, 109, 110, 111]⟩ : ByteArray)] from rfl) (Reps.one (show Kd.M Kd.string _ _ _ (⟨#[112, 111, 114, 116]⟩ : ByteArray) [.string (⟨#[112, 111, 114, 116]⟩ : ByteArray)] from rfl) (Reps.one (show Kd.M Kd.string _ _ _ (⟨#[112, 111, 114, 116, 32, 49, 32, 50, 32, 51]⟩ : ByteArray) [.string (⟨#[112, 111, 114, 116, 32, 49, 32, 50, 32, 51]⟩ : ByteArray)] from rfl) (Reps.none _ _)))))))))))); intro v241 w14 ho15 hb hg_ hnew_; clear hg_ hnew_; (first | rw [← Ny240.out] at ho15 | (simp only [Int.reduceToNat] at ho15; rw [← Ny240.out] at ho15)); have HO242 := Aside0.mk (Kd.R_lower ho15 (keep_size (w := w) (g := g) (row := none) m24_)); replace HK := Aside0.mk (KeepBut.trans m24_ (KeepBut.of_below hb g none) (.inl rfl)); replace HB := Aside0.mk (below_step m23_ hb); replace HI0 := Aside0.mk (IsS84.below m25_ hb); clear hb ho15) | ((with_reducible refine gate_callee (f := 63) rfl ?_); refine gL (some 14) Tryz.func63 #[.pointer (some ⟨g, 0, none⟩), .int .i64 10] ?_; (with_reducible refine (spec_l20Rd_pick.calls k g s0_0 t235 10 t243 t244 w0 _ ?side1 ?side2 A10.out).mono ?_); (case side1 => exact m25_); (case side2 => exact m23_); rintro e w16 ⟨rfl, hi, hb, hk⟩; refine ⟨_, rfl, ?_⟩; replace HO242 := Aside0.mk (Kd.R_mono (Kd.R_keep (IsS84.apart (show IsS84 w0 _ g s0_0 t235 from m25_) (rs HO242) (by decide)) hk (fun _ h => h.2)) (fun _ h => h.1)); replace HK := Aside0.mk (KeepBut.trans m24_ hk (.inl rfl)); replace HB := Aside0.mk hb; replace HI0 := Aside0.mk hi; (try clear hb); (try clear hk); (try clear hi); obtain ⟨Ao17, co17, eo17⟩ := Kd.R_slice HO242.out; subst eo17; have p245 : 0 ≤ (t243 : Int) := of_decide_eq_true da_; have q245 : t243 < (y240.length : Int) := of_decide_eq_true da_; obtain ⟨ad245, e245, hx245_0⟩ := Kd.at_string (Kd.R_reads' HO242.out).2.2 t243 p245 q245; cases e245; replace p245 := eq_true p245; replace q245 := eq_true q245))
     go_ret
     exact ⟨fi_, m25_, m23_, m24_⟩
    ·rw [if_neg c12] at H
     exact absurd H (by simp)
   ·rw [if_neg c11] at H
    exact absurd H (by simp)
  ·rw [if_neg c9] at H
   have c9b0 : (t234 == 1) = false := beq_eq_false_iff_ne.mpr c9
   have c9b1 : (t234 != 1) = true := bne_iff_ne.mpr c9
   obtain ⟨y246, hy246⟩ : ∃ y_ : List ByteArray, y_ = (([(⟨#[97]⟩ : ByteArray), (⟨#[98, 98]⟩ : ByteArray), (⟨#[103, 101, 116, 32, 102, 105, 108, 101, 49]⟩ : ByteArray), (⟨#[113, 117, 105, 116]⟩ : ByteArray)] : List ByteArray)) := ⟨_, rfl⟩
   replace H : ((spec_l20Rd_pick.f k s0_0 t235 4).bind fun bt249 => (if 0 ≤ bt249.1 then (if bt249.1 < (y246.length : Int) then (some (rdOf ByteArray.empty y246 bt249.1, bt249.2)) else (none)) else (none))) = some (r1, r2) := by first | (rw [hy246]; with_reducible exact H) | (have H2_ := (Option.bind_some _ _).symm.trans H; rw [hy246]; with_reducible exact H2_) | (have H2_ := (Option.bind_some _ _).symm.trans H; with_reducible exact H2_) | with_reducible exact H | (rw [hy246]; exact H) | exact H
   have Ny246 := Aside0.mk hy246
   clear hy246
   replace H := Option.bind_eq_some_iff.mp H
   obtain ⟨⟨t249, t250⟩, A180, H⟩ := H
   try dsimp only at H
   have A18 := Aside0.mk A180
   clear A180
   by_cases c19 : 0 ≤ t249
   ·rw [if_pos c19] at H
    have c19b0 : decide (0 ≤ t249) = true := decide_eq_true c19
    clear c19
    by_cases c20 : t249 < (y246.length : Int)
    ·rw [if_pos c20] at H
     have c20b0 : decide (t249 < (y246.length : Int)) = true := decide_eq_true c20
     clear c20
     simp only [Option.some.injEq, Prod.mk.injEq] at H
     obtain ⟨rfl, rfl⟩ := H
     go_enter Tryz.func42, Tryz.ntmps42
     go_wp2_with (first | ((with_reducible refine gate_callee (f := 63) rfl ?_); refine gL (some 4) Tryz.func63 #[.pointer (some ⟨g, 0, none⟩), .int .i64 3] ?_; (with_reducible refine (spec_l20Rd_pick.calls k g s0_0 s0_1 3 t234 t235 w0 _ ?side1 ?side2 A2.out).mono ?_); (case side1 => exact m25_); (case side2 => exact m23_); rintro e w21 ⟨rfl, hi, hb, hk⟩; refine ⟨_, rfl, ?_⟩; replace HK := Aside0.mk (KeepBut.trans m24_ hk (.inl rfl)); replace HB := Aside0.mk hb; replace HI0 := Aside0.mk hi; (try clear hb); (try clear hk); (try clear hi)) | ((with_reducible refine gate_dst (N := 17) rfl ?_); refine Kd.R_lit Kd.string _ 9 rfl (N := 17) rfl (xs := ([(⟨#[97]⟩ : ByteArray), (⟨#[98, 98]⟩ : ByteArray), (⟨#[103, 101, 116, 32, 102, 105, 108, 101, 49]⟩ : ByteArray), (⟨#[113, 117, 105, 116]⟩ : ByteArray)] : List ByteArray)) (inner := [.string (⟨#[97]⟩ : ByteArray), .string (⟨#[98, 98]⟩ : ByteArray), .string (⟨#[103, 101, 116, 32, 102, 105, 108, 101, 49]⟩ : ByteArray), .string (⟨#[113, 117, 105, 116]⟩ : ByteArray)]) (ok := fun _ => True) (okp := fun _ => True) hr_ ?hp (fun _ hk => hk) trivial (Below.refl _ _) (Nat.le_refl _) (by simp) ?_; (case hp => exact (Reps.one (show Kd.M Kd.string _ _ _ (⟨#[97]⟩ : ByteArray) [.string (⟨#[97]⟩ : ByteArray)] from rfl) (Reps.one (show Kd.M Kd.string _ _ _ (⟨#[98, 98]⟩ : ByteArray) [.string (⟨#[98, 98]⟩ : ByteArray)] from rfl) (Reps.one (show Kd.M Kd.string _ _ _ (⟨#[103, 101, 116, 32, 102, 105, 108, 101, 49]⟩ : ByteArray) [.string (⟨#[103, 101, 116, 32, 102, 105, 108, 101, 49]⟩ : ByteArray)] from rfl) (Reps.one (show Kd.M Kd.string _ _ _ (⟨#[113, 117, 105, 116]⟩ : ByteArray) [.string (⟨#[113, 117, 105, 116]⟩ : ByteArray)] from rfl) (Reps.none _ _)))))); intro v247 w22 ho23 hb hg_ hnew_; clear hg_ hnew_; (first | rw [← Ny246.out] at ho23 | (simp only [Int.reduceToNat] at ho23; rw [← Ny246.out] at ho23)); have HO248 := Aside0.mk (Kd.R_lower ho23 (keep_size (w := w) (g := g) (row := none) m24_)); replace HK := Aside0.mk (KeepBut.trans m24_ (KeepBut.of_below hb g none) (.inl rfl)); replace HB := Aside0.mk (below_step m23_ hb); replace HI0 := Aside0.mk (IsS84.below m25_ hb); clear hb ho23) | ((with_reducible refine gate_callee (f := 63) rfl ?_); refine gL (some 19) Tryz.func63 #[.pointer (some ⟨g, 0, none⟩), .int .i64 4] ?_; (with_reducible refine (spec_l20Rd_pick.calls k g s0_0 t235 4 t249 t250 w0 _ ?side1 ?side2 A18.out).mono ?_); (case side1 => exact m25_); (case side2 => exact m23_); rintro e w24 ⟨rfl, hi, hb, hk⟩; refine ⟨_, rfl, ?_⟩; replace HO248 := Aside0.mk (Kd.R_mono (Kd.R_keep (IsS84.apart (show IsS84 w0 _ g s0_0 t235 from m25_) (rs HO248) (by decide)) hk (fun _ h => h.2)) (fun _ h => h.1)); replace HK := Aside0.mk (KeepBut.trans m24_ hk (.inl rfl)); replace HB := Aside0.mk hb; replace HI0 := Aside0.mk hi; (try clear hb); (try clear hk); (try clear hi); obtain ⟨Ao25, co25, eo25⟩ := Kd.R_slice HO248.out; subst eo25; have p251 : 0 ≤ (t249 : Int) := of_decide_eq_true da_; have q251 : t249 < (y246.length : Int) := of_decide_eq_true da_; obtain ⟨ad251, e251, hx251_0⟩ := Kd.at_string (Kd.R_reads' HO248.out).2.2 t249 p251 q251; cases e251; replace p251 := eq_true p251; replace q251 := eq_true q251))
     go_ret
     exact ⟨fi_, m25_, m23_, m24_⟩
    ·rw [if_neg c20] at H
     exact absurd H (by simp)
   ·rw [if_neg c19] at H
    exact absurd H (by simp)
def spec_l20Bent.f (k : Nat) (s0_0 : List Int) (s0_1 : Int) (a1 : ByteArray) : Option (ByteArray × Int) := (spec_l20Rd_pick.f k s0_0 s0_1 (wrap64 ((a1.size : Int) + 1))).bind fun bt252 => ((spec_l20Rd_pick.f k s0_0 bt252.2 256).bind fun bt254 => ((some (([32, 48, 49, 57, 59, 97, 112, bt254.1] : List Int) : List Int)).bind fun y256 => ((spec_l20Rd_pick.f k s0_0 bt254.2 8).bind fun bt259 => (if 0 ≤ bt259.1 then (if bt259.1 < (y256.length : Int) then ((some (([(rd y256 bt259.1) % 256] : List Int) : List Int)).bind fun y262 => ((spec_l20Rd_pick.f k s0_0 bt259.2 3).bind fun bt265 => (if bt265.1 = 0 then (if 0 ≤ bt252.1 then (if bt252.1 ≤ (a1.size : Int) then (if (a1.extract 0 (bt252.1 : Int).toNat).size + (strOfNums y262).size ≤ 9223372036854775807 then (if ((a1.extract 0 (bt252.1 : Int).toNat) ++ (strOfNums y262)).size + (a1.extract (bt252.1 : Int).toNat a1.size).size ≤ 9223372036854775807 then (some (((a1.extract 0 (bt252.1 : Int).toNat) ++ (strOfNums y262)) ++ (a1.extract (bt252.1 : Int).toNat a1.size), bt265.2)) else (none)) else (none)) else (none)) else (none)) else (if bt265.1 = 1 then (if bt252.1 < (a1.size : Int) then (if 0 ≤ bt252.1 then (if bt252.1 ≤ (a1.size : Int) then (if 0 ≤ (wrap64 (bt252.1 + 1)) then (if (wrap64 (bt252.1 + 1)) ≤ (a1.size : Int) then (if (a1.extract 0 (bt252.1 : Int).toNat).size + (a1.extract ((wrap64 (bt252.1 + 1)) : Int).toNat a1.size).size ≤ 9223372036854775807 then (some ((a1.extract 0 (bt252.1 : Int).toNat) ++ (a1.extract ((wrap64 (bt252.1 + 1)) : Int).toNat a1.size), bt265.2)) else (none)) else (none)) else (none)) else (none)) else (none)) else (some (a1, bt265.2))) else (if bt252.1 < (a1.size : Int) then (if 0 ≤ bt252.1 then (if bt252.1 ≤ (a1.size : Int) then (if (a1.extract 0 (bt252.1 : Int).toNat).size + (strOfNums y262).size ≤ 9223372036854775807 then (if 0 ≤ (wrap64 (bt252.1 + 1)) then (if (wrap64 (bt252.1 + 1)) ≤ (a1.size : Int) then (if ((a1.extract 0 (bt252.1 : Int).toNat) ++ (strOfNums y262)).size + (a1.extract ((wrap64 (bt252.1 + 1)) : Int).toNat a1.size).size ≤ 9223372036854775807 then (some (((a1.extract 0 (bt252.1 : Int).toNat) ++ (strOfNums y262)) ++ (a1.extract ((wrap64 (bt252.1 + 1)) : Int).toNat a1.size), bt265.2)) else (none)) else (none)) else (none)) else (none)) else (none)) else (none)) else (some (a1, bt265.2))))))) else (none)) else (none)))))
theorem spec_l20Bent.mono : ∀ a0 a1 a2 k, LeO (spec_l20Bent.f k a0 a1 a2) (spec_l20Bent.f (k + 1) a0 a1 a2) := by
 intro a0 a1 a2 k
 unfold spec_l20Bent.f
 repeat' first | (with_reducible first | exact spec_l20Rd_pick.mono _ _ _ _ | exact LeO.refl _ | exact LeO.none _ | refine LeO.ite ?_ ?_ | refine LeO.bind ?_ (fun _ => ?_)) | exact spec_l20Rd_pick.mono _ _ _ _ | exact LeO.none _ | refine LeO.ite ?_ ?_ | refine LeO.bind ?_ (fun _ => ?_)
set_option maxHeartbeats 8000000 in
set_option maxRecDepth 100000 in
theorem spec_l20Bent.calls (k : Nat) (g : Nat) (s0_0 : List Int) (s0_1 : Int) (a1 : ByteArray) (r1 : ByteArray) (r2 : Int) (w0 w : World) (hI : IsS84 w0 w g s0_0 s0_1) (hB : Below w0.heap.size w0 w) (h : spec_l20Bent.f k s0_0 s0_1 a1 = some (r1, r2)) :
  Calls Tryz.prog 44 #[.pointer (some ⟨g, 0, none⟩), .string a1] w fun e w' => e = .returned (.string r1) ∧ IsS84 w0 w' g s0_0 r2 ∧ Below w0.heap.size w0 w' ∧ KeepBut w w' g none := by
 have HI0 := Aside0.mk hI
 have HK := Aside0.mk (KeepBut.refl w g none)
 have HL := Aside0.mk hB.size
 clear hI
 have HW0 := Aside0.mk hB.size
 have HB := Aside0.mk hB
 clear hB
 have H : ((spec_l20Rd_pick.f k s0_0 s0_1 (wrap64 ((a1.size : Int) + 1))).bind fun bt252 => ((spec_l20Rd_pick.f k s0_0 bt252.2 256).bind fun bt254 => ((some (([32, 48, 49, 57, 59, 97, 112, bt254.1] : List Int) : List Int)).bind fun y256 => ((spec_l20Rd_pick.f k s0_0 bt254.2 8).bind fun bt259 => (if 0 ≤ bt259.1 then (if bt259.1 < (y256.length : Int) then ((some (([(rd y256 bt259.1) % 256] : List Int) : List Int)).bind fun y262 => ((spec_l20Rd_pick.f k s0_0 bt259.2 3).bind fun bt265 => (if bt265.1 = 0 then (if 0 ≤ bt252.1 then (if bt252.1 ≤ (a1.size : Int) then (if (a1.extract 0 (bt252.1 : Int).toNat).size + (strOfNums y262).size ≤ 9223372036854775807 then (if ((a1.extract 0 (bt252.1 : Int).toNat) ++ (strOfNums y262)).size + (a1.extract (bt252.1 : Int).toNat a1.size).size ≤ 9223372036854775807 then (some (((a1.extract 0 (bt252.1 : Int).toNat) ++ (strOfNums y262)) ++ (a1.extract (bt252.1 : Int).toNat a1.size), bt265.2)) else (none)) else (none)) else (none)) else (none)) else (if bt265.1 = 1 then (if bt252.1 < (a1.size : Int) then (if 0 ≤ bt252.1 then (if bt252.1 ≤ (a1.size : Int) then (if 0 ≤ (wrap64 (bt252.1 + 1)) then (if (wrap64 (bt252.1 + 1)) ≤ (a1.size : Int) then (if (a1.extract 0 (bt252.1 : Int).toNat).size + (a1.extract ((wrap64 (bt252.1 + 1)) : Int).toNat a1.size).size ≤ 9223372036854775807 then (some ((a1.extract 0 (bt252.1 : Int).toNat) ++ (a1.extract ((wrap64 (bt252.1 + 1)) : Int).toNat a1.size), bt265.2)) else (none)) else (none)) else (none)) else (none)) else (none)) else (some (a1, bt265.2))) else (if bt252.1 < (a1.size : Int) then (if 0 ≤ bt252.1 then (if bt252.1 ≤ (a1.size : Int) then (if (a1.extract 0 (bt252.1 : Int).toNat).size + (strOfNums y262).size ≤ 9223372036854775807 then (if 0 ≤ (wrap64 (bt252.1 + 1)) then (if (wrap64 (bt252.1 + 1)) ≤ (a1.size : Int) then (if ((a1.extract 0 (bt252.1 : Int).toNat) ++ (strOfNums y262)).size + (a1.extract ((wrap64 (bt252.1 + 1)) : Int).toNat a1.size).size ≤ 9223372036854775807 then (some (((a1.extract 0 (bt252.1 : Int).toNat) ++ (strOfNums y262)) ++ (a1.extract ((wrap64 (bt252.1 + 1)) : Int).toNat a1.size), bt265.2)) else (none)) else (none)) else (none)) else (none)) else (none)) else (none)) else (some (a1, bt265.2))))))) else (none)) else (none)))))) = some (r1, r2) := h
 clear h
 replace H := Option.bind_eq_some_iff.mp H
 obtain ⟨⟨t252, t253⟩, A30, H⟩ := H
 try dsimp only at H
 have A3 := Aside0.mk A30
 clear A30
 replace H := Option.bind_eq_some_iff.mp H
 obtain ⟨⟨t254, t255⟩, A40, H⟩ := H
 try dsimp only at H
 have A4 := Aside0.mk A40
 clear A40
 obtain ⟨y256, hy256⟩ : ∃ y_ : List Int, y_ = (([32, 48, 49, 57, 59, 97, 112, t254] : List Int)) := ⟨_, rfl⟩
 replace H : ((spec_l20Rd_pick.f k s0_0 t255 8).bind fun bt259 => (if 0 ≤ bt259.1 then (if bt259.1 < (y256.length : Int) then ((some (([(rd y256 bt259.1) % 256] : List Int) : List Int)).bind fun y262 => ((spec_l20Rd_pick.f k s0_0 bt259.2 3).bind fun bt265 => (if bt265.1 = 0 then (if 0 ≤ t252 then (if t252 ≤ (a1.size : Int) then (if (a1.extract 0 (t252 : Int).toNat).size + (strOfNums y262).size ≤ 9223372036854775807 then (if ((a1.extract 0 (t252 : Int).toNat) ++ (strOfNums y262)).size + (a1.extract (t252 : Int).toNat a1.size).size ≤ 9223372036854775807 then (some (((a1.extract 0 (t252 : Int).toNat) ++ (strOfNums y262)) ++ (a1.extract (t252 : Int).toNat a1.size), bt265.2)) else (none)) else (none)) else (none)) else (none)) else (if bt265.1 = 1 then (if t252 < (a1.size : Int) then (if 0 ≤ t252 then (if t252 ≤ (a1.size : Int) then (if 0 ≤ (wrap64 (t252 + 1)) then (if (wrap64 (t252 + 1)) ≤ (a1.size : Int) then (if (a1.extract 0 (t252 : Int).toNat).size + (a1.extract ((wrap64 (t252 + 1)) : Int).toNat a1.size).size ≤ 9223372036854775807 then (some ((a1.extract 0 (t252 : Int).toNat) ++ (a1.extract ((wrap64 (t252 + 1)) : Int).toNat a1.size), bt265.2)) else (none)) else (none)) else (none)) else (none)) else (none)) else (some (a1, bt265.2))) else (if t252 < (a1.size : Int) then (if 0 ≤ t252 then (if t252 ≤ (a1.size : Int) then (if (a1.extract 0 (t252 : Int).toNat).size + (strOfNums y262).size ≤ 9223372036854775807 then (if 0 ≤ (wrap64 (t252 + 1)) then (if (wrap64 (t252 + 1)) ≤ (a1.size : Int) then (if ((a1.extract 0 (t252 : Int).toNat) ++ (strOfNums y262)).size + (a1.extract ((wrap64 (t252 + 1)) : Int).toNat a1.size).size ≤ 9223372036854775807 then (some (((a1.extract 0 (t252 : Int).toNat) ++ (strOfNums y262)) ++ (a1.extract ((wrap64 (t252 + 1)) : Int).toNat a1.size), bt265.2)) else (none)) else (none)) else (none)) else (none)) else (none)) else (none)) else (some (a1, bt265.2))))))) else (none)) else (none))) = some (r1, r2) := by first | (rw [hy256]; with_reducible exact H) | (have H2_ := (Option.bind_some _ _).symm.trans H; rw [hy256]; with_reducible exact H2_) | (have H2_ := (Option.bind_some _ _).symm.trans H; with_reducible exact H2_) | with_reducible exact H | (rw [hy256]; exact H) | exact H
 have Ny256 := Aside0.mk hy256
 clear hy256
 replace H := Option.bind_eq_some_iff.mp H
 obtain ⟨⟨t259, t260⟩, A50, H⟩ := H
 try dsimp only at H
 have A5 := Aside0.mk A50
 clear A50
 by_cases c6 : 0 ≤ t259
 ·rw [if_pos c6] at H
  have c6b0 : decide (0 ≤ t259) = true := decide_eq_true c6
  clear c6
  by_cases c7 : t259 < (y256.length : Int)
  ·rw [if_pos c7] at H
   have c7b0 : decide (t259 < (y256.length : Int)) = true := decide_eq_true c7
   clear c7
   obtain ⟨y262, hy262⟩ : ∃ y_ : List Int, y_ = (([(rd y256 t259) % 256] : List Int)) := ⟨_, rfl⟩
   replace H : ((spec_l20Rd_pick.f k s0_0 t260 3).bind fun bt265 => (if bt265.1 = 0 then (if 0 ≤ t252 then (if t252 ≤ (a1.size : Int) then (if (a1.extract 0 (t252 : Int).toNat).size + (strOfNums y262).size ≤ 9223372036854775807 then (if ((a1.extract 0 (t252 : Int).toNat) ++ (strOfNums y262)).size + (a1.extract (t252 : Int).toNat a1.size).size ≤ 9223372036854775807 then (some (((a1.extract 0 (t252 : Int).toNat) ++ (strOfNums y262)) ++ (a1.extract (t252 : Int).toNat a1.size), bt265.2)) else (none)) else (none)) else (none)) else (none)) else (if bt265.1 = 1 then (if t252 < (a1.size : Int) then (if 0 ≤ t252 then (if t252 ≤ (a1.size : Int) then (if 0 ≤ (wrap64 (t252 + 1)) then (if (wrap64 (t252 + 1)) ≤ (a1.size : Int) then (if (a1.extract 0 (t252 : Int).toNat).size + (a1.extract ((wrap64 (t252 + 1)) : Int).toNat a1.size).size ≤ 9223372036854775807 then (some ((a1.extract 0 (t252 : Int).toNat) ++ (a1.extract ((wrap64 (t252 + 1)) : Int).toNat a1.size), bt265.2)) else (none)) else (none)) else (none)) else (none)) else (none)) else (some (a1, bt265.2))) else (if t252 < (a1.size : Int) then (if 0 ≤ t252 then (if t252 ≤ (a1.size : Int) then (if (a1.extract 0 (t252 : Int).toNat).size + (strOfNums y262).size ≤ 9223372036854775807 then (if 0 ≤ (wrap64 (t252 + 1)) then (if (wrap64 (t252 + 1)) ≤ (a1.size : Int) then (if ((a1.extract 0 (t252 : Int).toNat) ++ (strOfNums y262)).size + (a1.extract ((wrap64 (t252 + 1)) : Int).toNat a1.size).size ≤ 9223372036854775807 then (some (((a1.extract 0 (t252 : Int).toNat) ++ (strOfNums y262)) ++ (a1.extract ((wrap64 (t252 + 1)) : Int).toNat a1.size), bt265.2)) else (none)) else (none)) else (none)) else (none)) else (none)) else (none)) else (some (a1, bt265.2)))))) = some (r1, r2) := by first | (rw [hy262]; with_reducible exact H) | (have H2_ := (Option.bind_some _ _).symm.trans H; rw [hy262]; with_reducible exact H2_) | (have H2_ := (Option.bind_some _ _).symm.trans H; with_reducible exact H2_) | with_reducible exact H | (rw [hy262]; exact H) | exact H
   have Ny262 := Aside0.mk hy262
   clear hy262
   replace H := Option.bind_eq_some_iff.mp H
   obtain ⟨⟨t265, t266⟩, A80, H⟩ := H
   try dsimp only at H
   have A8 := Aside0.mk A80
   clear A80
   by_cases c9 : t265 = 0
   ·rw [if_pos c9] at H
    have c9b0 : (t265 == 0) = true := beq_iff_eq.mpr c9
    have c9b1 : (t265 != 0) = false := bne_eq_false_iff_eq.mpr c9
    clear c9
    by_cases c10 : 0 ≤ t252
    ·rw [if_pos c10] at H
     have c10b0 := eq_true c10
     have c10b1 : decide (0 ≤ t252) = true := decide_eq_true c10
     clear c10
     by_cases c11 : t252 ≤ (a1.size : Int)
     ·rw [if_pos c11] at H
      have c11b0 := eq_true c11
      have c11b1 : decide (t252 ≤ (a1.size : Int)) = true := decide_eq_true c11
      clear c11
      by_cases c12 : (a1.extract 0 (t252 : Int).toNat).size + (strOfNums y262).size ≤ 9223372036854775807
      ·rw [if_pos c12] at H
       have c12b0 := eq_true c12
       have c12b1 : decide ((a1.extract 0 (t252 : Int).toNat).size + (strOfNums y262).size ≤ 9223372036854775807) = true := decide_eq_true c12
       try have c12b2 : (9223372036854775807 < (a1.extract 0 (t252 : Int).toNat).size + (strOfNums y262).size) = False := eq_false (Nat.not_lt.2 c12)
       have c13b0 := eq_true (of_decide_eq_true da_ : 0 ≤ t252)
       have c14b0 := eq_true (of_decide_eq_true da_ : t252 ≤ (a1.size : Int))
       by_cases c15 : ((a1.extract 0 (t252 : Int).toNat) ++ (strOfNums y262)).size + (a1.extract (t252 : Int).toNat a1.size).size ≤ 9223372036854775807
       ·rw [if_pos c15] at H
        have c15b0 := eq_true c15
        have c15b1 : decide (((a1.extract 0 (t252 : Int).toNat) ++ (strOfNums y262)).size + (a1.extract (t252 : Int).toNat a1.size).size ≤ 9223372036854775807) = true := decide_eq_true c15
        try have c15b2 : (9223372036854775807 < ((a1.extract 0 (t252 : Int).toNat) ++ (strOfNums y262)).size + (a1.extract (t252 : Int).toNat a1.size).size) = False := eq_false (Nat.not_lt.2 c15)
        try have c15b3 : (9223372036854775807 < (a1.extract 0 (t252 : Int).toNat).size + (strOfNums y262).size + (a1.extract (t252 : Int).toNat a1.size).size) = False := (by have z_ := c15b2; simp only [ByteArray.size_append] at z_; exact z_)
        simp only [Option.some.injEq, Prod.mk.injEq] at H
        obtain ⟨rfl, rfl⟩ := H
        go_enter Tryz.func44, Tryz.ntmps44
        iterate 4 ((try go_quiet (fail)); (try go_wp2_with (first | (go_at_call 63; (with_reducible refine (spec_l20Rd_pick.calls k g s0_0 s0_1 (wrap64 ((a1.size : Int) + 1)) t252 t253 w0 _ ?side1 ?side2 A3.out).mono ?_); (case side1 => exact m25_); (case side2 => exact m23_); rintro e w16 ⟨rfl, hi, hb, hk⟩; replace HK := Aside0.mk (KeepBut.trans m24_ hk (.inl rfl)); replace HB := Aside0.mk hb; replace HI0 := Aside0.mk hi; (try clear hb); (try clear hk); (try clear hi)) | (go_at_call 63; (with_reducible refine (spec_l20Rd_pick.calls k g s0_0 t253 256 t254 t255 w0 _ ?side1 ?side2 A4.out).mono ?_); (case side1 => exact m25_); (case side2 => exact m23_); rintro e w17 ⟨rfl, hi, hb, hk⟩; replace HK := Aside0.mk (KeepBut.trans m24_ hk (.inl rfl)); replace HB := Aside0.mk hb; replace HI0 := Aside0.mk hi; (try clear hb); (try clear hk); (try clear hi)) | ((with_reducible refine gate_dst (N := 14) rfl ?_); refine Kd.R_lit (Kd.int .i64) _ 3 rfl (N := 14) rfl (xs := ([32, 48, 49, 57, 59, 97, 112, t254] : List Int)) (inner := [.int .i64 32, .int .i64 48, .int .i64 49, .int .i64 57, .int .i64 59, .int .i64 97, .int .i64 112, .int .i64 t254]) (ok := fun _ => True) (okp := fun _ => True) hr_ ?hp (fun _ hk => hk) trivial (Below.refl _ _) (Nat.le_refl _) (by simp) ?_; (case hp => exact (Reps.one (show Kd.M (Kd.int .i64) _ _ _ 32 [.int .i64 32] from rfl) (Reps.one (show Kd.M (Kd.int .i64) _ _ _ 48 [.int .i64 48] from rfl) (Reps.one (show Kd.M (Kd.int .i64) _ _ _ 49 [.int .i64 49] from rfl) (Reps.one (show Kd.M (Kd.int .i64) _ _ _ 57 [.int .i64 57] from rfl) (Reps.one (show Kd.M (Kd.int .i64) _ _ _ 59 [.int .i64 59] from rfl) (Reps.one (show Kd.M (Kd.int .i64) _ _ _ 97 [.int .i64 97] from rfl) (Reps.one (show Kd.M (Kd.int .i64) _ _ _ 112 [.int .i64 112] from rfl) (Reps.one (show Kd.M (Kd.int .i64) _ _ _ t254 [.int .i64 t254] from rfl) (Reps.none _ _)))))))))); intro v257 w18 ho19 hb hg_ hnew_; clear hg_ hnew_; (first | rw [← Ny256.out] at ho19 | (simp only [Int.reduceToNat] at ho19; rw [← Ny256.out] at ho19)); have HO258 := Aside0.mk (Kd.R_lower ho19 (keep_size (w := w) (g := g) (row := none) m24_)); replace HK := Aside0.mk (KeepBut.trans m24_ (KeepBut.of_below hb g none) (.inl rfl)); replace HB := Aside0.mk (below_step m23_ hb); replace HI0 := Aside0.mk (IsS84.below m25_ hb); clear hb ho19) | (go_at_call 63; (with_reducible refine (spec_l20Rd_pick.calls k g s0_0 t255 8 t259 t260 w0 _ ?side1 ?side2 A5.out).mono ?_); (case side1 => exact m25_); (case side2 => exact m23_); rintro e w20 ⟨rfl, hi, hb, hk⟩; replace HO258 := Aside0.mk (Kd.R_mono (Kd.R_keep (IsS84.apart (show IsS84 w0 _ g s0_0 t255 from m25_) (rs HO258) (by decide)) hk (fun _ h => h.2)) (fun _ h => h.1)); replace HK := Aside0.mk (KeepBut.trans m24_ hk (.inl rfl)); replace HB := Aside0.mk hb; replace HI0 := Aside0.mk hi; (try clear hb); (try clear hk); (try clear hi); obtain ⟨Ao21, co21, eo21⟩ := Kd.R_slice HO258.out; subst eo21; have p261 : 0 ≤ (t259 : Int) := of_decide_eq_true da_; have q261 : t259 < (y256.length : Int) := of_decide_eq_true da_; obtain ⟨ad261, e261, hx261_0⟩ := Kd.at_int (Kd.R_reads' HO258.out).2.2 t259 p261 q261; cases e261; replace p261 := eq_true p261; replace q261 := eq_true q261) | ((with_reducible refine gate_dst (N := 20) rfl ?_); refine Kd.R_lit (Kd.int .u8) _ 5 rfl (N := 20) rfl (xs := ([(rd y256 t259) % 256] : List Int)) (inner := [.int .u8 ((rd y256 t259) % 256)]) (ok := fun _ => True) (okp := fun _ => True) hr_ ?hp (fun _ hk => hk) trivial (Below.refl _ _) (Nat.le_refl _) (by simp) ?_; (case hp => exact (Reps.one (show Kd.M (Kd.int .u8) _ _ _ ((rd y256 t259) % 256) [.int .u8 ((rd y256 t259) % 256)] from rfl) (Reps.none _ _))); intro v263 w22 ho23 hb hg_ hnew_; clear hg_ hnew_; (first | rw [← Ny262.out] at ho23 | (simp only [Int.reduceToNat] at ho23; rw [← Ny262.out] at ho23)); replace HO258 := Aside0.mk (Kd.R_below (rs HO258) hb); have HO264 := Aside0.mk (Kd.R_lower ho23 (keep_size (w := w) (g := g) (row := none) m24_)); replace HK := Aside0.mk (KeepBut.trans m24_ (KeepBut.of_below hb g none) (.inl rfl)); replace HB := Aside0.mk (below_step m23_ hb); replace HI0 := Aside0.mk (IsS84.below m25_ hb); clear hb ho23; have hcv24 := own_string (P := Tryz.prog) Tryz.underlying22 Tryz.underlying5 Tryz.underlying9 (Kd.own_of_R HO264.out)) | (go_at_call 63; (with_reducible refine (spec_l20Rd_pick.calls k g s0_0 t260 3 t265 t266 w0 _ ?side1 ?side2 A8.out).mono ?_); (case side1 => exact m25_); (case side2 => exact m23_); rintro e w25 ⟨rfl, hi, hb, hk⟩; replace HO258 := Aside0.mk (Kd.R_mono (Kd.R_keep (IsS84.apart (show IsS84 w0 _ g s0_0 t260 from m25_) (rs HO258) (by decide)) hk (fun _ h => h.2)) (fun _ h => h.1)); replace HO264 := Aside0.mk (Kd.R_mono (Kd.R_keep (IsS84.apart (show IsS84 w0 _ g s0_0 t260 from m25_) (rs HO264) (by decide)) hk (fun _ h => h.2)) (fun _ h => h.1)); replace HK := Aside0.mk (KeepBut.trans m24_ hk (.inl rfl)); replace HB := Aside0.mk hb; replace HI0 := Aside0.mk hi; (try clear hb); (try clear hk); (try clear hi)))))
        go_ret
        exact ⟨fi_, m25_, m23_, m24_⟩
       ·rw [if_neg c15] at H
        exact absurd H (by simp)
      ·rw [if_neg c12] at H
       exact absurd H (by simp)
     ·rw [if_neg c11] at H
      exact absurd H (by simp)
    ·rw [if_neg c10] at H
     exact absurd H (by simp)
   ·rw [if_neg c9] at H
    have c9b0 : (t265 == 0) = false := beq_eq_false_iff_ne.mpr c9
    have c9b1 : (t265 != 0) = true := bne_iff_ne.mpr c9
    by_cases c26 : t265 = 1
    ·rw [if_pos c26] at H
     have c26b0 : (t265 == 1) = true := beq_iff_eq.mpr c26
     have c26b1 : (t265 != 1) = false := bne_eq_false_iff_eq.mpr c26
     clear c26
     by_cases c27 : t252 < (a1.size : Int)
     ·rw [if_pos c27] at H
      have c27b0 : decide (t252 < (a1.size : Int)) = true := decide_eq_true c27
      clear c27
      by_cases c28 : 0 ≤ t252
      ·rw [if_pos c28] at H
       have c28b0 := eq_true c28
       have c28b1 : decide (0 ≤ t252) = true := decide_eq_true c28
       clear c28
       by_cases c29 : t252 ≤ (a1.size : Int)
       ·rw [if_pos c29] at H
        have c29b0 := eq_true c29
        have c29b1 : decide (t252 ≤ (a1.size : Int)) = true := decide_eq_true c29
        clear c29
        obtain ⟨ji30, hji30⟩ : ∃ j_ : Int, (wrap64 (t252 + 1)) = j_ := ⟨_, rfl⟩
        replace H : (if 0 ≤ (ji30) then (if (ji30) ≤ (a1.size : Int) then (if (a1.extract 0 (t252 : Int).toNat).size + (a1.extract ((ji30) : Int).toNat a1.size).size ≤ 9223372036854775807 then (some ((a1.extract 0 (t252 : Int).toNat) ++ (a1.extract ((ji30) : Int).toNat a1.size), t266)) else (none)) else (none)) else (none)) = some (r1, r2) := by first | (rw [hji30] at H; exact H) | (simp only [hji30] at H ⊢; exact H)
        (try rw [hji30] at A3)
        (try rw [hji30] at A4)
        (try rw [hji30] at A5)
        (try rw [hji30] at A8)
        have hji30w : (IntKind.i64.wrap (t252 + 1)) = ji30 := (i64_w _).trans hji30
        by_cases c31 : 0 ≤ (ji30)
        ·rw [if_pos c31] at H
         have c31b0 := eq_true c31
         have c31b1 : decide (0 ≤ (ji30)) = true := decide_eq_true c31
         clear c31
         by_cases c32 : (ji30) ≤ (a1.size : Int)
         ·rw [if_pos c32] at H
          have c32b0 := eq_true c32
          have c32b1 : decide ((ji30) ≤ (a1.size : Int)) = true := decide_eq_true c32
          clear c32
          by_cases c33 : (a1.extract 0 (t252 : Int).toNat).size + (a1.extract ((ji30) : Int).toNat a1.size).size ≤ 9223372036854775807
          ·rw [if_pos c33] at H
           have c33b0 := eq_true c33
           have c33b1 : decide ((a1.extract 0 (t252 : Int).toNat).size + (a1.extract ((ji30) : Int).toNat a1.size).size ≤ 9223372036854775807) = true := decide_eq_true c33
           try have c33b2 : (9223372036854775807 < (a1.extract 0 (t252 : Int).toNat).size + (a1.extract ((ji30) : Int).toNat a1.size).size) = False := eq_false (Nat.not_lt.2 c33)
           simp only [Option.some.injEq, Prod.mk.injEq] at H
           obtain ⟨rfl, rfl⟩ := H
           go_enter Tryz.func44, Tryz.ntmps44
           iterate 4 ((try go_quiet (fail)); (try go_wp2_with (first | (go_at_call 63; (with_reducible refine (spec_l20Rd_pick.calls k g s0_0 s0_1 (wrap64 ((a1.size : Int) + 1)) t252 t253 w0 _ ?side1 ?side2 A3.out).mono ?_); (case side1 => exact m25_); (case side2 => exact m23_); rintro e w34 ⟨rfl, hi, hb, hk⟩; replace HK := Aside0.mk (KeepBut.trans m24_ hk (.inl rfl)); replace HB := Aside0.mk hb; replace HI0 := Aside0.mk hi; (try clear hb); (try clear hk); (try clear hi)) | (go_at_call 63; (with_reducible refine (spec_l20Rd_pick.calls k g s0_0 t253 256 t254 t255 w0 _ ?side1 ?side2 A4.out).mono ?_); (case side1 => exact m25_); (case side2 => exact m23_); rintro e w35 ⟨rfl, hi, hb, hk⟩; replace HK := Aside0.mk (KeepBut.trans m24_ hk (.inl rfl)); replace HB := Aside0.mk hb; replace HI0 := Aside0.mk hi; (try clear hb); (try clear hk); (try clear hi)) | ((with_reducible refine gate_dst (N := 14) rfl ?_); refine Kd.R_lit (Kd.int .i64) _ 3 rfl (N := 14) rfl (xs := ([32, 48, 49, 57, 59, 97, 112, t254] : List Int)) (inner := [.int .i64 32, .int .i64 48, .int .i64 49, .int .i64 57, .int .i64 59, .int .i64 97, .int .i64 112, .int .i64 t254]) (ok := fun _ => True) (okp := fun _ => True) hr_ ?hp (fun _ hk => hk) trivial (Below.refl _ _) (Nat.le_refl _) (by simp) ?_; (case hp => exact (Reps.one (show Kd.M (Kd.int .i64) _ _ _ 32 [.int .i64 32] from rfl) (Reps.one (show Kd.M (Kd.int .i64) _ _ _ 48 [.int .i64 48] from rfl) (Reps.one (show Kd.M (Kd.int .i64) _ _ _ 49 [.int .i64 49] from rfl) (Reps.one (show Kd.M (Kd.int .i64) _ _ _ 57 [.int .i64 57] from rfl) (Reps.one (show Kd.M (Kd.int .i64) _ _ _ 59 [.int .i64 59] from rfl) (Reps.one (show Kd.M (Kd.int .i64) _ _ _ 97 [.int .i64 97] from rfl) (Reps.one (show Kd.M (Kd.int .i64) _ _ _ 112 [.int .i64 112] from rfl) (Reps.one (show Kd.M (Kd.int .i64) _ _ _ t254 [.int .i64 t254] from rfl) (Reps.none _ _)))))))))); intro v257 w36 ho37 hb hg_ hnew_; clear hg_ hnew_; (first | rw [← Ny256.out] at ho37 | (simp only [Int.reduceToNat] at ho37; rw [← Ny256.out] at ho37)); have HO258 := Aside0.mk (Kd.R_lower ho37 (keep_size (w := w) (g := g) (row := none) m24_)); replace HK := Aside0.mk (KeepBut.trans m24_ (KeepBut.of_below hb g none) (.inl rfl)); replace HB := Aside0.mk (below_step m23_ hb); replace HI0 := Aside0.mk (IsS84.below m25_ hb); clear hb ho37) | (go_at_call 63; (with_reducible refine (spec_l20Rd_pick.calls k g s0_0 t255 8 t259 t260 w0 _ ?side1 ?side2 A5.out).mono ?_); (case side1 => exact m25_); (case side2 => exact m23_); rintro e w38 ⟨rfl, hi, hb, hk⟩; replace HO258 := Aside0.mk (Kd.R_mono (Kd.R_keep (IsS84.apart (show IsS84 w0 _ g s0_0 t255 from m25_) (rs HO258) (by decide)) hk (fun _ h => h.2)) (fun _ h => h.1)); replace HK := Aside0.mk (KeepBut.trans m24_ hk (.inl rfl)); replace HB := Aside0.mk hb; replace HI0 := Aside0.mk hi; (try clear hb); (try clear hk); (try clear hi); obtain ⟨Ao39, co39, eo39⟩ := Kd.R_slice HO258.out; subst eo39; have p261 : 0 ≤ (t259 : Int) := of_decide_eq_true da_; have q261 : t259 < (y256.length : Int) := of_decide_eq_true da_; obtain ⟨ad261, e261, hx261_0⟩ := Kd.at_int (Kd.R_reads' HO258.out).2.2 t259 p261 q261; cases e261; replace p261 := eq_true p261; replace q261 := eq_true q261) | ((with_reducible refine gate_dst (N := 20) rfl ?_); refine Kd.R_lit (Kd.int .u8) _ 5 rfl (N := 20) rfl (xs := ([(rd y256 t259) % 256] : List Int)) (inner := [.int .u8 ((rd y256 t259) % 256)]) (ok := fun _ => True) (okp := fun _ => True) hr_ ?hp (fun _ hk => hk) trivial (Below.refl _ _) (Nat.le_refl _) (by simp) ?_; (case hp => exact (Reps.one (show Kd.M (Kd.int .u8) _ _ _ ((rd y256 t259) % 256) [.int .u8 ((rd y256 t259) % 256)] from rfl) (Reps.none _ _))); intro v263 w40 ho41 hb hg_ hnew_; clear hg_ hnew_; (first | rw [← Ny262.out] at ho41 | (simp only [Int.reduceToNat] at ho41; rw [← Ny262.out] at ho41)); replace HO258 := Aside0.mk (Kd.R_below (rs HO258) hb); have HO264 := Aside0.mk (Kd.R_lower ho41 (keep_size (w := w) (g := g) (row := none) m24_)); replace HK := Aside0.mk (KeepBut.trans m24_ (KeepBut.of_below hb g none) (.inl rfl)); replace HB := Aside0.mk (below_step m23_ hb); replace HI0 := Aside0.mk (IsS84.below m25_ hb); clear hb ho41; have hcv42 := own_string (P := Tryz.prog) Tryz.underlying22 Tryz.underlying5 Tryz.underlying9 (Kd.own_of_R HO264.out)) | (go_at_call 63; (with_reducible refine (spec_l20Rd_pick.calls k g s0_0 t260 3 t265 t266 w0 _ ?side1 ?side2 A8.out).mono ?_); (case side1 => exact m25_); (case side2 => exact m23_); rintro e w43 ⟨rfl, hi, hb, hk⟩; replace HO258 := Aside0.mk (Kd.R_mono (Kd.R_keep (IsS84.apart (show IsS84 w0 _ g s0_0 t260 from m25_) (rs HO258) (by decide)) hk (fun _ h => h.2)) (fun _ h => h.1)); replace HO264 := Aside0.mk (Kd.R_mono (Kd.R_keep (IsS84.apart (show IsS84 w0 _ g s0_0 t260 from m25_) (rs HO264) (by decide)) hk (fun _ h => h.2)) (fun _ h => h.1)); replace HK := Aside0.mk (KeepBut.trans m24_ hk (.inl rfl)); replace HB := Aside0.mk hb; replace HI0 := Aside0.mk hi; (try clear hb); (try clear hk); (try clear hi)))))
           go_ret
           exact ⟨by first | rfl | (simp [errW_none, errW_some] <;> rfl) | (simp only [← hji30]; first | rfl | (simp [errW_none, errW_some] <;> rfl)) | (simp [*, errW_none, errW_some] <;> rfl), m25_, m23_, m24_⟩
          ·rw [if_neg c33] at H
           exact absurd H (by simp)
         ·rw [if_neg c32] at H
          exact absurd H (by simp)
        ·rw [if_neg c31] at H
         exact absurd H (by simp)
       ·rw [if_neg c29] at H
        exact absurd H (by simp)
      ·rw [if_neg c28] at H
       exact absurd H (by simp)
     ·rw [if_neg c27] at H
      have c27b0 : decide (t252 < (a1.size : Int)) = false := decide_eq_false c27
      clear c27
      simp only [Option.some.injEq, Prod.mk.injEq] at H
      obtain ⟨rfl, rfl⟩ := H
      go_enter Tryz.func44, Tryz.ntmps44
      iterate 4 ((try go_quiet (fail)); (try go_wp2_with (first | (go_at_call 63; (with_reducible refine (spec_l20Rd_pick.calls k g s0_0 s0_1 (wrap64 ((a1.size : Int) + 1)) t252 t253 w0 _ ?side1 ?side2 A3.out).mono ?_); (case side1 => exact m25_); (case side2 => exact m23_); rintro e w44 ⟨rfl, hi, hb, hk⟩; replace HK := Aside0.mk (KeepBut.trans m24_ hk (.inl rfl)); replace HB := Aside0.mk hb; replace HI0 := Aside0.mk hi; (try clear hb); (try clear hk); (try clear hi)) | (go_at_call 63; (with_reducible refine (spec_l20Rd_pick.calls k g s0_0 t253 256 t254 t255 w0 _ ?side1 ?side2 A4.out).mono ?_); (case side1 => exact m25_); (case side2 => exact m23_); rintro e w45 ⟨rfl, hi, hb, hk⟩; replace HK := Aside0.mk (KeepBut.trans m24_ hk (.inl rfl)); replace HB := Aside0.mk hb; replace HI0 := Aside0.mk hi; (try clear hb); (try clear hk); (try clear hi)) | ((with_reducible refine gate_dst (N := 14) rfl ?_); refine Kd.R_lit (Kd.int .i64) _ 3 rfl (N := 14) rfl (xs := ([32, 48, 49, 57, 59, 97, 112, t254] : List Int)) (inner := [.int .i64 32, .int .i64 48, .int .i64 49, .int .i64 57, .int .i64 59, .int .i64 97, .int .i64 112, .int .i64 t254]) (ok := fun _ => True) (okp := fun _ => True) hr_ ?hp (fun _ hk => hk) trivial (Below.refl _ _) (Nat.le_refl _) (by simp) ?_; (case hp => exact (Reps.one (show Kd.M (Kd.int .i64) _ _ _ 32 [.int .i64 32] from rfl) (Reps.one (show Kd.M (Kd.int .i64) _ _ _ 48 [.int .i64 48] from rfl) (Reps.one (show Kd.M (Kd.int .i64) _ _ _ 49 [.int .i64 49] from rfl) (Reps.one (show Kd.M (Kd.int .i64) _ _ _ 57 [.int .i64 57] from rfl) (Reps.one (show Kd.M (Kd.int .i64) _ _ _ 59 [.int .i64 59] from rfl) (Reps.one (show Kd.M (Kd.int .i64) _ _ _ 97 [.int .i64 97] from rfl) (Reps.one (show Kd.M (Kd.int .i64) _ _ _ 112 [.int .i64 112] from rfl) (Reps.one (show Kd.M (Kd.int .i64) _ _ _ t254 [.int .i64 t254] from rfl) (Reps.none _ _)))))))))); intro v257 w46 ho47 hb hg_ hnew_; clear hg_ hnew_; (first | rw [← Ny256.out] at ho47 | (simp only [Int.reduceToNat] at ho47; rw [← Ny256.out] at ho47)); have HO258 := Aside0.mk (Kd.R_lower ho47 (keep_size (w := w) (g := g) (row := none) m24_)); replace HK := Aside0.mk (KeepBut.trans m24_ (KeepBut.of_below hb g none) (.inl rfl)); replace HB := Aside0.mk (below_step m23_ hb); replace HI0 := Aside0.mk (IsS84.below m25_ hb); clear hb ho47) | (go_at_call 63; (with_reducible refine (spec_l20Rd_pick.calls k g s0_0 t255 8 t259 t260 w0 _ ?side1 ?side2 A5.out).mono ?_); (case side1 => exact m25_); (case side2 => exact m23_); rintro e w48 ⟨rfl, hi, hb, hk⟩; replace HO258 := Aside0.mk (Kd.R_mono (Kd.R_keep (IsS84.apart (show IsS84 w0 _ g s0_0 t255 from m25_) (rs HO258) (by decide)) hk (fun _ h => h.2)) (fun _ h => h.1)); replace HK := Aside0.mk (KeepBut.trans m24_ hk (.inl rfl)); replace HB := Aside0.mk hb; replace HI0 := Aside0.mk hi; (try clear hb); (try clear hk); (try clear hi); obtain ⟨Ao49, co49, eo49⟩ := Kd.R_slice HO258.out; subst eo49; have p261 : 0 ≤ (t259 : Int) := of_decide_eq_true da_; have q261 : t259 < (y256.length : Int) := of_decide_eq_true da_; obtain ⟨ad261, e261, hx261_0⟩ := Kd.at_int (Kd.R_reads' HO258.out).2.2 t259 p261 q261; cases e261; replace p261 := eq_true p261; replace q261 := eq_true q261) | ((with_reducible refine gate_dst (N := 20) rfl ?_); refine Kd.R_lit (Kd.int .u8) _ 5 rfl (N := 20) rfl (xs := ([(rd y256 t259) % 256] : List Int)) (inner := [.int .u8 ((rd y256 t259) % 256)]) (ok := fun _ => True) (okp := fun _ => True) hr_ ?hp (fun _ hk => hk) trivial (Below.refl _ _) (Nat.le_refl _) (by simp) ?_; (case hp => exact (Reps.one (show Kd.M (Kd.int .u8) _ _ _ ((rd y256 t259) % 256) [.int .u8 ((rd y256 t259) % 256)] from rfl) (Reps.none _ _))); intro v263 w50 ho51 hb hg_ hnew_; clear hg_ hnew_; (first | rw [← Ny262.out] at ho51 | (simp only [Int.reduceToNat] at ho51; rw [← Ny262.out] at ho51)); replace HO258 := Aside0.mk (Kd.R_below (rs HO258) hb); have HO264 := Aside0.mk (Kd.R_lower ho51 (keep_size (w := w) (g := g) (row := none) m24_)); replace HK := Aside0.mk (KeepBut.trans m24_ (KeepBut.of_below hb g none) (.inl rfl)); replace HB := Aside0.mk (below_step m23_ hb); replace HI0 := Aside0.mk (IsS84.below m25_ hb); clear hb ho51; have hcv52 := own_string (P := Tryz.prog) Tryz.underlying22 Tryz.underlying5 Tryz.underlying9 (Kd.own_of_R HO264.out)) | (go_at_call 63; (with_reducible refine (spec_l20Rd_pick.calls k g s0_0 t260 3 t265 t266 w0 _ ?side1 ?side2 A8.out).mono ?_); (case side1 => exact m25_); (case side2 => exact m23_); rintro e w53 ⟨rfl, hi, hb, hk⟩; replace HO258 := Aside0.mk (Kd.R_mono (Kd.R_keep (IsS84.apart (show IsS84 w0 _ g s0_0 t260 from m25_) (rs HO258) (by decide)) hk (fun _ h => h.2)) (fun _ h => h.1)); replace HO264 := Aside0.mk (Kd.R_mono (Kd.R_keep (IsS84.apart (show IsS84 w0 _ g s0_0 t260 from m25_) (rs HO264) (by decide)) hk (fun _ h => h.2)) (fun _ h => h.1)); replace HK := Aside0.mk (KeepBut.trans m24_ hk (.inl rfl)); replace HB := Aside0.mk hb; replace HI0 := Aside0.mk hi; (try clear hb); (try clear hk); (try clear hi)))))
      go_ret
      exact ⟨fi_, m25_, m23_, m24_⟩
    ·rw [if_neg c26] at H
     have c26b0 : (t265 == 1) = false := beq_eq_false_iff_ne.mpr c26
     have c26b1 : (t265 != 1) = true := bne_iff_ne.mpr c26
     by_cases c54 : t252 < (a1.size : Int)
     ·rw [if_pos c54] at H
      have c54b0 : decide (t252 < (a1.size : Int)) = true := decide_eq_true c54
      clear c54
      by_cases c55 : 0 ≤ t252
      ·rw [if_pos c55] at H
       have c55b0 := eq_true c55
       have c55b1 : decide (0 ≤ t252) = true := decide_eq_true c55
       clear c55
       by_cases c56 : t252 ≤ (a1.size : Int)
       ·rw [if_pos c56] at H
        have c56b0 := eq_true c56
        have c56b1 : decide (t252 ≤ (a1.size : Int)) = true := decide_eq_true c56
        clear c56
        by_cases c57 : (a1.extract 0 (t252 : Int).toNat).size + (strOfNums y262).size ≤ 9223372036854775807
        ·rw [if_pos c57] at H
         have c57b0 := eq_true c57
         have c57b1 : decide ((a1.extract 0 (t252 : Int).toNat).size + (strOfNums y262).size ≤ 9223372036854775807) = true := decide_eq_true c57
         try have c57b2 : (9223372036854775807 < (a1.extract 0 (t252 : Int).toNat).size + (strOfNums y262).size) = False := eq_false (Nat.not_lt.2 c57)
         obtain ⟨ji58, hji58⟩ : ∃ j_ : Int, (wrap64 (t252 + 1)) = j_ := ⟨_, rfl⟩
         replace H : (if 0 ≤ (ji58) then (if (ji58) ≤ (a1.size : Int) then (if ((a1.extract 0 (t252 : Int).toNat) ++ (strOfNums y262)).size + (a1.extract ((ji58) : Int).toNat a1.size).size ≤ 9223372036854775807 then (some (((a1.extract 0 (t252 : Int).toNat) ++ (strOfNums y262)) ++ (a1.extract ((ji58) : Int).toNat a1.size), t266)) else (none)) else (none)) else (none)) = some (r1, r2) := by first | (rw [hji58] at H; exact H) | (simp only [hji58] at H ⊢; exact H)
         (try rw [hji58] at A3)
         (try rw [hji58] at A4)
         (try rw [hji58] at A5)
         (try rw [hji58] at A8)
         have hji58w : (IntKind.i64.wrap (t252 + 1)) = ji58 := (i64_w _).trans hji58
         by_cases c59 : 0 ≤ (ji58)
         ·rw [if_pos c59] at H
          have c59b0 := eq_true c59
          have c59b1 : decide (0 ≤ (ji58)) = true := decide_eq_true c59
          clear c59
          by_cases c60 : (ji58) ≤ (a1.size : Int)
          ·rw [if_pos c60] at H
           have c60b0 := eq_true c60
           have c60b1 : decide ((ji58) ≤ (a1.size : Int)) = true := decide_eq_true c60
           clear c60
           by_cases c61 : ((a1.extract 0 (t252 : Int).toNat) ++ (strOfNums y262)).size + (a1.extract ((ji58) : Int).toNat a1.size).size ≤ 9223372036854775807
           ·rw [if_pos c61] at H
            have c61b0 := eq_true c61
            have c61b1 : decide (((a1.extract 0 (t252 : Int).toNat) ++ (strOfNums y262)).size + (a1.extract ((ji58) : Int).toNat a1.size).size ≤ 9223372036854775807) = true := decide_eq_true c61
            try have c61b2 : (9223372036854775807 < ((a1.extract 0 (t252 : Int).toNat) ++ (strOfNums y262)).size + (a1.extract ((ji58) : Int).toNat a1.size).size) = False := eq_false (Nat.not_lt.2 c61)
            try have c61b3 : (9223372036854775807 < (a1.extract 0 (t252 : Int).toNat).size + (strOfNums y262).size + (a1.extract ((ji58) : Int).toNat a1.size).size) = False := (by have z_ := c61b2; simp only [ByteArray.size_append] at z_; exact z_)
            simp only [Option.some.injEq, Prod.mk.injEq] at H
            obtain ⟨rfl, rfl⟩ := H
            go_enter Tryz.func44, Tryz.ntmps44
            iterate 4 ((try go_quiet (fail)); (try go_wp2_with (first | (go_at_call 63; (with_reducible refine (spec_l20Rd_pick.calls k g s0_0 s0_1 (wrap64 ((a1.size : Int) + 1)) t252 t253 w0 _ ?side1 ?side2 A3.out).mono ?_); (case side1 => exact m25_); (case side2 => exact m23_); rintro e w62 ⟨rfl, hi, hb, hk⟩; replace HK := Aside0.mk (KeepBut.trans m24_ hk (.inl rfl)); replace HB := Aside0.mk hb; replace HI0 := Aside0.mk hi; (try clear hb); (try clear hk); (try clear hi)) | (go_at_call 63; (with_reducible refine (spec_l20Rd_pick.calls k g s0_0 t253 256 t254 t255 w0 _ ?side1 ?side2 A4.out).mono ?_); (case side1 => exact m25_); (case side2 => exact m23_); rintro e w63 ⟨rfl, hi, hb, hk⟩; replace HK := Aside0.mk (KeepBut.trans m24_ hk (.inl rfl)); replace HB := Aside0.mk hb; replace HI0 := Aside0.mk hi; (try clear hb); (try clear hk); (try clear hi)) | ((with_reducible refine gate_dst (N := 14) rfl ?_); refine Kd.R_lit (Kd.int .i64) _ 3 rfl (N := 14) rfl (xs := ([32, 48, 49, 57, 59, 97, 112, t254] : List Int)) (inner := [.int .i64 32, .int .i64 48, .int .i64 49, .int .i64 57, .int .i64 59, .int .i64 97, .int .i64 112, .int .i64 t254]) (ok := fun _ => True) (okp := fun _ => True) hr_ ?hp (fun _ hk => hk) trivial (Below.refl _ _) (Nat.le_refl _) (by simp) ?_; (case hp => exact (Reps.one (show Kd.M (Kd.int .i64) _ _ _ 32 [.int .i64 32] from rfl) (Reps.one (show Kd.M (Kd.int .i64) _ _ _ 48 [.int .i64 48] from rfl) (Reps.one (show Kd.M (Kd.int .i64) _ _ _ 49 [.int .i64 49] from rfl) (Reps.one (show Kd.M (Kd.int .i64) _ _ _ 57 [.int .i64 57] from rfl) (Reps.one (show Kd.M (Kd.int .i64) _ _ _ 59 [.int .i64 59] from rfl) (Reps.one (show Kd.M (Kd.int .i64) _ _ _ 97 [.int .i64 97] from rfl) (Reps.one (show Kd.M (Kd.int .i64) _ _ _ 112 [.int .i64 112] from rfl) (Reps.one (show Kd.M (Kd.int .i64) _ _ _ t254 [.int .i64 t254] from rfl) (Reps.none _ _)))))))))); intro v257 w64 ho65 hb hg_ hnew_; clear hg_ hnew_; (first | rw [← Ny256.out] at ho65 | (simp only [Int.reduceToNat] at ho65; rw [← Ny256.out] at ho65)); have HO258 := Aside0.mk (Kd.R_lower ho65 (keep_size (w := w) (g := g) (row := none) m24_)); replace HK := Aside0.mk (KeepBut.trans m24_ (KeepBut.of_below hb g none) (.inl rfl)); replace HB := Aside0.mk (below_step m23_ hb); replace HI0 := Aside0.mk (IsS84.below m25_ hb); clear hb ho65) | (go_at_call 63; (with_reducible refine (spec_l20Rd_pick.calls k g s0_0 t255 8 t259 t260 w0 _ ?side1 ?side2 A5.out).mono ?_); (case side1 => exact m25_); (case side2 => exact m23_); rintro e w66 ⟨rfl, hi, hb, hk⟩; replace HO258 := Aside0.mk (Kd.R_mono (Kd.R_keep (IsS84.apart (show IsS84 w0 _ g s0_0 t255 from m25_) (rs HO258) (by decide)) hk (fun _ h => h.2)) (fun _ h => h.1)); replace HK := Aside0.mk (KeepBut.trans m24_ hk (.inl rfl)); replace HB := Aside0.mk hb; replace HI0 := Aside0.mk hi; (try clear hb); (try clear hk); (try clear hi); obtain ⟨Ao67, co67, eo67⟩ := Kd.R_slice HO258.out; subst eo67; have p261 : 0 ≤ (t259 : Int) := of_decide_eq_true da_; have q261 : t259 < (y256.length : Int) := of_decide_eq_true da_; obtain ⟨ad261, e261, hx261_0⟩ := Kd.at_int (Kd.R_reads' HO258.out).2.2 t259 p261 q261; cases e261; replace p261 := eq_true p261; replace q261 := eq_true q261) | ((with_reducible refine gate_dst (N := 20) rfl ?_); refine Kd.R_lit (Kd.int .u8) _ 5 rfl (N := 20) rfl (xs := ([(rd y256 t259) % 256] : List Int)) (inner := [.int .u8 ((rd y256 t259) % 256)]) (ok := fun _ => True) (okp := fun _ => True) hr_ ?hp (fun _ hk => hk) trivial (Below.refl _ _) (Nat.le_refl _) (by simp) ?_; (case hp => exact (Reps.one (show Kd.M (Kd.int .u8) _ _ _ ((rd y256 t259) % 256) [.int .u8 ((rd y256 t259) % 256)] from rfl) (Reps.none _ _))); intro v263 w68 ho69 hb hg_ hnew_; clear hg_ hnew_; (first | rw [← Ny262.out] at ho69 | (simp only [Int.reduceToNat] at ho69; rw [← Ny262.out] at ho69)); replace HO258 := Aside0.mk (Kd.R_below (rs HO258) hb); have HO264 := Aside0.mk (Kd.R_lower ho69 (keep_size (w := w) (g := g) (row := none) m24_)); replace HK := Aside0.mk (KeepBut.trans m24_ (KeepBut.of_below hb g none) (.inl rfl)); replace HB := Aside0.mk (below_step m23_ hb); replace HI0 := Aside0.mk (IsS84.below m25_ hb); clear hb ho69; have hcv70 := own_string (P := Tryz.prog) Tryz.underlying22 Tryz.underlying5 Tryz.underlying9 (Kd.own_of_R HO264.out)) | (go_at_call 63; (with_reducible refine (spec_l20Rd_pick.calls k g s0_0 t260 3 t265 t266 w0 _ ?side1 ?side2 A8.out).mono ?_); (case side1 => exact m25_); (case side2 => exact m23_); rintro e w71 ⟨rfl, hi, hb, hk⟩; replace HO258 := Aside0.mk (Kd.R_mono (Kd.R_keep (IsS84.apart (show IsS84 w0 _ g s0_0 t260 from m25_) (rs HO258) (by decide)) hk (fun _ h => h.2)) (fun _ h => h.1)); replace HO264 := Aside0.mk (Kd.R_mono (Kd.R_keep (IsS84.apart (show IsS84 w0 _ g s0_0 t260 from m25_) (rs HO264) (by decide)) hk (fun _ h => h.2)) (fun _ h => h.1)); replace HK := Aside0.mk (KeepBut.trans m24_ hk (.inl rfl)); replace HB := Aside0.mk hb; replace HI0 := Aside0.mk hi; (try clear hb); (try clear hk); (try clear hi)))))
            go_ret
            exact ⟨by first | rfl | (simp [errW_none, errW_some] <;> rfl) | (simp only [← hji58]; first | rfl | (simp [errW_none, errW_some] <;> rfl)) | (simp [*, errW_none, errW_some] <;> rfl), m25_, m23_, m24_⟩
           ·rw [if_neg c61] at H
            exact absurd H (by simp)
          ·rw [if_neg c60] at H
           exact absurd H (by simp)
         ·rw [if_neg c59] at H
          exact absurd H (by simp)
        ·rw [if_neg c57] at H
         exact absurd H (by simp)
       ·rw [if_neg c56] at H
        exact absurd H (by simp)
      ·rw [if_neg c55] at H
       exact absurd H (by simp)
     ·rw [if_neg c54] at H
      have c54b0 : decide (t252 < (a1.size : Int)) = false := decide_eq_false c54
      clear c54
      simp only [Option.some.injEq, Prod.mk.injEq] at H
      obtain ⟨rfl, rfl⟩ := H
      go_enter Tryz.func44, Tryz.ntmps44
      iterate 4 ((try go_quiet (fail)); (try go_wp2_with (first | (go_at_call 63; (with_reducible refine (spec_l20Rd_pick.calls k g s0_0 s0_1 (wrap64 ((a1.size : Int) + 1)) t252 t253 w0 _ ?side1 ?side2 A3.out).mono ?_); (case side1 => exact m25_); (case side2 => exact m23_); rintro e w72 ⟨rfl, hi, hb, hk⟩; replace HK := Aside0.mk (KeepBut.trans m24_ hk (.inl rfl)); replace HB := Aside0.mk hb; replace HI0 := Aside0.mk hi; (try clear hb); (try clear hk); (try clear hi)) | (go_at_call 63; (with_reducible refine (spec_l20Rd_pick.calls k g s0_0 t253 256 t254 t255 w0 _ ?side1 ?side2 A4.out).mono ?_); (case side1 => exact m25_); (case side2 => exact m23_); rintro e w73 ⟨rfl, hi, hb, hk⟩; replace HK := Aside0.mk (KeepBut.trans m24_ hk (.inl rfl)); replace HB := Aside0.mk hb; replace HI0 := Aside0.mk hi; (try clear hb); (try clear hk); (try clear hi)) | ((with_reducible refine gate_dst (N := 14) rfl ?_); refine Kd.R_lit (Kd.int .i64) _ 3 rfl (N := 14) rfl (xs := ([32, 48, 49, 57, 59, 97, 112, t254] : List Int)) (inner := [.int .i64 32, .int .i64 48, .int .i64 49, .int .i64 57, .int .i64 59, .int .i64 97, .int .i64 112, .int .i64 t254]) (ok := fun _ => True) (okp := fun _ => True) hr_ ?hp (fun _ hk => hk) trivial (Below.refl _ _) (Nat.le_refl _) (by simp) ?_; (case hp => exact (Reps.one (show Kd.M (Kd.int .i64) _ _ _ 32 [.int .i64 32] from rfl) (Reps.one (show Kd.M (Kd.int .i64) _ _ _ 48 [.int .i64 48] from rfl) (Reps.one (show Kd.M (Kd.int .i64) _ _ _ 49 [.int .i64 49] from rfl) (Reps.one (show Kd.M (Kd.int .i64) _ _ _ 57 [.int .i64 57] from rfl) (Reps.one (show Kd.M (Kd.int .i64) _ _ _ 59 [.int .i64 59] from rfl) (Reps.one (show Kd.M (Kd.int .i64) _ _ _ 97 [.int .i64 97] from rfl) (Reps.one (show Kd.M (Kd.int .i64) _ _ _ 112 [.int .i64 112] from rfl) (Reps.one (show Kd.M (Kd.int .i64) _ _ _ t254 [.int .i64 t254] from rfl) (Reps.none _ _)))))))))); intro v257 w74 ho75 hb hg_ hnew_; clear hg_ hnew_; (first | rw [← Ny256.out] at ho75 | (simp only [Int.reduceToNat] at ho75; rw [← Ny256.out] at ho75)); have HO258 := Aside0.mk (Kd.R_lower ho75 (keep_size (w := w) (g := g) (row := none) m24_)); replace HK := Aside0.mk (KeepBut.trans m24_ (KeepBut.of_below hb g none) (.inl rfl)); replace HB := Aside0.mk (below_step m23_ hb); replace HI0 := Aside0.mk (IsS84.below m25_ hb); clear hb ho75) | (go_at_call 63; (with_reducible refine (spec_l20Rd_pick.calls k g s0_0 t255 8 t259 t260 w0 _ ?side1 ?side2 A5.out).mono ?_); (case side1 => exact m25_); (case side2 => exact m23_); rintro e w76 ⟨rfl, hi, hb, hk⟩; replace HO258 := Aside0.mk (Kd.R_mono (Kd.R_keep (IsS84.apart (show IsS84 w0 _ g s0_0 t255 from m25_) (rs HO258) (by decide)) hk (fun _ h => h.2)) (fun _ h => h.1)); replace HK := Aside0.mk (KeepBut.trans m24_ hk (.inl rfl)); replace HB := Aside0.mk hb; replace HI0 := Aside0.mk hi; (try clear hb); (try clear hk); (try clear hi); obtain ⟨Ao77, co77, eo77⟩ := Kd.R_slice HO258.out; subst eo77; have p261 : 0 ≤ (t259 : Int) := of_decide_eq_true da_; have q261 : t259 < (y256.length : Int) := of_decide_eq_true da_; obtain ⟨ad261, e261, hx261_0⟩ := Kd.at_int (Kd.R_reads' HO258.out).2.2 t259 p261 q261; cases e261; replace p261 := eq_true p261; replace q261 := eq_true q261) | ((with_reducible refine gate_dst (N := 20) rfl ?_); refine Kd.R_lit (Kd.int .u8) _ 5 rfl (N := 20) rfl (xs := ([(rd y256 t259) % 256] : List Int)) (inner := [.int .u8 ((rd y256 t259) % 256)]) (ok := fun _ => True) (okp := fun _ => True) hr_ ?hp (fun _ hk => hk) trivial (Below.refl _ _) (Nat.le_refl _) (by simp) ?_; (case hp => exact (Reps.one (show Kd.M (Kd.int .u8) _ _ _ ((rd y256 t259) % 256) [.int .u8 ((rd y256 t259) % 256)] from rfl) (Reps.none _ _))); intro v263 w78 ho79 hb hg_ hnew_; clear hg_ hnew_; (first | rw [← Ny262.out] at ho79 | (simp only [Int.reduceToNat] at ho79; rw [← Ny262.out] at ho79)); replace HO258 := Aside0.mk (Kd.R_below (rs HO258) hb); have HO264 := Aside0.mk (Kd.R_lower ho79 (keep_size (w := w) (g := g) (row := none) m24_)); replace HK := Aside0.mk (KeepBut.trans m24_ (KeepBut.of_below hb g none) (.inl rfl)); replace HB := Aside0.mk (below_step m23_ hb); replace HI0 := Aside0.mk (IsS84.below m25_ hb); clear hb ho79; have hcv80 := own_string (P := Tryz.prog) Tryz.underlying22 Tryz.underlying5 Tryz.underlying9 (Kd.own_of_R HO264.out)) | (go_at_call 63; (with_reducible refine (spec_l20Rd_pick.calls k g s0_0 t260 3 t265 t266 w0 _ ?side1 ?side2 A8.out).mono ?_); (case side1 => exact m25_); (case side2 => exact m23_); rintro e w81 ⟨rfl, hi, hb, hk⟩; replace HO258 := Aside0.mk (Kd.R_mono (Kd.R_keep (IsS84.apart (show IsS84 w0 _ g s0_0 t260 from m25_) (rs HO258) (by decide)) hk (fun _ h => h.2)) (fun _ h => h.1)); replace HO264 := Aside0.mk (Kd.R_mono (Kd.R_keep (IsS84.apart (show IsS84 w0 _ g s0_0 t260 from m25_) (rs HO264) (by decide)) hk (fun _ h => h.2)) (fun _ h => h.1)); replace HK := Aside0.mk (KeepBut.trans m24_ hk (.inl rfl)); replace HB := Aside0.mk hb; replace HI0 := Aside0.mk hi; (try clear hb); (try clear hk); (try clear hi)))))
      go_ret
      exact ⟨fi_, m25_, m23_, m24_⟩
  ·rw [if_neg c7] at H
   exact absurd H (by simp)
 ·rw [if_neg c6] at H
  exact absurd H (by simp)
end Go.Proofs.YtffmbccgcaghjaaGreatDoor.P
