import Derived.Test.YtffmbccgcaghjaaGreatDoorGLawFnRwrStaysx3
namespace Go.Proofs.YtffmbccgcaghjaaGreatDoor.P
open Go.Proofs.YtffmbccgcaghjaaGreatDoorUFnRwrStays.PrintLast Go.Proofs.YtffmbccgcaghjaaGreatDoorUFnRwrStays.PrintMore Go.Proofs.YtffmbccgcaghjaaGreatDoorUFnRwrStays.PrintWords Go.RowKit Go.Shelf
set_option linter.unusedVariables false
set_option linter.unusedSimpArgs false
section
attribute [local go_sem] Oper.semAt_some
def outStep (q : List S34 × ByteArray) (x : ByteArray) : Option (List S34 × ByteArray) :=
  (impl_MapTab_goesOut.f q.1 x).bind fun r => if r.2.size ≤ 1000000 ∧ q.2.size ≤ 100000000000 then some (r.1, q.2 ++ (r.2 ++ (⟨#[59]⟩ : ByteArray))) else none
def impl_MapTab_streamOut.f (l : List S34) (s : ByteArray) : Option (List S34 × ByteArray) :=
  if s.size ≤ 4000000000 then (impl_MapTab_copied.f l).bind fun l' => (linesB s).foldlM outStep (l', (⟨#[]⟩ : ByteArray)) else none
def txtOf (o : ByteArray) : List Value := Lib.byteCells o.data.toList
theorem txt_size (o : ByteArray) : (txtOf o).length = o.size := by unfold txtOf; rw [Lib.byteCells_length]; exact len_data o
theorem txt_append (o p : ByteArray) : txtOf (o ++ p) = txtOf o ++ Lib.strCells p := by
  unfold txtOf Lib.byteCells Lib.strCells
  rw [ByteArray.data_append, Array.toList_append, List.map_append]
def StaysT (q : TypeId) (W W' : World) : Prop := W.heap.size ≤ W'.heap.size ∧ ∀ (k : Nat) (c : Array Value) (t : TypeId) (f : Nat × Nat), W.heap[k]? = some (.cells c t f) → t ≠ q → W'.heap[k]? = some (.cells c t f)
theorem StaysT.grown {q : TypeId} {X Y : World} {row : Option Nat} (hg : X.grownBy Y row) (hr : ∀ r, row = some r → ∃ o : Obj, X.heap[r]? = some o ∧ o.isCells = false) : StaysT q X Y :=
  ⟨hg.size, fun k c t f h _ => cells_kept0 h hg hr⟩
where
  cells_kept0 {X Y : World} {row : Option Nat} {b : Nat} {c : Array Value} {t : TypeId} {f : Nat × Nat} (h : X.heap[b]? = some (.cells c t f)) (hg : X.grownBy Y row) (hr : ∀ r, row = some r → ∃ o : Obj, X.heap[r]? = some o ∧ o.isCells = false) : Y.heap[b]? = some (.cells c t f) :=
    (hg.block b (Array.getElem?_eq_some_iff.1 h).1 (fun e => by obtain ⟨o, ho, hc⟩ := hr b e.symm; rw [h] at ho; cases ho; cases hc)).trans h
theorem StaysT.trans {q : TypeId} {X Y Z : World} (h : StaysT q X Y) (k : StaysT q Y Z) : StaysT q X Z := ⟨Nat.le_trans h.1 k.1, fun a c t f e ne => k.2 _ _ _ _ (h.2 _ _ _ _ e ne) ne⟩
theorem StaysT.below {q : TypeId} {X Y : World} (h : Below X.heap.size X Y) : StaysT q X Y := ⟨h.size, fun k c t f e _ => (h.block _ (Array.getElem?_eq_some_iff.1 e).1).trans e⟩
theorem StaysT.set {q : TypeId} {X : World} {b : Nat} {u : Value} (h : Boxed X b q u) (v : Value) : StaysT q X (X.setCell ⟨b, 0, none⟩ v) :=
  ⟨by simp, fun k c t f hk ht => (Below.heap_setCell X _ _ _ (fun e => by simp only at e; subst e; rw [show X.heap[k]? = _ from h] at hk; cases hk; exact ht rfl)).trans hk⟩
theorem builder_stays {T e q : TypeId} {B b : Nat} {bs : List Value} {W W' : World} (h : Lib.IsBuilderF T e B b bs W) (hs : StaysT q W W') (hT : T ≠ q) (he : e ≠ q) : Lib.IsBuilderF T e B b bs W' := by
  have at_ : ∀ p, Lib.BuilderAtF T e B b p bs W → Lib.BuilderAtF T e B b p bs W' := by
    rintro p ⟨hB, v, hb, ⟨ho1, ho⟩, hne⟩
    refine ⟨hB, v, hs.2 _ _ _ _ hb hT, ⟨ho1, ?_⟩, hne⟩
    rcases ho with ho | ⟨g, cap, cur, fz, hv, hbg, hg, r⟩
    · exact .inl ho
    · exact .inr ⟨g, cap, cur, fz, hv, hbg, hs.2 _ _ _ _ hg he, r⟩
  exact h.elim (fun h => .inl (at_ _ h)) (fun h => .inr (at_ _ h))
theorem R_stays {α : Type} {d : Kd α} {e q : TypeId} {W W' : World} {base : Nat} {ok : Nat → Prop} {v : Value} {xs : List α} (h : d.R e W base ok v xs) (hs : StaysT q W W') (hq : ∀ t, t ∈ e :: d.E → t ≠ q) : d.R e W' base ok v xs :=
  Kd.R_mono (Kd.R_move (Kd.R_bound h) (fun k hk => by
    obtain ⟨_, _, _, t, ht, cells, hc⟩ := hk
    exact (hs.2 _ _ _ _ hc (hq t ht)).trans hc.symm)) (fun _ hk => hk.1)
theorem R_others {α : Type} {d : Kd α} {e q T : TypeId} {W W' : World} {base b : Nat} {ok : Nat → Prop} {v : Value} {xs : List α} {c : Array Value} (h : d.R e W base ok v xs) (hs : Lib.OthersKept q (some b) W W') (hb : W.heap[b]? = some (.cells c T (0, 0))) (hq : ∀ t, t ∈ e :: d.E → t ≠ q ∧ t ≠ T) : d.R e W' base ok v xs :=
  Kd.R_mono (Kd.R_move (Kd.R_bound h) (fun k hk => by
    obtain ⟨_, _, _, t, ht, cells, hc⟩ := hk
    refine (hs k _ hc (fun e => ?_) (fun c' fz e => ?_)).trans hc.symm
    · injection e with e; subst e; rw [hb] at hc; cases hc; exact (hq _ ht).2 rfl
    · injection e with _ e; exact (hq _ ht).1 e)) (fun _ hk => hk.1)
theorem box_others {q : TypeId} {W W' : World} {b k : Nat} {t : TypeId} {v : Value} (hs : Lib.OthersKept q (some b) W W') (h : Boxed W k t v) (hne : k ≠ b) (ht : t ≠ q) : Boxed W' k t v :=
  hs k _ h (fun e => hne (Option.some.inj e)) (fun c fz e => by injection e with _ e; exact ht e)
theorem keeps_others {q : TypeId} {W W' : World} {b : Nat} {c : Array Value} {T : TypeId} (hs : Lib.OthersKept q (some b) W W') (hb : W.heap[b]? = some (.cells c T (0, 0))) (hsz : W.heap.size ≤ W'.heap.size) : KeepsOthers W W' :=
  ⟨hsz, fun k o hk ho => hs k o hk (fun e => by injection e with e; subst e; rw [hb] at hk; cases hk; cases ho) (fun c fz e => by subst e; cases ho)⟩
theorem fold_next {q q' : List S34 × ByteArray} {pre r : List ByteArray} {x : ByteArray} {xs : List ByteArray} {z : List S34 × ByteArray} (hx : pre ++ x :: r = xs) (h : xs.foldlM outStep q = some z) (h1 : pre.foldlM outStep q = some q') :
    ∃ q2, outStep q' x = some q2 ∧ (pre ++ [x]).foldlM outStep q = some q2 := by
  subst hx
  rw [List.foldlM_append, h1] at h
  have h' : (outStep q' x).bind (fun init => List.foldlM outStep init r) = some z := h
  obtain ⟨q2, h2, _⟩ := Option.bind_eq_some_iff.mp h'
  exact ⟨q2, h2, by rw [List.foldlM_append, h1]; simpa using h2⟩
theorem outStep_some {q q2 : List S34 × ByteArray} {x : ByteArray} (h : outStep q x = some q2) : ∃ y, impl_MapTab_goesOut.f q.1 x = some (q2.1, y) ∧ y.size ≤ 1000000 ∧ q.2.size ≤ 100000000000 ∧ q2.2 = q.2 ++ (y ++ (⟨#[59]⟩ : ByteArray)) := by
  obtain ⟨⟨t, y⟩, h1, h2⟩ := Option.bind_eq_some_iff.mp h
  by_cases hc : y.size ≤ 1000000 ∧ q.2.size ≤ 100000000000
  · rw [if_pos hc] at h2
    cases h2
    exact ⟨y, h1, hc.1, hc.2, rfl⟩
  · rw [if_neg hc] at h2; cases h2
theorem wp_still {P : Program} {c : Code} {Q : Exit → Act → World → Prop} {a : Act} {w : World} (h : c.wp P (fun e a w => e = .normal ∧ Q .normal a w) a w) : c.wp P Q a w :=
  wp_mono h (by rintro e a w ⟨rfl, h⟩; exact h)
def OutI (n₀ bo bb bs b4 : Nat) (l0 : List S34) (W0 : World) (pre : List ByteArray) (W : World) : Prop :=
  ∃ (lt : List S34) (ot : ByteArray) (v u : Value), pre.foldlM outStep (l0, (⟨#[]⟩ : ByteArray)) = some (lt, ot) ∧ Boxed W bo 25 v ∧ Kd.R k34 34 W n₀ (fun _ => True) v lt ∧
    Lib.IsBuilderF 107 5 n₀ bb (txtOf ot) W ∧ Boxed W bs 9 u ∧ Boxed W b4 25 (.slice none 0 0) ∧ Below n₀ W0 W
theorem OutI.stays {n₀ bo bb bs b4 : Nat} {l0 : List S34} {W0 A B : World} {pre : List ByteArray} (h : OutI n₀ bo bb bs b4 l0 W0 pre A) (hs : StaysT 9 A B) (hbs : ∃ u, Boxed B bs 9 u) (hb : Below n₀ W0 B) : OutI n₀ bo bb bs b4 l0 W0 pre B := by
  obtain ⟨lt, ot, v, u, h1, h2, h3, h4, h5, h6, h7⟩ := h
  obtain ⟨u', h5'⟩ := hbs
  exact ⟨lt, ot, v, u', h1, hs.2 _ _ _ _ h2 (by decide), R_stays h3 hs (by decide), builder_stays h4 hs (by decide) (by decide), h5', hs.2 _ _ _ _ h6 (by decide), hb⟩
theorem OutI.own {n₀ bo bb bs b4 B : Nat} {l0 : List S34} {W0 : World} (hn : n₀ ≤ W0.heap.size) (hB : n₀ ≤ B) : OwnFrom B (fun pre W => OutI n₀ bo bb bs b4 l0 W0 pre W) := by
  intro s X Y row hs hg hr
  have hb : Below n₀ W0 Y := by
    obtain ⟨_, _, _, _, _, _, _, _, _, _, h6⟩ := hs
    exact ownFrom_below (β := List ByteArray) hn hB s X Y row h6 hg hr
  refine hs.stays (StaysT.grown hg (fun r e => (hr r e).2)) ?_ hb
  obtain ⟨_, _, _, u, _, _, _, _, h5, _, _⟩ := hs
  exact ⟨u, StaysT.grown.cells_kept0 h5 hg (fun r e => (hr r e).2)⟩
set_option maxRecDepth 100000 in
set_option maxHeartbeats 8000000 in
theorem impl_MapTab_streamOut.calls (A0_0 : Option Addr) (c0_0 : Nat) (l0_0 : List (S34)) (a1 : ByteArray) (r1 : List (S34)) (r2 : ByteArray) (w : World) (hr0_0 : Kd.C k34 w A0_0 l0_0.length l0_0) (hc0_0 : l0_0.length ≤ c0_0) (h : impl_MapTab_streamOut.f l0_0 a1 = some (r1, r2)) (hE : EnvE w) :
    Calls Tryz.prog 69 #[.agg #[.slice A0_0 l0_0.length c0_0], .string a1] w fun e w' => ∃ v0_ : Value, e = .returned (.tuple #[.agg #[v0_], .string r2]) ∧ Kd.R k34 34 w' w.heap.size (fun _ => True) v0_ r1 ∧ Below w.heap.size w w' := by
  unfold impl_MapTab_streamOut.f at h
  by_cases hs : a1.size ≤ 4000000000
  · rw [if_pos hs] at h
    obtain ⟨l1, hcop, h⟩ := Option.bind_eq_some_iff.mp h
    have HS := Lib.hid hs
    have HE := Lib.hid hE
    have HF := Lib.hid h
    have HCOP := Lib.hid hcop
    have HC0 := Lib.hid hc0_0
    have HR0 := Lib.hid hr0_0
    clear hs hE h hcop hc0_0 hr0_0
    refine (callsIn_wide (n := 9)).1 ?_
    refine callsIn_of_wp_marks Tryz.func69 rfl trivial (wpIn_wide.2 ?_) rfl
    simp only [Tryz.ntmps69, List.size_toArray, List.length_cons, List.length_nil, Nat.reduceAdd, Nat.reduceSub, Array.replicate_succ, Array.replicate_zero, List.push_toArray, List.append_toArray, List.nil_append, List.cons_append]
    go_wp2_with (first
      | (go_at_call 77; refine (impl_MapTab_copied.calls A0_0 c0_0 l0_0 l1 _ (Kd.C_below HR0.out (below_alloc (below_alloc (Below.refl _ _) _) _)) HC0.out HCOP.out).mono ?_; rintro e w2 ⟨v1, rfl, hv1, hb2⟩; obtain ⟨A1, c1, rfl⟩ := Kd.R_slice hv1; have HV1 := Lib.hid hv1; have HB2 := Lib.hid hb2; clear hv1 hb2)
      | (go_at_call 71; refine (linesOf0 a1 _).mono ?_; rintro e w3 ⟨rfl, rfl⟩))
    have hb2 := HB2.out
    have hs2 : w.heap.size + 2 ≤ w2.heap.size := by have := hb2.size; simpa using this
    have hbW2 : Below w.heap.size w w2 := (below_alloc (below_alloc (Below.refl _ _) _) _).trans (hb2.mono (by simp; omega))
    have h4 : w2.heap[w.heap.size + 1]? = some (.cells #[.slice none 0 0] 25 (0, 0)) := by
      refine (hb2.block _ (by simp)).trans ?_
      have := heap_alloc_new (w.alloc (.cells #[.slice A0_0 l0_0.length c0_0] 25)) (.cells #[.slice none 0 0] 25)
      simp only [World.size_alloc] at this
      exact this
    obtain ⟨W0, hW0⟩ : ∃ W0, ((w2.alloc (.cells #[.slice A1 l1.length c1] 25)).alloc (.cells #[.pointer none, .slice none 0 0] 107)).alloc (.cells #[.string a1] 9) = W0 := ⟨_, rfl⟩
    have hsz : W0.heap.size = w2.heap.size + 3 := by rw [← hW0]; simp
    have hbo : Boxed W0 w2.heap.size 25 (.slice A1 l1.length c1) := by rw [← hW0]; exact ((Boxed.new _ _ _).alloc _).alloc _
    have hbb : W0.heap[w2.heap.size + 1]? = some (.cells #[.pointer none, .slice none 0 0] 107 (0, 0)) := by
      rw [← hW0]
      have := heap_alloc_new (w2.alloc (.cells #[.slice A1 l1.length c1] 25)) (.cells #[.pointer none, .slice none 0 0] 107)
      simp only [World.size_alloc] at this
      exact blk_alloc this _
    have hst : W0.heap[w2.heap.size + 1 + 1]? = some (.cells #[.string a1] 9 (0, 0)) := by
      rw [← hW0]
      have := heap_alloc_new ((w2.alloc (.cells #[.slice A1 l1.length c1] 25)).alloc (.cells #[.pointer none, .slice none 0 0] 107)) (.cells #[.string a1] 9)
      simp only [World.size_alloc] at this
      exact this
    have h40 : Boxed W0 (w.heap.size + 1) 25 (.slice none 0 0) := by rw [← hW0]; exact blk_alloc (blk_alloc (blk_alloc h4 _) _) _
    have hB0 : Below w.heap.size w W0 := by rw [← hW0]; exact ((hbW2.alloc (by omega) _).alloc (by simp only [World.size_alloc]; omega) _).alloc (by simp only [World.size_alloc]; omega) _
    have hR0 : Kd.R k34 34 W0 w.heap.size (fun _ => True) (.slice A1 l1.length c1) l1 := by
      rw [← hW0]
      exact Kd.R_alloc (Kd.R_alloc (Kd.R_alloc (Kd.R_lower HV1.out (by simp; omega)) _) _) _
    have hBd : Lib.IsBuilderF 107 5 w.heap.size (w2.heap.size + 1) (txtOf (⟨#[]⟩ : ByteArray)) W0 :=
      .inl ⟨by omega, .slice none 0 0, hbb, World.ownsRowF_nil _ _ _ _, by simp [Value.ownBlock]⟩
    rw [hW0]
    have HS2 := Lib.hid hs2
    have HB0 := Lib.hid hB0
    clear hW0 hbb h4 hbW2 HB2 hb2 HV1
    refine (wpIn_wide (n := 9)).1 ?_
    refine wpIn_rangeFunc_runs rfl (by omega) (gf := 101) (lb := #[.pointer (some ⟨w2.heap.size + 1 + 1, 0, none⟩)]) rfl trivial (enters_of Tryz.func101 (by kernel_rfl) rfl)
      (lines_runs (w2.heap.size + 1 + 1) w.heap.size a1 w W0 rfl hB0 (by omega) hst (by have := HS.out; omega) HE.out.e) KpL.trans (kpl_b (by omega) (by omega))
      (fun A B ⟨v, h⟩ k hk => by rw [h]; exact Below.heap_setCell A _ _ _ (by simp only; omega)) (Below.refl _ _) (fun _ => rfl)
      (OutI w.heap.size w2.heap.size (w2.heap.size + 1) (w2.heap.size + 1 + 1) (w.heap.size + 1) l1 W0)
      (OutI.own (by omega) (by omega))
      (fun s A B hi ⟨v, h⟩ => by
        subst h
        obtain ⟨_, _, _, u, _, _, _, _, h5, _, h7⟩ := id hi
        exact hi.stays (StaysT.set h5 v) ⟨v, h5.set v⟩ (h7.setCell (p := ⟨w2.heap.size + 1 + 1, 0, none⟩) (by simp only; omega) _))
      ⟨l1, _, _, _, rfl, hbo, hR0, hBd, hst, h40, Below.refl _ _⟩
      (fun x => { tmps := #[.agg #[.slice A0_0 l0_0.length c0_0], .string a1, .pointer (some ⟨w.heap.size, 0, none⟩), undef, .pointer (some ⟨w.heap.size + 1, 0, none⟩), .string ⟨#[]⟩, .pointer (some ⟨w2.heap.size, 0, none⟩), .pointer (some ⟨w2.heap.size + 1, 0, none⟩), .string x, undef, undef, .agg #[.slice A0_0 l0_0.length c0_0], .agg #[.slice A1 l1.length c1], .string a1, .func (.func 101) #[] #[.pointer (some ⟨w2.heap.size + 1 + 1, 0, none⟩)], .string x, undef, undef, undef, undef, undef, undef, undef, undef, undef, undef, undef, undef], defers := [] })
      ?assign ?body ?done
    case assign =>
      intro l x W K hK
      gi_wp2
      exact hK
    case body =>
      rintro l pre x W ⟨lt, ot, v, u, i1, i2, i3, i4, i5, i6, i7⟩ ⟨rr, hrr⟩
      obtain ⟨q2, g1, g2⟩ := fold_next hrr HF.out i1
      obtain ⟨y, g3, g4, g5, g6⟩ := outStep_some g1
      obtain ⟨A2, c2, hv, hc2, hC2⟩ := Kd.R_reads i3
      subst hv
      have hc := i2.cell
      have I2 := Lib.hid i2
      have I3 := Lib.hid i3
      have I4 := Lib.hid i4
      have I5 := Lib.hid i5
      have I6 := Lib.hid i6
      have I7 := Lib.hid i7
      have G2 := Lib.hid g2
      have G3 := Lib.hid g3
      have G4 := Lib.hid g4
      have G5 := Lib.hid g5
      have G6 := Lib.hid g6
      have HC2 := Lib.hid hc2
      have HCC := Lib.hid hC2
      have HEW := Lib.hid (HE.out.below (HB0.out.trans i7))
      have HSZ := Lib.hid hsz
      have hys : (9223372036854775807 < y.size + 1) = False := eq_false (by omega)
      clear i1 i2 i3 i4 i5 i6 i7 g1 g2 g3 g4 g5 g6 hrr hc2 hC2 hsz hbo hst h40 hB0 hR0 hBd hs2
      gi_wp2_with (first
        | (refine ⟨trivial, ?_⟩; gi_at_call 45; refine (CallsIn.inRound l (callsIn_wide.2 (impl_MapTab_goesOut.calls A2 c2 lt x q2.1 y W HCC.out HC2.out G3.out HEW.out))).mono ?_; rintro e w3 ⟨v3, rfl, hv3, hb3⟩; obtain ⟨A3, c3, rfl⟩ := Kd.R_slice hv3; have HV3 := Lib.hid hv3; have HB3 := Lib.hid hb3; have hbx3 : Boxed w3 w2.heap.size 25 (.slice A2 lt.length c2) := (hb3.block _ I2.out.lt).trans I2.out; have HX3 := Lib.hid hbx3; have hc3 := hbx3.cell; have hf3 := hbx3.frozen; have hl3 := hbx3.lt; clear hv3 hb3 hbx3 hc))
      refine ⟨trivial, ?_⟩
      obtain ⟨W4, hW4⟩ : ∃ W4, (w3.setCell ⟨w2.heap.size, 0, none⟩ (.slice A3 q2.1.length c3)).alloc (.cells #[.slice A3 q2.1.length c3] 25) = W4 := ⟨_, rfl⟩
      have st1 : StaysT 25 w3 W4 := by rw [← hW4]; exact (StaysT.set HX3.out _).trans (StaysT.below (below_alloc (Below.refl _ _) _))
      have st0 : StaysT 25 W W4 := (StaysT.below HB3.out).trans st1
      have bd4 := builder_stays I4.out st0 (by decide) (by decide)
      have r4 := R_stays HV3.out st1 (by decide)
      have bo4 : Boxed W4 w2.heap.size 25 (.slice A3 q2.1.length c3) := by rw [← hW4]; exact (HX3.out.set _).alloc _
      have bs4 : Boxed W4 (w2.heap.size + 1 + 1) 9 u := st0.2 _ _ _ _ I5.out (by decide)
      have hs2 := HS2.out
      have b44 : Boxed W4 (w.heap.size + 1) 25 (.slice none 0 0) := by
        rw [← hW4]
        refine blk_alloc ?_ _
        exact (Below.heap_setCell _ _ _ _ (by simp only; omega)).trans ((HB3.out.block _ I6.out.lt).trans I6.out)
      have hWn : w.heap.size ≤ W.heap.size := Nat.le_trans HB0.out.size I7.out.size
      have be4 : Below w.heap.size W W4 := by
        rw [← hW4]
        exact ((HB3.out.mono hWn).setCell (p := ⟨w2.heap.size, 0, none⟩) (by simp only; omega) _).alloc (by have := HB3.out.size; simp; omega) _
      have ko4 : KeepsOthers W W4 := by
        rw [← hW4]
        exact ((KeepsOthers.of_grownBy (grown_of_below HB3.out none) (fun _ _ e => by cases e)).trans (KeepsOthers.setCell _ _ _)).trans (KeepsOthers.alloc _ _)
      have hbbx : ∃ c, W4.heap[w2.heap.size + 1]? = some (.cells c 107 (0, 0)) := by
        rcases bd4 with ⟨_, _, h, _⟩ | ⟨_, _, h, _⟩ <;> exact ⟨_, h⟩
      rw [hW4]
      clear hW4 hys hc3 hf3 hl3
      refine (CallsIn.inRound l (callsIn_wide.2 (writeString_k w.heap.size (w2.heap.size + 1) (txtOf ot) (y ++ (⟨#[59]⟩ : ByteArray)) W4 bd4 (by rw [txt_size, ByteArray.size_append]; have := G4.out; have := G5.out; have : (⟨#[59]⟩ : ByteArray).size = 1 := rfl; omega) (Nat.le_trans hWn st0.1)))).mono ?_
      rintro e w5 ⟨rfl, hbd5, hb5, hk5⟩
      obtain ⟨cb, hcb⟩ := hbbx
      have fin : KeepsOthers W w5 ∧ (KpL w.heap.size (w2.heap.size + 1 + 1) W w5 ∧ OutI w.heap.size w2.heap.size (w2.heap.size + 1) (w2.heap.size + 1 + 1) (w.heap.size + 1) l1 W0 (pre ++ [x]) w5) := by
        have bs5 := box_others hk5 bs4 (by omega) (by decide)
        refine ⟨ko4.trans (keeps_others hk5 hcb hb5.size), ⟨be4.trans hb5, bs5.trans I5.out.symm⟩, q2.1, q2.2, _, u, G2.out, box_others hk5 bo4 (by omega) (by decide), R_others (Kd.R_lower r4 hWn) hk5 hcb (by decide), .inr ?_, bs5, box_others hk5 b44 (by omega) (by decide), (I7.out.trans be4).trans hb5⟩
        rw [G6.out, txt_append]; exact hbd5
      have FIN := Lib.hid fin
      clear fin hbd5 hb5 hk5 hcb st1 st0 bd4 r4 bo4 bs4 b44 be4 ko4
      gi_wp2
      exact FIN.out
    case done =>
      rintro D xs W hD rfl ⟨lt, ot, v, u, i1, i2, i3, i4, i5, i6, i7⟩ hK
      have hfin := Option.some.inj (i1.symm.trans HF.out)
      simp only [Prod.mk.injEq] at hfin
      obtain ⟨rfl, rfl⟩ := hfin
      obtain ⟨A2, c2, hv, hc2, hC2⟩ := Kd.R_reads i3
      subst hv
      have HSZ := Lib.hid hsz
      have HD := Lib.hid hD
      have I2 := Lib.hid i2
      have I3 := Lib.hid i3
      have I4 := Lib.hid i4
      have I6 := Lib.hid i6
      have I7 := Lib.hid i7
      have HK := Lib.hid hK
      have c2' := i2.cell
      have HC2 := Lib.hid c2'
      clear c2' i1 i2 i3 i4 i5 i6 i7 hc2 hC2 hsz hbo hst h40 hB0 hR0 hBd hs2 hD hK
      go_wp2_with fail
      refine wp_still ?_
      refine start_ (n := 4) (S := fun w' => w'.cell? ⟨w2.heap.size, 0, none⟩ = some (.slice A2 lt.length c2)) (ds := []) #[false, false, false, false] (by kernel_rfl) rfl rfl HC2.out (fun hHeld => ?_)
      refine take_ (i := 0) (N := some 26) (v := ?_) (a' := ?_) #[true, false, false, false] rfl rfl (by kernel_rfl) (fun _ _ _ h => nomatch h.1) (Or.inl ⟨by rfl, ?_⟩) hHeld ?_ ?_
      rotate_left
      · intro w' s0
        go_simp
        with_reducible rfl
      rotate_left
      · simp only [Act.put, List.setIfInBounds_toArray, List.set_cons_zero, List.set_cons_succ, i64_w, i32_w]
        rfl
      refine one_ (i := 1) (N := some 27) #[true, true, false, false] rfl rfl (by kernel_rfl) (by decide) (fun K hK => ?_)
      refine goes_ Tryz.func97 (by kernel_rfl) rfl #[.pointer (some ⟨w2.heap.size + 1, 0, none⟩)] (by rfl) rfl rfl (by (try simp only [List.map_toArray, List.map_cons, List.map_nil]); first | done | rfl) ?_
      have hWn : w.heap.size ≤ W.heap.size := Nat.le_trans HB0.out.size I7.out.size
      have hWd : w.heap.size ≤ W.drew.heap.size := hWn
      have bd : Lib.IsBuilderF 107 5 w.heap.size (w2.heap.size + 1) (Lib.byteCells ot.data.toList) W.drew := I4.out
      have hbbx : ∃ c, W.drew.heap[w2.heap.size + 1]? = some (.cells c 107 (0, 0)) := by
        rcases bd with ⟨_, _, h, _⟩ | ⟨_, _, h, _⟩ <;> exact ⟨_, h⟩
      with_reducible refine (Tryz.Builder_String_any_k w.heap.size (w2.heap.size + 1) ot.data.toList W.drew bd hWd).mono ?_
      rintro e w5 ⟨rfl, _, hb5, hk5⟩
      obtain ⟨cb, hcb⟩ := hbbx
      refine ⟨_, rfl, ?_⟩
      have hs2 := HS2.out
      have bo5 : Boxed w5 w2.heap.size 25 (.slice A2 lt.length c2) := box_others hk5 (show Boxed W.drew _ _ _ from I2.out) (by omega) (by decide)
      have b45 : Boxed w5 (w.heap.size + 1) 25 (.slice none 0 0) := box_others hk5 (show Boxed W.drew _ _ _ from I6.out) (by omega) (by decide)
      have R5 := Lib.hid (R_others (Kd.R_drew I3.out) hk5 hcb (by decide))
      have K5 : w5.heap[D]? = some (.deferred (some [])) := (keeps_others hk5 hcb hb5.size).same D _ HK.out rfl
      have KK5 := Lib.hid K5
      have BB5 := Lib.hid ((HB0.out.trans (below_drew I7.out)).trans hb5)
      have BO5 := Lib.hid bo5
      have B45 := Lib.hid b45
      clear hb5 hk5 hcb bd bo5 b45 K5
      refine hK.out _ _ BO5.out.cell (fun hHeld => ?_)
      clear hK K
      refine norm_ (a' := ?_) ?_ ?_
      rotate_left
      · show Act.put _ (some 27) _ = _
        simp only [Act.put, List.setIfInBounds_toArray, List.set_cons_zero, List.set_cons_succ, i64_w, i32_w]
        rfl
      refine one_ (i := 2) (N := none) #[true, true, true, false] rfl rfl (by kernel_rfl) (by decide) (fun K hK => ?_)
      have q1 := B45.out.cell
      have q2 := B45.out.frozen
      have q3 := B45.out.lt
      refine skip_ (w1 := ?_) (by rfl) rfl ?_ ?_
      rotate_left
      · go_simp
        rfl
      have bo6 : Boxed (w5.setCell ⟨w.heap.size + 1, 0, none⟩ (.slice A2 lt.length c2)) w2.heap.size 25 (.slice A2 lt.length c2) := (Below.heap_setCell _ _ _ _ (by simp only; omega)).trans BO5.out
      refine hK.out _ _ bo6.cell (fun hHeld => ?_)
      clear hK K
      refine pure_ (i := 3) (N := some 5) (v := ?_) (a' := ?_) #[true, true, true, true] rfl rfl (by kernel_rfl) (fun _ _ _ h => nomatch h.1) (Or.inl ⟨by rfl, ?_⟩) ?_ ?_
      rotate_left
      · intro w'
        go_simp
        with_reducible rfl
      rotate_left
      · simp only [Act.put, List.setIfInBounds_toArray, List.set_cons_zero, List.set_cons_succ, i64_w, i32_w]
        rfl
      refine done_ (by kernel_rfl) ⟨rfl, ?_⟩
      go_wp2
      have hs7 := HSZ.out
      have hd7 := HD.out
      have k6 : (w5.setCell ⟨w.heap.size + 1, 0, none⟩ (.slice A2 lt.length c2)).heap[D]? = some (.deferred (some [])) := (Below.heap_setCell _ _ _ _ (by simp only; omega)).trans KK5.out
      have b6 : ((w5.setCell ⟨w.heap.size + 1, 0, none⟩ (.slice A2 lt.length c2)).putObj D (.deferred none)).heap[w.heap.size + 1]? = some (.cells #[.slice A2 lt.length c2] 25 (0, 0)) :=
        (World.putObj_heap_other (by omega)).trans (B45.out.set _)
      have R6 : Kd.R k34 34 ((w5.setCell ⟨w.heap.size + 1, 0, none⟩ (.slice A2 lt.length c2)).putObj D (.deferred none)) w.heap.size (fun _ => True) (.slice A2 lt.length c2) lt :=
        R_stays (R_stays R5.out (StaysT.set B45.out _) (by decide)) (q := 25) ⟨by simp [World.putObj], fun k c t f h _ => (World.putObj_heap_other (fun e => by subst e; rw [k6] at h; cases h)).trans h⟩ (by decide)
      have B6 : Below w.heap.size w ((w5.setCell ⟨w.heap.size + 1, 0, none⟩ (.slice A2 lt.length c2)).putObj D (.deferred none)) :=
        (BB5.out.setCell (p := ⟨w.heap.size + 1, 0, none⟩) (by simp) _).trans (belowK_b (w := w) (Nat.le_refl _) _ D _ _ (by omega) k6 rfl rfl)
      refine ⟨by simp, .inl ⟨_, _, rfl, run_takeDeferred k6, ?_⟩⟩
      exact ⟨_, results_ct rfl _ _ (w.heap.size + 1) 25 #[.slice A2 lt.length c2] (0, 0) _ rfl b6 Tryz.underlying25 rfl (by kernel_rfl), _, rfl, R6, B6⟩
  · rw [if_neg hs] at h; cases h
end
end Go.Proofs.YtffmbccgcaghjaaGreatDoor.P
namespace Go.Proofs.YtffmbccgcaghjaaGreatDoor.P
open Go.Proofs.YtffmbccgcaghjaaGreatDoorUFnRwrStays.PrintLast Go.Proofs.YtffmbccgcaghjaaGreatDoorUFnRwrStays.PrintMore Go.Proofs.YtffmbccgcaghjaaGreatDoorUFnRwrStays.PrintWords Go.RowKit
set_option linter.unusedVariables false
set_option linter.unusedSimpArgs false
section
attribute [local go_sem] max2_int min2_int max_two min_two max_three min_three max_four min_four
def impl_RwrStream.f (k : Nat) (l0_0 : List (S34)) (a1 : ByteArray) : Option ((List (S34)) × ByteArray):=(impl_MapOk.f k l0_0).bind fun t710=>(if t710 = true then ((impl_StrOk.f k a1).bind fun t711=>(if t711 = true then ((impl_MapTab_streamOut.f l0_0 a1).bind fun bt712=>(some (bt712.1,bt712.2))) else (some (([] : List (S34)),(⟨#[]⟩ : ByteArray))))) else (some (([] : List (S34)),(⟨#[]⟩ : ByteArray))))
theorem impl_RwrStream.mono : ∀ a0 a1 k,LeO (impl_RwrStream.f k a0 a1) (impl_RwrStream.f (k + 1) a0 a1):=by
 intro a0 a1 k
 unfold impl_RwrStream.f
 repeat' first | (with_reducible first | exact impl_MapOk.mono _ _ | exact impl_StrOk.mono _ _ | exact LeO.refl _ | exact LeO.none _ | refine LeO.ite ?_ ?_ | refine LeO.bind ?_ (fun _=>?_)) | exact impl_MapOk.mono _ _ | exact impl_StrOk.mono _ _ | exact LeO.none _ | refine LeO.ite ?_ ?_ | refine LeO.bind ?_ (fun _=>?_)
set_option maxHeartbeats 8000000 in
set_option maxRecDepth 100000 in
theorem impl_RwrStream.calls (k : Nat) (A0_0 : Option Addr) (c0_0 : Nat) (l0_0 : List (S34)) (a1 : ByteArray) (r1 : List (S34)) (r2 : ByteArray) (w : World) (hr0_0 : Kd.C k34 w A0_0 l0_0.length l0_0) (hc0_0 : l0_0.length ≤ c0_0) (h : impl_RwrStream.f k l0_0 a1 = some (r1,r2)) (hE : EnvE w) :
  Calls Tryz.prog 34 #[.agg #[.slice A0_0 l0_0.length c0_0],.string a1] w fun e w'=>∃ v0_ : Value,e = .returned (.tuple #[.agg #[v0_],.string r2]) ∧ Kd.R k34 34 w' w.heap.size (fun _=>True) v0_ r1 ∧ Below w.heap.size w w':=by
 have hu25:=Tryz.underlying25
 have HR0_0:=am hr0_0
 have HC0_0:=am hc0_0
 clear hr0_0 hc0_0
 have HB:=am (Below.refl w.heap.size w)
 have H : ((impl_MapOk.f k l0_0).bind fun t710=>(if t710 = true then ((impl_StrOk.f k a1).bind fun t711=>(if t711 = true then ((impl_MapTab_streamOut.f l0_0 a1).bind fun bt712=>(some (bt712.1,bt712.2))) else (some (([] : List (S34)),(⟨#[]⟩ : ByteArray))))) else (some (([] : List (S34)),(⟨#[]⟩ : ByteArray))))) = some (r1,r2):=h
 clear h
 obtain ⟨t710,A3,H⟩:=bse H
 try dsimp only at H
 by_cases c4 : t710 = true
 ·subst c4
  have H1 : ((impl_StrOk.f k a1).bind fun t711=>(if t711 = true then ((impl_MapTab_streamOut.f l0_0 a1).bind fun bt712=>(some (bt712.1,bt712.2))) else (some (([] : List (S34)),(⟨#[]⟩ : ByteArray))))) = some (r1,r2):=by rw [if_pos rfl] at H;exact H
  clear H
  have H:=H1
  clear H1
  obtain ⟨t711,A5,H⟩:=bse H
  try dsimp only at H
  by_cases c6 : t711 = true
  ·subst c6
   have H1 : ((impl_MapTab_streamOut.f l0_0 a1).bind fun bt712=>(some (bt712.1,bt712.2))) = some (r1,r2):=by rw [if_pos rfl] at H;exact H
   clear H
   have H:=H1
   clear H1
   obtain ⟨⟨t712,t715⟩,A7,H⟩:=bse H
   try dsimp only at H
   simp only [Option.some.injEq,Prod.mk.injEq] at H
   obtain ⟨rfl,rfl⟩:=H
   go_enter Tryz.func34,Tryz.ntmps34
   go_wp2_with (first | ((with_reducible refine gD 2 rfl ?_);refine box_event rfl (N:=2) rfl (cs:=#[.slice A0_0 l0_0.length c0_0]) (t:=25) hr_ ?_;intro gb708 hg w8 hbox hb;have BK708:=am hbox;have GW708:=gwE HB hg;have GE708:=gwE HB hg;replace HB:=hbS HB hb;clear hb hbox hg) | ((with_reducible refine gD 4 rfl ?_);refine box_event rfl (N:=4) rfl (cs:=#[.slice none 0 0]) (t:=25) hr_ ?_;intro gb709 hg w9 hbox hb;have BK709:=am hbox;have GW709:=gwE HB hg;have GE709:=gwE HB hg;replace HB:=hbS HB hb;have NB708_709:=neL BK708 hg;have NB709_708:=neG BK708 hg;replace BK708:=bkB BK708 hb;clear hb hbox hg;have:=NB708_709.out;have:=NB709_708.out;have:=bcell BK708 0;have:=bfz BK708 0) | ((with_reducible refine gC 20 rfl ?_);refine gL (some 7) Tryz.func20 #[.agg #[.slice A0_0 l0_0.length c0_0]] ?_;(with_reducible refine (impl_MapOk.calls k _ _ l0_0 true _ ?side1 ?side2 A3.out).mono ?_);(case side1=>exact m4_);(case side2=>exact HC0_0.out);rintro e w12 ⟨rfl,hb⟩;refine ⟨_,rfl,?_⟩;replace BK708:=bkB BK708 hb;replace BK709:=bkB BK709 hb;replace HB:=hbS HB hb;(try clear hb)) | (go_at_call 68;(with_reducible refine (impl_StrOk.calls k a1 true _ A5.out (Env.below hE.e (bl HB))).mono ?_);rintro e w13 ⟨rfl,hb⟩;replace BK708:=bkB BK708 hb;replace BK709:=bkB BK709 hb;replace HB:=hbS HB hb;(try clear hb);have:=bcell BK708 0;have:=bfz BK708 0) | ((with_reducible refine gC 69 rfl ?_);refine gL (some 17) Tryz.func69 #[.agg #[.slice A0_0 l0_0.length c0_0],.string a1] ?_;(with_reducible refine (impl_MapTab_streamOut.calls _ _ l0_0 a1 t712 t715 _ ?side1 ?side2 A7.out (EnvE.below hE (bl HB))).mono ?_);(case side1=>exact m4_);(case side2=>exact HC0_0.out);rintro e w15 ⟨v713,rfl,ho0,hb⟩;refine ⟨_,rfl,?_⟩;have HO714:=am (Kd.R_lower ho0 (below_size (bl HB)));replace BK708:=bkB BK708 hb;replace BK709:=bkB BK709 hb;replace HB:=hbS HB hb;(try clear hb);(try clear ho0);obtain ⟨Ao16,co16,eo16⟩:=Kd.R_slice HO714.out;subst eo16;have:=bcell BK709 0;have:=bfz BK709 0))
   refine bodyPost_ret (results_ct rfl _ _ gb709 25 #[.slice Ao16 t712.length co16] (0,0) _ rfl (by (with_reducible repeat refine bu ?_);refine blk_put (cs:=#[.slice none 0 0]) ?_ 0 _ rfl;(with_reducible repeat refine bu ?_);exact BK709.out) Tryz.underlying25 rfl (by kernel_rfl)) rfl ?_
   exact ⟨_,fi_,by (with_reducible repeat apply ru);exact Kd.R_mono (Kd.R_far (p:=⟨gb709,0,none⟩) (Kd.R_types HO714.out BK709.out (by decide)) (fun _ hk=>hk.2) (.slice Ao16 t712.length co16)) (fun _ hk=>trivial),m2_⟩
  ·replace c6:=Bool.eq_false_iff.mpr c6
   subst c6
   have H1 : (some (([] : List (S34)),(⟨#[]⟩ : ByteArray))) = some (r1,r2):=by rw [if_neg (show ¬ (false = true) by decide)] at H;exact H
   clear H
   have H:=H1
   clear H1
   simp only [Option.some.injEq,Prod.mk.injEq] at H
   obtain ⟨rfl,rfl⟩:=H
   go_enter Tryz.func34,Tryz.ntmps34
   go_wp2_with (first | ((with_reducible refine gD 2 rfl ?_);refine box_event rfl (N:=2) rfl (cs:=#[.slice A0_0 l0_0.length c0_0]) (t:=25) hr_ ?_;intro gb708 hg w18 hbox hb;have BK708:=am hbox;have GW708:=gwE HB hg;have GE708:=gwE HB hg;replace HB:=hbS HB hb;clear hb hbox hg) | ((with_reducible refine gD 4 rfl ?_);refine box_event rfl (N:=4) rfl (cs:=#[.slice none 0 0]) (t:=25) hr_ ?_;intro gb709 hg w19 hbox hb;have BK709:=am hbox;have GW709:=gwE HB hg;have GE709:=gwE HB hg;replace HB:=hbS HB hb;have NB708_709:=neL BK708 hg;have NB709_708:=neG BK708 hg;replace BK708:=bkB BK708 hb;clear hb hbox hg;have:=NB708_709.out;have:=NB709_708.out;have:=bcell BK708 0;have:=bfz BK708 0) | ((with_reducible refine gC 20 rfl ?_);refine gL (some 7) Tryz.func20 #[.agg #[.slice A0_0 l0_0.length c0_0]] ?_;(with_reducible refine (impl_MapOk.calls k _ _ l0_0 true _ ?side1 ?side2 A3.out).mono ?_);(case side1=>exact m4_);(case side2=>exact HC0_0.out);rintro e w22 ⟨rfl,hb⟩;refine ⟨_,rfl,?_⟩;replace BK708:=bkB BK708 hb;replace BK709:=bkB BK709 hb;replace HB:=hbS HB hb;(try clear hb)) | (go_at_call 68;(with_reducible refine (impl_StrOk.calls k a1 false _ A5.out (Env.below hE.e (bl HB))).mono ?_);rintro e w23 ⟨rfl,hb⟩;replace BK708:=bkB BK708 hb;replace BK709:=bkB BK709 hb;replace HB:=hbS HB hb;(try clear hb);have:=bcell BK709 0;have:=bfz BK709 0))
   refine bodyPost_ret (results_ct rfl _ _ gb709 25 #[.slice none 0 0] (0,0) _ rfl (by (with_reducible repeat refine bu ?_);refine blk_put (cs:=#[.slice none 0 0]) ?_ 0 _ rfl;(with_reducible repeat refine bu ?_);exact BK709.out) Tryz.underlying25 rfl (by kernel_rfl)) rfl ?_
   exact ⟨_,fi_,by first | exact Kd.R_nil _ _ _ _ _ | exact Kd.N_nil _ _ _ _ _ | exact Kd.V_nil _ _ _ _ _ | exact Kd.Q_nil _ _ _ _ _ | exact Kd.S_nil _ _ _ _ _,m2_⟩
 ·replace c4:=Bool.eq_false_iff.mpr c4
  subst c4
  have H1 : (some (([] : List (S34)),(⟨#[]⟩ : ByteArray))) = some (r1,r2):=by rw [if_neg (show ¬ (false = true) by decide)] at H;exact H
  clear H
  have H:=H1
  clear H1
  simp only [Option.some.injEq,Prod.mk.injEq] at H
  obtain ⟨rfl,rfl⟩:=H
  go_enter Tryz.func34,Tryz.ntmps34
  go_wp2_with (first | ((with_reducible refine gD 2 rfl ?_);refine box_event rfl (N:=2) rfl (cs:=#[.slice A0_0 l0_0.length c0_0]) (t:=25) hr_ ?_;intro gb708 hg w25 hbox hb;have BK708:=am hbox;have GW708:=gwE HB hg;have GE708:=gwE HB hg;replace HB:=hbS HB hb;clear hb hbox hg) | ((with_reducible refine gD 4 rfl ?_);refine box_event rfl (N:=4) rfl (cs:=#[.slice none 0 0]) (t:=25) hr_ ?_;intro gb709 hg w26 hbox hb;have BK709:=am hbox;have GW709:=gwE HB hg;have GE709:=gwE HB hg;replace HB:=hbS HB hb;have NB708_709:=neL BK708 hg;have NB709_708:=neG BK708 hg;replace BK708:=bkB BK708 hb;clear hb hbox hg;have:=NB708_709.out;have:=NB709_708.out;have:=bcell BK708 0;have:=bfz BK708 0) | ((with_reducible refine gC 20 rfl ?_);refine gL (some 7) Tryz.func20 #[.agg #[.slice A0_0 l0_0.length c0_0]] ?_;(with_reducible refine (impl_MapOk.calls k _ _ l0_0 false _ ?side1 ?side2 A3.out).mono ?_);(case side1=>exact m4_);(case side2=>exact HC0_0.out);rintro e w29 ⟨rfl,hb⟩;refine ⟨_,rfl,?_⟩;replace BK708:=bkB BK708 hb;replace BK709:=bkB BK709 hb;replace HB:=hbS HB hb;(try clear hb);have:=bcell BK709 0;have:=bfz BK709 0))
  refine bodyPost_ret (results_ct rfl _ _ gb709 25 #[.slice none 0 0] (0,0) _ rfl (by (with_reducible repeat refine bu ?_);refine blk_put (cs:=#[.slice none 0 0]) ?_ 0 _ rfl;(with_reducible repeat refine bu ?_);exact BK709.out) Tryz.underlying25 rfl (by kernel_rfl)) rfl ?_
  exact ⟨_,fi_,by first | exact Kd.R_nil _ _ _ _ _ | exact Kd.N_nil _ _ _ _ _ | exact Kd.V_nil _ _ _ _ _ | exact Kd.Q_nil _ _ _ _ _ | exact Kd.S_nil _ _ _ _ _,m2_⟩
def laws_haStarts.f (a0 : ByteArray) (a1 : ByteArray) : Option (Bool):=if (a0.size : Int) ≥ (a1.size : Int) then (if 0 ≤ (a1.size : Int) then (if (a1.size : Int) ≤ (a0.size : Int) then (some ((a0.extract 0 ((a1.size : Int) : Int).toNat).toList == a1.toList)) else (none)) else (none)) else (some false)
set_option maxHeartbeats 8000000 in
set_option maxRecDepth 100000 in
theorem laws_haStarts.calls (a0 : ByteArray) (a1 : ByteArray) (r : Bool) (w : World) (h : laws_haStarts.f a0 a1 = some r) :
  Calls Tryz.prog 35 #[.string a0,.string a1] w fun e w'=>e = .returned (.bool r) ∧ Drawn0 w w':=by
 have H : (if (a0.size : Int) ≥ (a1.size : Int) then (if 0 ≤ (a1.size : Int) then (if (a1.size : Int) ≤ (a0.size : Int) then (some ((a0.extract 0 ((a1.size : Int) : Int).toNat).toList == a1.toList)) else (none)) else (none)) else (some false)) = some r:=h
 clear h
 by_cases c3 : (a0.size : Int) ≥ (a1.size : Int)
 ·rw [if_pos c3] at H
  have c3b0 : decide ((a1.size : Int) ≤ (a0.size : Int)) = true:=decide_eq_true c3
  have c3b1 : decide (a1.size ≤ a0.size) = true:=decide_eq_true (Int.ofNat_le.mp c3)
  clear c3
  by_cases c4 : 0 ≤ (a1.size : Int)
  ·rw [if_pos c4] at H
   have c4b0:=eq_true c4
   have c4b1 : decide (0 ≤ (a1.size : Int)) = true:=decide_eq_true c4
   clear c4
   by_cases c5 : (a1.size : Int) ≤ (a0.size : Int)
   ·rw [if_pos c5] at H
    have c5b0:=eq_true c5
    have c5b1 : decide ((a1.size : Int) ≤ (a0.size : Int)) = true:=decide_eq_true c5
    clear c5
    obtain rfl:=Option.some.inj H
    go_enter Tryz.func35,Tryz.ntmps35
    go_wp2
    go_ret
    exact ⟨fr_,dn_⟩
   ·rw [if_neg c5] at H
    exact absurd H (by simp)
  ·rw [if_neg c4] at H
   exact absurd H (by simp)
 ·rw [if_neg c3] at H
  have c3b0 : decide ((a1.size : Int) ≤ (a0.size : Int)) = false:=decide_eq_false c3
  have c3b1 : decide (a1.size ≤ a0.size) = false:=decide_eq_false (fun h=>c3 (Int.ofNat_le.mpr h))
  clear c3
  obtain rfl:=Option.some.inj H
  go_enter Tryz.func35,Tryz.ntmps35
  go_wp2
  go_ret
  exact ⟨fr_,dn_⟩
end
end Go.Proofs.YtffmbccgcaghjaaGreatDoor.P
